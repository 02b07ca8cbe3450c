/-
  The law TopBoxes, part 1.
-/
import Derived.Test.YtbconcohpfkncaaGreatZ
import Derived.Laws.Strings
import Derived.Laws.Strings2
import Derived.Laws.Concat
import Derived.Deep.AppendSrc
import Derived.Test.YtbconcohpfkncaaGreatNB
import Derived.Test.YtbconcohpfkncaaGreatT
import Derived.Test.YtbconcohpfkncaaGreatU
import Derived.Test.YtbconcohpfkncaaGreatW
import Derived.RecoverIn
import Derived.Lib.Builder
import Derived.Lib.UnsafeStr
import Derived.Lib.MakeNoZero
import Derived.Laws.Externs
import Derived.Test.YtbconcohpfkncaaGreatTy
namespace Go.Proofs.YtbconcohpfkncaaGreat
open Go
/-- A string's value, by its bytes. -/
abbrev str (l : List UInt8) : Value := .string ⟨l.toArray⟩
abbrev ptrV (b : Nat) : Value := .pointer (some ⟨b, 0, none⟩)
abbrev u8 (b : UInt8) : Value := .int .u8 (b.toNat : Int)
theorem str_get (l : List UInt8) (j : Nat) : (⟨l.toArray⟩ : ByteArray)[j]? = l[j]? := by
  by_cases h : j < l.length
  · rw [ByteArray.getElem?_lt' _ _ (by simpa [ByteArray.size] using h), List.getElem?_eq_getElem h]; rfl
  · rw [ByteArray.getElem?_ge' _ _ (by simpa [ByteArray.size] using h), List.getElem?_eq_none (by omega)]
theorem str_size (l : List UInt8) : (⟨l.toArray⟩ : ByteArray).size = l.length := by simp [ByteArray.size]
theorem str_list (l : List UInt8) : (⟨l.toArray⟩ : ByteArray).toList = l := by rw [ByteArray.toList_eq]
theorem str_cut (l : List UInt8) (a b : Nat) : (⟨l.toArray⟩ : ByteArray).extract a b = ⟨((l.drop a).take (b - a)).toArray⟩ := ByteArray.extract_mk l a b
/-- An operation on two strings. -/
def binS (op : BinOp) (a b : List UInt8) : Option Value :=
  match op with
  | .eql => some (.bool (decide (a = b)))
  | .neq => some (.bool (decide (a ≠ b)))
  | .lss => some (.bool (Op.bytesLess a b))
  | .leq => some (.bool (Op.bytesLess a b || decide (a = b)))
  | .gtr => some (.bool (!(Op.bytesLess a b || decide (a = b))))
  | .geq => some (.bool (!Op.bytesLess a b))
  | _ => none
theorem beq_dec (a b : List UInt8) : (a == b) = decide (a = b) := by
  by_cases h : a = b
  · subst h; simp
  · rw [decide_eq_false h]; exact beq_eq_false_iff_ne.2 h
section rules
variable {P : Program} {c : Cx} {A : Array Oper} {rest : List Oper} {K : Kont} {L : Env} {H : List HP} {t : TypeId} {p : String} {e : Array Edge} {d : Nat}
theorem run_binS {op : BinOp} {ty : TypeId} {a b : List UInt8} {v : Value} (h : binS op a b = some v) (w : World) : (binOp op ty (str a) (str b)).run P w = .ok v w := by
  cases op <;> simp only [binS] at h <;> first
    | (cases h; done)
    | (simp only [Option.some.injEq] at h; subst h; simp only [binOp, Op.stringOp, str_list, beq_dec, decide_not]; rfl)
theorem run_eqGuard_str (op : BinOp) (ty : TypeId) (x y : Operand) (a b : List UInt8) (w : World) : (eqGuard op ty x y (str a) (str b)).run P w = .ok () w := by
  unfold eqGuard; split <;> rfl
theorem GO.binS {op : BinOp} {x y : Operand} {a b : List UInt8} {v : Value} {ty ty' : TypeId} (hN : Nat.blt d c.N = true) (hx : evl L x = some (str a)) (hy : evl L y = some (str b)) (hv : YtbconcohpfkncaaGreat.binS op a b = some v)
    (k : GO P c A rest K ((d, v) :: L) H) : GO P c A (⟨some d, .binOp op ty x y ty', t, p, e, none⟩ :: rest) K L H :=
  GO.val hN rfl (fun s w Y h _ => by
    simp only [execOp, h.eval hx, h.eval hy]
    simp [Sem.run_bind, run_eqGuard_str, run_binS hv, Result.andThen]) k
theorem GO.strCat {x y : Operand} {a b : List UInt8} {ty ty' : TypeId} (hN : Nat.blt d c.N = true) (hx : evl L x = some (str a)) (hy : evl L y = some (str b)) (hl : ¬ 9223372036854775807 < a.length + b.length)
    (k : GO P c A rest K ((d, str (a ++ b)) :: L) H) : GO P c A (⟨some d, .binOp .add ty x y ty', t, p, e, none⟩ :: rest) K L H :=
  GO.val hN rfl (fun s w Y h _ => by
    simp only [execOp, h.eval hx, h.eval hy]
    have := run_string_add_sum (P := P) (w := w) ⟨a.toArray⟩ ⟨b.toArray⟩ (by rw [str_size, str_size]; omega)
    rw [ByteArray.mk_append_mk] at this
    simp [Sem.run_bind, run_eqGuard_str, binOp, this, Result.andThen]) k
/-- A byte. -/
theorem GO.strIdx {ty : TypeId} {kk : IntKind} {i : Int} {j : Nat} {l : List UInt8} {b : UInt8} {x y : Operand} [hu : UL P ty .string] (hN : Nat.blt d c.N = true) (hx : evl L x = some (str l)) (hy : evl L y = some (.int kk i)) (hi : i = (j : Int)) (hb : l[j]? = some b)
    (k : GO P c A rest K ((d, u8 b) :: L) H) : GO P c A (⟨some d, .index ty x y, t, p, e, none⟩ :: rest) K L H :=
  GO.val hN rfl (fun s w Y h _ => by
    subst hi
    simp only [execOp, h.eval hx, h.eval hy, Instr.index, asIntOf]
    simp [Sem.run_bind, run_underlying hu.out, Result.andThen, str_get, hb]) k
theorem GO.strLen {at1 : TypeId} {l : List UInt8} {x : Operand} [hu : UL P at1 .string] (hN : Nat.blt d c.N = true) (hx : evl L x = some (str l))
    (k : GO P c A rest K ((d, .int .i64 (l.length : Int)) :: L) H) : GO P c A (⟨some d, .call ⟨.builtin .len, #[x], #[at1]⟩, t, p, e, none⟩ :: rest) K L H :=
  GO.val hN rfl (fun a w Y h _ => by
    simp only [execOp, resolve, invoke, builtin]
    simp [Sem.run_bind, Result.andThen, Builtin.len_, h.eval hx, run_underlying hu.out, goInt, str_size]) k
theorem GO.strHi {ty : TypeId} {kk : IntKind} {i : Int} {b : Nat} {l : List UInt8} {x y : Operand} [hu : UL P ty .string] (hN : Nat.blt d c.N = true) (hx : evl L x = some (str l)) (hy : evl L y = some (.int kk i)) (hi : i = (b : Int) ∧ b ≤ l.length)
    (k : GO P c A rest K ((d, str (l.take b)) :: L) H) : GO P c A (⟨some d, .slice ty x none (some y) none, t, p, e, none⟩ :: rest) K L H :=
  GO.val hN rfl (fun s w Y h _ => by
    obtain ⟨rfl, h1⟩ := hi
    have hle : (b : Int) ≤ l.length := by omega
    simp only [execOp, h.eval hx, Option.map_none, Option.map_some, h.eval hy]
    simp [Instr.sliceAt, Instr.slice, Sem.run_bind, run_underlying hu.out, Instr.sliceBounds, run_sliceBound w _ _ _ _ (Int.natCast_nonneg b) hle, Result.andThen, str_size, str_cut]) k
theorem GO.strLH {ty : TypeId} {kk kk' : IntKind} {i i' : Int} {a b : Nat} {l : List UInt8} {x y y' : Operand} [hu : UL P ty .string] (hN : Nat.blt d c.N = true) (hx : evl L x = some (str l)) (hy : evl L y = some (.int kk i)) (hy' : evl L y' = some (.int kk' i')) (hi : i = (a : Int) ∧ i' = (b : Int) ∧ a ≤ b ∧ b ≤ l.length)
    (k : GO P c A rest K ((d, str ((l.drop a).take (b - a))) :: L) H) : GO P c A (⟨some d, .slice ty x (some y) (some y') none, t, p, e, none⟩ :: rest) K L H :=
  GO.val hN rfl (fun s w Y h _ => by
    obtain ⟨rfl, rfl, h1, h2⟩ := hi
    have hle : (a : Int) ≤ b := by omega
    have hle2 : (b : Int) ≤ l.length := by omega
    simp only [execOp, h.eval hx, Option.map_none, Option.map_some, h.eval hy, h.eval hy']
    simp [Instr.sliceAt, Instr.slice, Sem.run_bind, run_underlying hu.out, Instr.sliceBounds, run_sliceBound w _ _ _ _ (Int.natCast_nonneg b) hle2, run_sliceBound w _ _ _ _ (Int.natCast_nonneg a) hle, Result.andThen, str_size, str_cut]) k
theorem GO.buildP2 {ty : TypeId} {i1 i2 : Nat} {x1 x2 : Operand} {v1 v2 : Value} {l : List Value} (hb : P.built ty [(i1, v1), (i2, v2)] = some l.toArray) (hN : Nat.blt d c.N = true) (h1 : evl L x1 = some v1) (h2 : evl L x2 = some v2)
    (k : GO P c A rest K ((d, .agg l.toArray) :: L) H) : GO P c A (⟨some d, .build ty #[(i1, x1), (i2, x2)], t, p, e, none⟩ :: rest) K L H :=
  GO.buildPart (ps := [(i1, x1), (i2, x2)]) hb hN ⟨rfl, h1, rfl, h2, trivial⟩ k
end rules
end Go.Proofs.YtbconcohpfkncaaGreat
namespace Go.Proofs.YtbconcohpfkncaaGreat
open Go
/-- Bytes as values. -/
def bytesV (l : List UInt8) : List Value := l.map u8
theorem bytesV_len (l : List UInt8) : (bytesV l).length = l.length := by simp [bytesV]
theorem bytesV_app (l k : List UInt8) : bytesV (l ++ k) = bytesV l ++ bytesV k := by simp [bytesV]
theorem bytesV_one (l : List UInt8) : ∀ u ∈ bytesV l, u.oneCell' = true := fun u hu => by
  obtain ⟨_, _, rfl⟩ := List.mem_map.1 hu; rfl
section
variable {P : Program}
theorem firstCells_str (l : List UInt8) (w : World) : (Builtin.firstCells 1 l.length (str l)).run P w = .ok (bytesV l).toArray w := by
  have := firstCells_string (P := P) (⟨l.toArray⟩ : ByteArray) w
  rw [str_size] at this
  exact this
theorem run_append_room_str (w : World) (t tx ty e : TypeId) (i : TypeInfo) (ht : P.underlying t = some (.slice e)) (hk : P.underlying tx = some .string) (hi : P.info? e = some i) (h1 : i.size = 1)
    (g sLen sCap : Nat) (cur : Array Value) (hg : w.heap[g]? = some (.cells cur e (0, 0))) (l : List UInt8) (hroom : sLen + l.length ≤ sCap) (hfit : sLen * i.size + (bytesV l).length ≤ cur.size) :
    (Builtin.append_ #[t, tx] ty #[.slice (some ⟨g, 0, none⟩) sLen sCap, str l]).run P w =
      .ok (.slice (some ⟨g, 0, none⟩) (sLen + l.length) sCap) (w.setRow g (cur.toList.take (sLen * i.size) ++ bytesV l ++ cur.toList.drop (sLen * i.size + (bytesV l).length)).toArray) := by
  have hf := firstCells_str (P := P) l w
  have hst := run_storeCells_at P g (sLen * i.size) e (bytesV l) 0 cur w hg (by simpa using hfit) (bytesV_one l)
  simp only [Nat.add_zero] at hst
  rw [h1] at hst hfit ⊢
  simp [Builtin.append_, run_underlying ht, run_underlying hk, sizeOf, typeInfo, hi, h1, Builtin.lenOf, str_size, hroom, hf, Addr.add_lit]
  have hst' : (storeCells ⟨g, sLen, none⟩ (bytesV l)).run P w = .ok () (w.setRow g (cur.toList.take sLen ++ (bytesV l ++ cur.toList.drop (sLen + (bytesV l).length))).toArray) := by simpa using hst
  rw [hst']
  rfl
theorem own_append_str (w : World) {at1 tx t el : TypeId} {n : Nat} {zl xs : List Value} {v : Value} {l : List HP} (s : List UInt8) [hu : UL P at1 (.slice el)] [hk : UL P tx .string] [hs : SZ P el 1] [hb : BY P el 1] [hz : ZC P el zl]
    (hzl : zl.length = 1) (h63 : n + s.length ≤ maxLen) (hbytes : n + s.length ≤ 140737488355328) (hm : 0 < s.length)
    (st : sat (own el 1 n v xs :: l) w) : ∃ v' w', (Builtin.append_ #[at1, tx] t #[v, str s]).run P w = .ok v' w' ∧ Same w w' ∧ sat (own el 1 (n + s.length) v' (xs ++ bytesV s) :: l) w' := by
  have hso := hs.out
  have hzo := hz.out
  have hbo := hb.out
  have hsmall : n + s.length ≤ 9223372036854775807 := by simp only [maxLen] at h63; omega
  cases hqq : P.info? el with
  | none => simp [hqq] at hso
  | some ie =>
    cases hzz : ie.zero with
    | none => simp [hqq, hzz] at hzo
    | some z =>
      have hsz2 : ie.size = 1 := by simpa [hqq] using hso
      have hby : ie.bytes = 1 := by simpa [hqq] using hbo
      have hzs : z.cells.size = 1 := by
        have : z.cells.toList = zl := by simpa [hqq, hzz] using hzo
        rw [← Array.length_toList, this, hzl]
      have hsrc : Src P ie.size tx (str s) s.length (bytesV s) w := by
        rw [hsz2]
        have := Src.ofString (P := P) w hk.out (⟨s.toArray⟩ : ByteArray)
        rw [str_size] at this
        exact this
      have grow : ∀ (base : Option Addr) (cap : Nat), cap < n + s.length → (Builtin.firstCells ie.size n (.slice base n cap)).run P w.drew = .ok xs.toArray w.drew → xs.length = n → sat l w → ∃ v' w', (Builtin.append_ #[at1, tx] t #[.slice base n cap, str s]).run P w = .ok v' w' ∧ Same w w' ∧ sat (own el 1 (n + s.length) v' (xs ++ bytesV s) :: l) w' := by
        intro base cap hg hf hxl s2
        have hr := run_append_grow_src (P := P) w at1 tx t el ie z hu.out hqq hzz base n cap xs hf (str s) s.length (bytesV s) hsrc hg (by omega) (growslice_fits (by omega) (by rw [hby]; omega))
        have hge := grownCap_ge w (n + s.length) cap el
        have hcm : grownCap w (n + s.length) cap el ≤ maxLen := grownCap_le_maxLen w (n + s.length) cap el h63
        have e1 : (Obj.cells ((xs ++ bytesV s).toArray ++ Builtin.zeroCells z.cells (grownCap w (n + s.length) cap el - (n + s.length))) el) = row ((xs ++ bytesV s) ++ (Builtin.zeroCells z.cells (grownCap w (n + s.length) cap el - (n + s.length))).toList) el := by
          unfold row; congr 1; apply Array.ext'; simp
        rw [e1] at hr
        have s3 := sat_alloc (w := w.drew) (sat_heap s2 rfl) (row ((xs ++ bytesV s) ++ (Builtin.zeroCells z.cells (grownCap w (n + s.length) cap el - (n + s.length))).toList) el)
        refine ⟨_, _, hr, Same.trans (Same.drawn _ (Nat.le_add_right _ _)) (Same.alloc _ _), ?_⟩
        refine own_in (cap := grownCap w (n + s.length) cap el) rfl (by rw [List.length_append, hxl, bytesV_len, Nat.mul_one]) (by omega) hcm ?_ s3
        simp only [List.length_append, Array.length_toList, size_zeroCells, hzs, hxl, bytesV_len]
        omega
      rcases own_shape st with ⟨rfl, rfl, rfl, s0⟩ | ⟨b, cap, rest', rfl, g1, g2, g3, g4, s0⟩
      · exact grow none 0 (by omega) (by simpa using run_firstCells_none (P := P) (w := w.drew) ie.size 0 0 0) rfl s0
      · have hg : w.heap[b]? = some (row (xs ++ rest') el) := sat_pt s0
        by_cases hroom : n + s.length ≤ cap
        · have hr := run_append_room_str (P := P) w at1 tx t el ie hu.out hk.out hqq hsz2 b n cap (xs ++ rest').toArray hg s hroom (by rw [hsz2, bytesV_len]; simp only [List.size_toArray]; omega)
          have e1 : ((xs ++ rest').toArray.toList.take (n * ie.size) ++ bytesV s ++ (xs ++ rest').toArray.toList.drop (n * ie.size + (bytesV s).length)) = (xs ++ bytesV s) ++ rest'.drop (bytesV s).length := by
            rw [List.toList_toArray, hsz2, ← g1, List.take_left, List.drop_append, List.drop_of_length_le (by omega)]
            simp
          rw [e1] at hr
          refine ⟨_, _, hr, ⟨rfl, rfl, rfl, by simp [World.setRow], Nat.le_refl _⟩, ?_⟩
          refine own_in (cap := cap) rfl (by rw [List.length_append, g1, bytesV_len]; omega) hroom g3 ?_ (sat_upd s0 (setRow_heap w b _ _ el _ hg) (fun k hk => setRow_other w b k _ hk))
          rw [List.length_append] at g4
          simp only [List.length_append, List.length_drop, bytesV_len]; omega
        · have holds : ∀ j u, xs[j]? = some u → w.drew.cell? ((⟨b, 0, none⟩ : Addr).add j) = some u := fun j u hj => by
            rw [add_plain, Nat.zero_add]
            have hg' : w.drew.heap[b]? = some (row (xs ++ rest') el) := hg
            simp only [World.cell?, hg', row]
            have hjl : j < xs.length := (List.getElem?_eq_some_iff.1 hj).1
            simp [List.getElem?_append_left hjl, hj]
          exact grow _ cap (by omega) (run_firstCells_some w.drew ie.size n ⟨b, 0, none⟩ n cap xs (by rw [hsz2]; exact g1) holds) (by omega) (sat_right (l := [pt b (row (xs ++ rest') el)]) s0)
variable {c : Cx} {A : Array Oper} {rest : List Oper} {K : Kont} {L : Env} {H : List HP} {t : TypeId} {p : String} {e : Array Edge} {d : Nat}
/-- append(b, s...) of a string. -/
theorem GO.appendStr {el at1 tx : TypeId} {n : Nat} {zl xs : List Value} {v : Value} {x y : Operand} {s : List UInt8} {F : List HP} [hu : UL P at1 (.slice el)] [hk : UL P tx .string] [hs : SZ P el 1] [hb : BY P el 1] [hz : ZC P el zl]
    (hN : Nat.blt d c.N = true) (hx : evl L x = some v) (hy : evl L y = some (str s)) (tk : Tk (own el 1 n v xs) H F) (hzl : zl.length = 1) (hm : 0 < s.length) (h63 : n + s.length ≤ maxLen) (hbytes : n + s.length ≤ 140737488355328)
    (k : ∀ v', GO P c A rest K ((d, v') :: L) (own el 1 (n + s.length) v' (xs ++ bytesV s) :: F)) : GO P c A (⟨some d, .call ⟨.builtin .append, #[x, y], #[at1, tx]⟩, t, p, e, none⟩ :: rest) K L H :=
  GO.gen hN rfl (fun v' H' => H' = own el 1 (n + s.length) v' (xs ++ bytesV s) :: F)
    (fun a w Y h st => by
      have s1 : sat (own el 1 n v xs :: (F ++ Y)) w := sat_perm (List.Perm.append_right Y tk) st
      obtain ⟨v', w', hrun, hsame, hsat⟩ := own_append_str (P := P) w (t := t) s (hu := hu) (hk := hk) hzl h63 hbytes hm s1
      refine ⟨v', w', _, ?_, hsame, rfl, hsat⟩
      simp only [execOp, resolve, invoke, builtin]
      simp [Sem.run_bind, Result.andThen, h.eval hx, h.eval hy, hrun])
    (by rintro v' _ rfl; exact k v')
end
end Go.Proofs.YtbconcohpfkncaaGreat
namespace Go.Proofs.YtbconcohpfkncaaGreat
open Go
attribute [local irreducible] pt init exs pur own
/-- What is thrown. -/
abbrev chn (v : Value) : List PanicEntry := [{ v := v, recovered := false }]
def RetX (w : World) (F : List HP) (R E : Value → List HP → Prop) : Ending → World → Prop := fun e w' =>
  (∃ v Q, e = .returned v ∧ Same w w' ∧ R v Q ∧ sat (Q ++ F) w') ∨ (∃ v Q, e = .panicked (chn v) ∧ Same w w' ∧ E v Q ∧ sat (Q ++ F) w')
/-- Called with these values where memory has the pieces Pre, f returns a v and leaves pieces Q of which R is true, or throws a v and leaves pieces of which E is true. -/
def FnX (P : Program) (f : FuncId) (args : Array Value) (Pre : List HP) (R E : Value → List HP → Prop) : Prop := ∀ F w, sat (Pre ++ F) w → CallsIn Fence.wide 0 P f args w (RetX w F R E)
theorem RetX.mono {w : World} {F : List HP} {R E R' E' : Value → List HP → Prop} (h : ∀ v Q, R v Q → R' v Q) (g : ∀ v Q, E v Q → E' v Q) {e : Ending} {w' : World} (r : RetX w F R E e w') : RetX w F R' E' e w' := by
  rcases r with ⟨v, Q, a, b, x, d⟩ | ⟨v, Q, a, b, x, d⟩
  · exact .inl ⟨v, Q, a, b, h v Q x, d⟩
  · exact .inr ⟨v, Q, a, b, g v Q x, d⟩
theorem FnX.mono {P : Program} {f : FuncId} {args : Array Value} {Pre : List HP} {R E R' E' : Value → List HP → Prop} (h : FnX P f args Pre R E) (k : ∀ v Q, R v Q → R' v Q) (g : ∀ v Q, E v Q → E' v Q) : FnX P f args Pre R' E' :=
  fun F w s => (h F w s).mono fun _ _ => RetX.mono k g
theorem FnX.frame {P : Program} {f : FuncId} {args : Array Value} {Pre : List HP} {R E : Value → List HP → Prop} (h : FnX P f args Pre R E) (X : List HP) : FnX P f args (Pre ++ X) (fun v Q => ∃ Q', R v Q' ∧ Q = Q' ++ X) (fun v Q => ∃ Q', E v Q' ∧ Q = Q' ++ X) := by
  intro F w s
  rw [List.append_assoc] at s
  refine (h (X ++ F) w s).mono ?_
  rintro e w' (⟨v, Q, a, b, x, d⟩ | ⟨v, Q, a, b, x, d⟩)
  · exact .inl ⟨v, Q ++ X, a, b, ⟨Q, x, rfl⟩, by rw [List.append_assoc]; exact d⟩
  · exact .inr ⟨v, Q ++ X, a, b, ⟨Q, x, rfl⟩, by rw [List.append_assoc]; exact d⟩
theorem kthen_p {n : Env → List HP → Prop} {K : Kont} {L : Env} {H : List HP} {ch : List PanicEntry} (k : K (.panic ch) L H) : kthen n K (.panic ch) L H := k
theorem kblock_p {id : Nat} {K : Kont} {L : Env} {H : List HP} {ch : List PanicEntry} (k : K (.panic ch) L H) : kblock id K (.panic ch) L H := k
/-- The end of a function that may throw. -/
def KFX (P : Program) (fn : Func) (R E : Value → List HP → Prop) (F : List HP) : Kont
  | .normal, L, H => ∃ v Q, Res P fn.ntmps fn L H v ∧ R v Q ∧ ImpS H (Q ++ F)
  | .ret, L, H => ∃ v Q, Res P fn.ntmps fn L H v ∧ R v Q ∧ ImpS H (Q ++ F)
  | .panic ch, _, H => ∃ v Q, ch = chn v ∧ E v Q ∧ ImpS H (Q ++ F)
  | _, _, _ => False
theorem leaves_panic {P : Program} {fn : Func} {tmps : Array Value} {R : Ending → World → Prop} {ch : List PanicEntry} {l : List HP} : ∀ (ds : List Nat) (w : World), sat (l ++ ds.map dblk) w →
    (∀ w', Same w w' → sat l w' → R (.panicked ch) w') → LeavesInM Fence.wide 0 P fn tmps R (ds.map mark) (.panicking ch) w
  | [], w, s, h => by
    simp at s
    exact h w (Same.refl w) s
  | d :: ds, w, s, h => by
    simp only [List.map_cons] at s
    have s' : sat (dblk d :: (l ++ ds.map dblk)) w := sat_perm List.perm_middle s
    have hb := sat_pt s'
    refine ⟨by simp, .inl ⟨d, _, rfl, run_takeDeferred hb, ?_⟩⟩
    refine leaves_panic ds _ ?_ (fun w' sm sl => h w' ((Same.putObj _ _ _).trans sm) sl)
    have := sat_upd (o' := .deferred none) (w' := w.putObj d (.deferred none)) s' (World.putObj_heap_same (Array.getElem?_eq_some_iff.1 hb).1) (fun k hk => World.putObj_heap_other hk)
    exact sat_right (l := [pt d (.deferred none)]) this
theorem FnX.mk {P : Program} {f : FuncId} {args : Array Value} {Pre : List HP} {R E : Value → List HP → Prop} {fn : Func} {x : Code} (hf : P.funcs[f]? = some fn) (hb : fn.body = some x) (hN : Nat.ble args.size fn.ntmps = true)
    (h : ∀ w0 F, G P ⟨none, fn.ntmps, w0, [], [], false⟩ x (KFX P fn R E F) (penv 0 args.toList) (Pre ++ F)) : FnX P f args Pre R E := by
  intro F w s
  have hN' : args.size ≤ fn.ntmps := by simpa using hN
  refine callsIn_of_wp_marks (fn := fn) (c := x) hf hb trivial ?_ rfl
  refine wpIn_mono (h w F _ w ⟨⟨?_, ?_⟩, Same.refl w, [], rfl, fun _ => rfl, by simpa using s⟩) ?_
  · simp; omega
  · intro t v e
    obtain ⟨_, h2⟩ := look_penv _ _ _ _ e
    simp at h2
    have hlt : t < args.size := by
      have := (Array.getElem?_eq_some_iff.1 h2).1; exact this
    rw [Array.getElem?_append_left hlt]; exact h2
  · rintro e a' w' ⟨L', H', ⟨h1, h2, ds, h3, _, h5⟩, q⟩
    have hd : a'.defers = ds.map mark := by simpa using h3
    have fin : (∃ v Q, Res P fn.ntmps fn L' H' v ∧ R v Q ∧ ImpS H' (Q ++ F)) → LeavesInM Fence.wide 0 P fn a'.tmps (RetX w F R E) a'.defers .returning w' := by
      rintro ⟨v, Q, hr, hR, hsb⟩
      rw [hd]
      refine leaves_marks (l := H') (v := v) ds w' (by simpa using h5) fun w2 sm sl => ⟨?_, .inl ⟨v, Q, rfl, h2.trans sm, hR, ?_⟩⟩
      · exact hr a' w2 [] h1 (by simpa using sl)
      · have := hsb [] w2 (by simpa using sl)
        simpa using this
    cases e with
    | normal => exact fin q
    | ret => exact fin q
    | panic ch =>
      obtain ⟨v, Q, rfl, hE, hsb⟩ := q
      show LeavesInM Fence.wide 0 P fn a'.tmps (RetX w F R E) a'.defers (.panicking (chn v)) w'
      rw [hd]
      refine leaves_panic (l := H') ds w' (by simpa using h5) fun w2 sm sl => .inr ⟨v, Q, rfl, h2.trans sm, hE, ?_⟩
      have := hsb [] w2 (by simpa using sl)
      simpa using this
    | _ => exact q.elim
section
variable {P : Program} {L : Env} {H F : List HP} {fn : Func} {R E : Value → List HP → Prop} {Q : List HP} {q1 q2 q3 : ResultVar} {v1 v2 v3 : Value}
theorem KFX.r1 (hr : fn.results = #[q1]) (h1 : RV P L H q1 v1) (h : R v1 Q) (sb : ImpS H (Q ++ F)) : KFX P fn R E F .ret L H := ⟨_, Q, RVs.res (rs := [q1]) (vs := [v1]) hr ⟨h1, trivial⟩, h, sb⟩
theorem KFX.r2 (hr : fn.results = #[q1, q2]) (h1 : RV P L H q1 v1) (h2 : RV P L H q2 v2) (h : R (.tuple #[v1, v2]) Q) (sb : ImpS H (Q ++ F)) : KFX P fn R E F .ret L H := ⟨_, Q, RVs.res (rs := [q1, q2]) (vs := [v1, v2]) hr ⟨h1, h2, trivial⟩, h, sb⟩
theorem KFX.p {v : Value} (h : E v Q) (sb : ImpS H (Q ++ F)) : KFX P fn R E F (.panic (chn v)) L H := ⟨v, Q, rfl, h, sb⟩
end
/-- A function value that may throw. -/
def FnXV (P : Program) (v : Value) (args : List Value) (Pre : List HP) (R E : Value → List HP → Prop) : Prop :=
  ∃ fn caps, v = .func fn #[] caps ∧ ∀ F w, sat (Pre ++ F) w → ∃ nx, (invoke (.fn fn caps) args.toArray).run P w = .ok nx w ∧ NxOk P nx w (RetX w F R E)
theorem FnXV.of {P : Program} {f : FuncId} [hc : Cal P f] {args caps : List Value} {Pre : List HP} {R E : Value → List HP → Prop} (h : FnX P f (args ++ caps).toArray Pre R E) : FnXV P (.func (.func f) #[] caps.toArray) args Pre R E :=
  ⟨_, _, rfl, fun F w s => ⟨.enter f (args ++ caps).toArray, by simp [invoke, hc.out], h F w s⟩⟩
theorem FnXV.mono {P : Program} {v : Value} {args : List Value} {Pre : List HP} {R E R' E' : Value → List HP → Prop} (h : FnXV P v args Pre R E) (k : ∀ v Q, R v Q → R' v Q) (g : ∀ v Q, E v Q → E' v Q) : FnXV P v args Pre R' E' :=
  let ⟨fn, caps, hv, h⟩ := h
  ⟨fn, caps, hv, fun F w s => let ⟨nx, h1, h2⟩ := h F w s; ⟨nx, h1, h2.mono fun _ _ => RetX.mono k g⟩⟩
section rules
variable {P : Program} {c : Cx} {A : Array Oper} {rest : List Oper} {K : Kont} {L : Env} {H F : List HP} {t : TypeId} {p : String} {e : Array Edge} {vs : List Value} {d : Nat}
theorem GO.callXG {dst : Option Nat} {f : FuncId} [hc : Cal P f] {xs : List Operand} {ats : Array TypeId} {Pre : List HP} {R E : Value → List HP → Prop} (hN : (match dst with | some d => Nat.blt d c.N | none => true) = true)
    (hv : Vals L xs vs) (spec : FnX P f vs.toArray Pre R E) (tk : Tks Pre H F) (kp : ∀ v Q, E v Q → K (.panic (chn v)) L (Q ++ F))
    (k : ∀ v Q, R v Q → GO P c A rest K (match dst with | some d => (d, v) :: L | none => L) (Q ++ F)) : GO P c A (⟨dst, .call ⟨.value (.func f), xs.toArray, ats⟩, t, p, e, none⟩ :: rest) K L H := by
  rintro a w ⟨h1, h2, D, h3, h4, h5⟩
  simp only [opsWp, Region.wanted, if_true]
  rw [semAt_nd _ _ _ rfl, run_call]
  refine ⟨fun h => by simp [fen, Fence.wide] at h, calls_round ?_⟩
  have hargs : xs.toArray.map a.eval = vs.toArray := by simp [Vals.map h1 hv]
  rw [hargs]
  have s1 : sat (Pre ++ (F ++ (c.X ++ D.map dblk))) w := by
    rw [← List.append_assoc]; exact sat_perm (List.Perm.append_right _ tk) h5
  refine (spec _ w s1).mono ?_
  rintro en w' (⟨v, Q, rfl, hs, hR, hq⟩ | ⟨v, Q, rfl, hs, hR, hq⟩)
  · refine k v Q hR _ w' ⟨?_, h2.trans hs, D, ?_, h4, ?_⟩
    · cases dst with
      | none => simpa [Act.put] using h1
      | some d => exact h1.put hN
    · cases dst <;> simpa [Act.put] using h3
    · rw [List.append_assoc]; exact hq
  · exact ⟨L, Q ++ F, ⟨h1, h2.trans hs, D, h3, h4, by rw [List.append_assoc]; exact hq⟩, kp v Q hR⟩
theorem GO.callXVG {dst : Option Nat} {x : Operand} {v0 : Value} {xs : List Operand} {ats : Array TypeId} {Pre : List HP} {R E : Value → List HP → Prop} (hN : (match dst with | some d => Nat.blt d c.N | none => true) = true)
    (hx : evl L x = some v0) (hv : Vals L xs vs) (spec : FnXV P v0 vs Pre R E) (tk : Tks Pre H F) (kp : ∀ v Q, E v Q → K (.panic (chn v)) L (Q ++ F))
    (k : ∀ v Q, R v Q → GO P c A rest K (match dst with | some d => (d, v) :: L | none => L) (Q ++ F)) : GO P c A (⟨dst, .call ⟨.value x, xs.toArray, ats⟩, t, p, e, none⟩ :: rest) K L H := by
  rintro a w ⟨h1, h2, D, h3, h4, h5⟩
  obtain ⟨fn, caps, rfl, spec⟩ := spec
  have s1 : sat (Pre ++ (F ++ (c.X ++ D.map dblk))) w := by
    rw [← List.append_assoc]; exact sat_perm (List.Perm.append_right _ tk) h5
  obtain ⟨nx, hrun, hnx⟩ := spec _ w s1
  have hargs : xs.toArray.map a.eval = vs.toArray := by simp [Vals.map h1 hv]
  have hex : (execOp a.eval ⟨dst, .call ⟨.value x, xs.toArray, ats⟩, t, p, e, none⟩).run P w = .ok nx w := by
    have he := h1.eval hx
    have hf : (#[] : Array Value) ++ vs.toArray = vs.toArray := by simp
    simp only [execOp, resolve, hargs, he, Deferred.ofValue, Sem.run_bind, Sem.run_pure, Result.andThen_ok, hf, hrun]
  simp only [opsWp, Region.wanted, if_true]
  rw [semAt_nd _ _ _ rfl, hex]
  have fin : ∀ en w', RetX w (F ++ (c.X ++ D.map dblk)) R E en w' → (∃ v, en = .returned v ∧ opsWp (fen c.r) P A (Post c K) rest (a.put dst v) w') ∨ (∃ v, en = .panicked (chn v) ∧ Post c K (.panic (chn v)) a w') := by
    rintro en w' (⟨v, Q, rfl, hs, hR, hq⟩ | ⟨v, Q, rfl, hs, hR, hq⟩)
    · refine .inl ⟨v, rfl, k v Q hR _ w' ⟨?_, h2.trans hs, D, ?_, h4, ?_⟩⟩
      · cases dst with
        | none => simpa [Act.put] using h1
        | some d => exact h1.put hN
      · cases dst <;> simpa [Act.put] using h3
      · rw [List.append_assoc]; exact hq
    · exact .inr ⟨v, rfl, L, Q ++ F, ⟨h1, h2.trans hs, D, h3, h4, by rw [List.append_assoc]; exact hq⟩, kp v Q hR⟩
  cases nx with
  | enter f ar =>
    refine ⟨fun h => by simp [fen, Fence.wide] at h, calls_round ?_⟩
    refine CallsIn.mono hnx fun en w' hr => ?_
    rcases fin en w' hr with ⟨v, rfl, h⟩ | ⟨v, rfl, h⟩ <;> exact h
  | round l f t x y =>
    refine ⟨fun h => by simp [fen, Fence.wide] at h, rounds_round ?_⟩
    refine RoundIn.mono hnx fun en w' hr => ?_
    rcases fin en w' hr with ⟨v, rfl, h⟩ | ⟨v, rfl, h⟩ <;> exact h
  | _ => exact hnx.elim
/-- A panic. -/
theorem GO.panic {x : Operand} {T : TypeId} {v : Value} (hx : evl L x = some (.iface T v)) (k : K (.panic (chn (.iface T v))) L H) : GO P c A (⟨none, .panic x, t, p, e, none⟩ :: rest) K L H := by
  rintro a w h
  simp only [opsWp, Region.wanted, if_true]
  have hr : (execOp a.eval ⟨none, .panic x, t, p, e, none⟩).run P w = .halt (.panic (.iface T v)) w := by
    simp only [execOp, h.at_.eval hx, Instr.panic]
    rfl
  rw [semAt_nd _ _ _ rfl, hr]
  exact ⟨L, H, h, k⟩
theorem GO.mkIface {x : Operand} {T : TypeId} {ds : TypeDesc} {v : Value} [hu : UL P T ds] (hi : (match ds with | .interface _ => false | _ => true) = true) (hN : Nat.blt d c.N = true) (hx : evl L x = some v) (k : GO P c A rest K ((d, .iface T v) :: L) H) : GO P c A (⟨some d, .makeInterface T x, t, p, e, none⟩ :: rest) K L H :=
  GO.val hN rfl (fun a w Y h _ => by
    simp only [execOp, h.eval hx, Instr.makeInterface]
    simp only [Sem.run_bind, run_underlying hu.out, Result.andThen]
    cases ds <;> first | rfl | (simp at hi)) k
theorem GO.callX1 {f : FuncId} [hc : Cal P f] {x1 : Operand} {v1 : Value} {ats : Array TypeId} {Pre : List HP} {R E : Value → List HP → Prop} (hN : Nat.blt d c.N = true) (h1 : evl L x1 = some v1) (spec : FnX P f #[v1] Pre R E) (tk : Tks Pre H F) (kp : ∀ v Q, E v Q → K (.panic (chn v)) L (Q ++ F))
    (k : ∀ v Q, R v Q → GO P c A rest K ((d, v) :: L) (Q ++ F)) : GO P c A (⟨some d, .call ⟨.value (.func f), #[x1], ats⟩, t, p, e, none⟩ :: rest) K L H :=
  GO.callXG (dst := some d) (xs := [x1]) (vs := [v1]) hN ⟨h1, trivial⟩ spec tk kp k
theorem GO.callX2 {f : FuncId} [hc : Cal P f] {x1 x2 : Operand} {v1 v2 : Value} {ats : Array TypeId} {Pre : List HP} {R E : Value → List HP → Prop} (hN : Nat.blt d c.N = true) (h1 : evl L x1 = some v1) (h2 : evl L x2 = some v2) (spec : FnX P f #[v1, v2] Pre R E) (tk : Tks Pre H F) (kp : ∀ v Q, E v Q → K (.panic (chn v)) L (Q ++ F))
    (k : ∀ v Q, R v Q → GO P c A rest K ((d, v) :: L) (Q ++ F)) : GO P c A (⟨some d, .call ⟨.value (.func f), #[x1, x2], ats⟩, t, p, e, none⟩ :: rest) K L H :=
  GO.callXG (dst := some d) (xs := [x1, x2]) (vs := [v1, v2]) hN ⟨h1, h2, trivial⟩ spec tk kp k
theorem GO.callX3 {f : FuncId} [hc : Cal P f] {x1 x2 x3 : Operand} {v1 v2 v3 : Value} {ats : Array TypeId} {Pre : List HP} {R E : Value → List HP → Prop} (hN : Nat.blt d c.N = true) (h1 : evl L x1 = some v1) (h2 : evl L x2 = some v2) (h3 : evl L x3 = some v3) (spec : FnX P f #[v1, v2, v3] Pre R E) (tk : Tks Pre H F) (kp : ∀ v Q, E v Q → K (.panic (chn v)) L (Q ++ F))
    (k : ∀ v Q, R v Q → GO P c A rest K ((d, v) :: L) (Q ++ F)) : GO P c A (⟨some d, .call ⟨.value (.func f), #[x1, x2, x3], ats⟩, t, p, e, none⟩ :: rest) K L H :=
  GO.callXG (dst := some d) (xs := [x1, x2, x3]) (vs := [v1, v2, v3]) hN ⟨h1, h2, h3, trivial⟩ spec tk kp k
theorem GO.callXV0 {x : Operand} {v0 : Value} {ats : Array TypeId} {Pre : List HP} {R E : Value → List HP → Prop} (hN : Nat.blt d c.N = true) (hx : evl L x = some v0)  (spec : FnXV P v0 [] Pre R E) (tk : Tks Pre H F) (kp : ∀ v Q, E v Q → K (.panic (chn v)) L (Q ++ F))
    (k : ∀ v Q, R v Q → GO P c A rest K ((d, v) :: L) (Q ++ F)) : GO P c A (⟨some d, .call ⟨.value x, #[], ats⟩, t, p, e, none⟩ :: rest) K L H :=
  GO.callXVG (dst := some d) (xs := []) (vs := []) hN hx trivial spec tk kp k
end rules
end Go.Proofs.YtbconcohpfkncaaGreat
namespace Go.Proofs.YtbconcohpfkncaaGreat
open Go
section
variable {P : Program} {b : Frame} {a : Act} {k : List Item} {cs : List Frame} {w : World}
theorem stepR_scope {x : Code} : step P (lone (b.atR a (.code (.scope x) :: k)) cs w) = .next (lone (b.atR a (.code x :: .inScope x :: k)) cs w) :=
  step_lone_go (by simp [stepG, stepG.exec, Frame.atR])
theorem stepR_inScope {x : Code} : step P (lone (b.atR a (.inScope x :: k)) cs w) = .next (lone (b.atR a k) cs w) :=
  step_lone_go (by simp [stepG, stepG.exec, Frame.atR])
end
/-- What a scope's body ends with: a jump to a label of the scope goes on there. -/
def kscope (J : Nat → Env → List HP → Prop) (K : Kont) : Kont
  | .goto l, L, H => J l L H
  | e, L, H => K e L H
section
variable {P : Program} {c : Cx} {K : Kont} {L : Env} {H : List HP} {J : Nat → Env → List HP → Prop}
theorem kscope_n (k : K .normal L H) : kscope J K .normal L H := k
theorem kscope_p {ch : List PanicEntry} (k : K (.panic ch) L H) : kscope J K (.panic ch) L H := k
/-- E l m: what holds at a jump to the label l, and a measure. -/
theorem G.scope {x : Code} (E : Nat → Nat → Env → List HP → Prop)
    (hl : ∀ l m L H, E l m L H → ∃ rest, findLabel x l = some rest ∧ G P c rest (kscope (fun l' L' H' => ∃ m', m' < m ∧ E l' m' L' H') K) L H)
    (first : G P c x (kscope (fun l' L' H' => ∃ m', E l' m' L' H') K) L H) : G P c (.scope x) K L H := by
  intro a w hs b k cs hro hb hr
  have key : ∀ m l L H a w, E l m L H → St c L H a w → ∃ rest, findLabel x l = some rest ∧
      ∃ e a' w', Post c K e a' w' ∧ ArrivesIn (Machine.fenced P (fen c.r)) P (lone (b.atR a (.code rest :: .inScope x :: k)) cs w) b k cs e a' w' := by
    intro m
    induction m using Nat.strongRecOn with
    | _ m ih =>
      intro l L H a w hE hs
      obtain ⟨rest, hf, hg⟩ := hl l m L H hE
      refine ⟨rest, hf, ?_⟩
      obtain ⟨e, a₁, w₁, ⟨L', H', s1, hq⟩, harr⟩ := hg a w hs b (.inScope x :: k) cs hro hb hr
      cases e with
      | normal => exact ⟨_, a₁, w₁, ⟨L', H', s1, hq⟩, StepsIn.trans harr (.one (fenced_calm hb hr rfl) stepR_inScope)⟩
      | exit id => exact ⟨_, a₁, w₁, ⟨L', H', s1, hq⟩, ⟨fun k' hk => harr.1 k' (by simp [exitTo, hk]), fun hr hk => harr.2 hr (by simp [exitTo, hk])⟩⟩
      | goto l' =>
        obtain ⟨m', hlt, hE'⟩ := hq
        obtain ⟨rest', hf', e₂, a₂, w₂, hq₂, harr₂⟩ := ih m' hlt l' L' H' a₁ w₁ hE' s1
        have hg : gotoIn l' (.inScope x :: k) = some (.code rest' :: .inScope x :: k) := by simp [gotoIn, hf']
        exact ⟨e₂, a₂, w₂, hq₂, .of_steps (harr.1 _ hg) harr₂⟩
      | ret => exact ⟨_, a₁, w₁, ⟨L', H', s1, hq⟩, harr⟩
      | panic ch => exact ⟨_, a₁, w₁, ⟨L', H', s1, hq⟩, harr⟩
      | outgrown => exact ⟨_, a₁, w₁, ⟨L', H', s1, hq⟩, harr⟩
  have i0 : (lone (b.atR a (.code (.scope x) :: k)) cs w).fenced P (fen c.r) := fenced_calm hb hr rfl
  obtain ⟨e, a₁, w₁, ⟨L', H', s1, hq⟩, harr⟩ := first a w hs b (.inScope x :: k) cs hro hb hr
  cases e with
  | normal => exact ⟨_, a₁, w₁, ⟨L', H', s1, hq⟩, .head i0 stepR_scope (StepsIn.trans harr (.one (fenced_calm hb hr rfl) stepR_inScope))⟩
  | exit id => exact ⟨_, a₁, w₁, ⟨L', H', s1, hq⟩, .of_steps (.one i0 stepR_scope) ⟨fun k' hk => harr.1 k' (by simp [exitTo, hk]), fun hr hk => harr.2 hr (by simp [exitTo, hk])⟩⟩
  | goto l' =>
    obtain ⟨m', hE'⟩ := hq
    obtain ⟨rest', hf', e₂, a₂, w₂, hq₂, harr₂⟩ := key m' l' L' H' a₁ w₁ hE' s1
    have hg : gotoIn l' (.inScope x :: k) = some (.code rest' :: .inScope x :: k) := by simp [gotoIn, hf']
    exact ⟨e₂, a₂, w₂, hq₂, .of_steps (.head i0 stepR_scope (harr.1 _ hg)) harr₂⟩
  | ret => exact ⟨_, a₁, w₁, ⟨L', H', s1, hq⟩, .of_steps (.one i0 stepR_scope) harr⟩
  | panic ch => exact ⟨_, a₁, w₁, ⟨L', H', s1, hq⟩, .of_steps (.one i0 stepR_scope) harr⟩
  | outgrown => exact ⟨_, a₁, w₁, ⟨L', H', s1, hq⟩, .of_steps (.one i0 stepR_scope) harr⟩
/-- A scope gone through without a jump. -/
theorem G.scope0 {x : Code} (k : G P c x (kscope (fun _ _ _ => False) K) L H) : G P c (.scope x) K L H :=
  G.scope (fun _ _ _ _ => False) (fun _ _ _ _ h => h.elim) (k.mono fun e L H h => by cases e <;> first | exact h | exact h.elim)
end
end Go.Proofs.YtbconcohpfkncaaGreat
namespace Go.Proofs.YtbconcohpfkncaaGreat
open Go
section
variable {P : Program}
/-- A round's contract, the state as one piece. -/
theorem FnV.star1 {y : Value} {u : List Value} {J J' S Sh : List HP} (h : FnV P y u (J ++ Sh) (fun v Q => (v = .bool true ∧ Q = J' ++ Sh) ∨ (v = .bool false ∧ Q = S ++ Sh))) :
    FnV P y u (star J :: Sh) (fun v Q => (v = .bool true ∧ Q = star J' :: Sh) ∨ (v = .bool false ∧ Q = star S :: Sh)) := by
  obtain ⟨fn, caps, hv, h⟩ := h
  refine ⟨fn, caps, hv, fun F w s => ?_⟩
  have s1 : sat ((J ++ Sh) ++ F) w := by rw [List.append_assoc]; exact sat_flat.1 s
  obtain ⟨nx, h1, h2⟩ := h F w s1
  refine ⟨nx, h1, h2.mono fun e w' => ?_⟩
  rintro ⟨v, Q, a, b, x | x, d⟩
  · obtain ⟨rfl, rfl⟩ := x
    rw [List.append_assoc] at d
    exact ⟨_, star J' :: Sh, a, b, .inl ⟨rfl, rfl⟩, sat_flat.2 d⟩
  · obtain ⟨rfl, rfl⟩ := x
    rw [List.append_assoc] at d
    exact ⟨_, star S :: Sh, a, b, .inr ⟨rfl, rfl⟩, sat_flat.2 d⟩
theorem SeqOK.of1 {gf : FuncId} [hc : Cal P gf] {caps : Array Value} {xs : List (List Value)} {Sh Gm : List HP}
    (h : ∀ (y : Value) (J S : Nat → HP), (∀ i u, xs[i]? = some u → FnV P y u (J i :: Sh) (fun v Q => (v = .bool true ∧ Q = J (i + 1) :: Sh) ∨ (v = .bool false ∧ Q = S i :: Sh))) →
      Fn P gf (#[y] ++ caps) (J 0 :: (Sh ++ Gm)) (fun _ Q => Q = J xs.length :: (Sh ++ Gm) ∨ ∃ i, i < xs.length ∧ Q = S i :: (Sh ++ Gm))) : SeqOK P (.func (.func gf) #[] caps) xs Sh Gm :=
  ⟨gf, caps, rfl, hc, fun y J X hy F w s => by
    have s1 : sat ((star (J 0) :: (Sh ++ Gm)) ++ F) w := by
      rw [List.append_assoc] at s
      exact sat_flat.2 s
    refine (h y (fun i => star (J i)) (fun i => star (X i)) (fun i u hu => FnV.star1 (hy i u hu)) F w s1).mono fun e w' => ?_
    rintro ⟨v, Q, a, b, x | ⟨i, hi, x⟩, d⟩
    · subst x
      exact ⟨v, J xs.length ++ (Sh ++ Gm), a, b, .inl rfl, by rw [List.append_assoc]; exact sat_flat.1 d⟩
    · subst x
      exact ⟨v, X i ++ (Sh ++ Gm), a, b, .inr ⟨i, hi, rfl⟩, by rw [List.append_assoc]; exact sat_flat.1 d⟩⟩
end
/-- What is gathered in a slice that lies in a variable. -/
def accO (b : Nat) (T el : TypeId) (sz n : Nat) (xs : List Value) : HP := exs fun v : Value => star [pt b (row [v] T), own el sz n v xs]
theorem accO_in {b : Nat} {T el : TypeId} {sz n : Nat} {xs : List Value} {H M : List HP} (v : Value) (h : ImpS H (pt b (row [v] T) :: own el sz n v xs :: M)) : ImpS H (accO b T el sz n xs :: M) := ImpS.exs v (ImpS.flat h)
theorem G.accOut {P : Program} {c : Cx} {K : Kont} {L : Env} {H : List HP} {x : Code} {b : Nat} {T el : TypeId} {sz n : Nat} {xs : List Value} (k : ∀ v, v.oneCell' = true → G P c x K L (pt b (row [v] T) :: own el sz n v xs :: H)) : G P c x K L (accO b T el sz n xs :: H) :=
  G.exs fun v => G.flat (G.ownOne (Tk.t Tk.h) fun h => k v h)
theorem GO.accOut {P : Program} {c : Cx} {A : Array Oper} {os : List Oper} {K : Kont} {L : Env} {H : List HP} {b : Nat} {T el : TypeId} {sz n : Nat} {xs : List Value} (k : ∀ v, v.oneCell' = true → GO P c A os K L (pt b (row [v] T) :: own el sz n v xs :: H)) : GO P c A os K L (accO b T el sz n xs :: H) :=
  GO.exs fun v => GO.flat (GO.ownOne (Tk.t Tk.h) fun h => k v h)

theorem G.keep {P : Program} {c : Cx} {x : Code} {K : Kont} {L : Env} {H H' : List HP} (h : ImpS H H') (k : G P c x K L H') : G P c x K L H := G.imp (fun l w s => h l w s) k
end Go.Proofs.YtbconcohpfkncaaGreat
namespace Go.Proofs.YtbconcohpfkncaaGreat
open Go
attribute [local irreducible] pt init exs pur own
/-- The mode behind a recover, and what it hands over. -/
inductive Rcv : FrameMode → Value → FrameMode → Prop where
  | calm : Rcv .returning .nilIface .returning
  | caught (v : Value) : Rcv (.panicking (chn v)) v (.panicking [{ v := v, recovered := true }])
/-- A deferred call of f in the mode u: behind it the mode is u', memory is such that R. -/
def Dfr (P : Program) (f : FuncId) (args : Array Value) (u u' : FrameMode) (Pre : List HP) (R : Value → List HP → Prop) : Prop :=
  ∀ F w, sat (Pre ++ F) w → CallsDIn Fence.wide 0 P f args u w (fun e m w' => m = u' ∧ Ret w F R e w')
theorem recoverD_of {u u' : FrameMode} {v : Value} (h : Rcv u v u') {c0 : Frame} (hc : c0.mode = u) (cs : List Frame) : (recoverD (c0 :: cs) = none ∧ v = .nilIface ∧ ({ c0 with mode := u' } : Frame) = c0) ∨ recoverD (c0 :: cs) = some (v, { c0 with mode := u' } :: cs) := by
  subst hc
  cases hm : c0.mode with
  | returning =>
    rw [hm] at h
    cases h
    refine .inl ⟨by simp [recoverD, hm], rfl, ?_⟩
    cases c0; simp at hm; subst hm; rfl
  | panicking ch =>
    rw [hm] at h
    cases h
    exact .inr (by simp [recoverD, hm])
  | run => rw [hm] at h; cases h
/-- The closure: what it does behind its recover. -/
theorem Dfr.mk {P : Program} {f : FuncId} {args : Array Value} {u u' : FrameMode} {v : Value} {Pre : List HP} {R : Value → List HP → Prop} {fn : Func} {id d0 d1 : Nat} {t0 t1 : TypeId} {p0 p1 : String} {e0 e1' : Array Edge} {y : Code}
    (hf : P.funcs[f]? = some fn) (hb : fn.body = some (.seq (.region id #[⟨some d0, .call ⟨.builtin .recover, #[], #[]⟩, t0, p0, e0, none⟩, ⟨some d1, .assign (.tmp d0), t1, p1, e1', none⟩] false) y)) (hN : Nat.ble args.size fn.ntmps = true)
    (hd0 : Nat.blt d0 fn.ntmps = true) (hd1 : Nat.blt d1 fn.ntmps = true) (hm : Rcv u v u')
    (h : ∀ w0 F, G P ⟨none, fn.ntmps, w0, [], [], true⟩ y (KF2 P fn R F) ((d1, v) :: (d0, v) :: penv 0 args.toList) (Pre ++ F)) : Dfr P f args u u' Pre R := by
  intro F w s
  have hN' : args.size ≤ fn.ntmps := by simpa using hN
  refine callsDIn_of_wpSIn hf hb trivial fun c0 cs hc => ?_
  refine wpSIn_seq ?_
  have at0 : At fn.ntmps (penv 0 args.toList) { tmps := args ++ Array.replicate (fn.ntmps - args.size) undef, defers := [] } := by
    refine ⟨by simp; omega, fun t v e => ?_⟩
    obtain ⟨_, h2⟩ := look_penv _ _ _ _ e
    simp at h2
    have hlt : t < args.size := (Array.getElem?_eq_some_iff.1 h2).1
    rw [Array.getElem?_append_left hlt]; exact h2
  generalize ha : ({ tmps := args ++ Array.replicate (fn.ntmps - args.size) undef, defers := [] } : Act) = a at at0 ⊢
  have hdef : a.defers = [] := by rw [← ha]
  have rest : ∀ cs', cs' = { c0 with mode := u' } :: cs → y.wpSIn Fence.wide 0 P (bodyPostS P fn c0 cs fun e m w' => m = u' ∧ Ret w F R e w') ((a.put (some d0) v).put (some d1) v) cs' w := by
    rintro cs' rfl
    refine wpSIn_of_wpIn rfl ?_
    have at2 := (at0.put (v := v) hd0).put (v := v) hd1
    refine wpIn_mono (h w F _ w ⟨at2, Same.refl w, [], by simpa [Act.put] using hdef, fun _ => rfl, by simpa using s⟩) ?_
    rintro e a' w' ⟨L', H', ⟨h1, h2, ds, h3, h4, h5⟩, q⟩
    have hds : ds = [] := h4 rfl
    subst hds
    have hdd : a'.defers = [] := by simpa using h3
    have fin : (∃ v Q, Res P fn.ntmps fn L' H' v ∧ R v Q ∧ ImpS H' (Q ++ F)) → a'.defers = [] ∧ ∃ m, ({ c0 with mode := u' } : Frame) :: cs = { c0 with mode := m } :: cs ∧ ∃ v, (results fn a'.tmps).run P w' = .ok v w' ∧ (m = u' ∧ Ret w F R (.returned v) w') := by
      rintro ⟨v, Q, hr, hR, hsb⟩
      refine ⟨hdd, u', rfl, v, hr a' w' [] h1 (by simpa using h5), rfl, v, Q, rfl, h2, hR, ?_⟩
      have := hsb [] w' (by simpa using h5)
      simpa using this
    cases e with
    | normal => exact fin q
    | ret => exact fin q
    | _ => exact q.elim
  have e1 : ∀ a : Act, (execOp a.eval ⟨some d0, .call ⟨.builtin .recover, #[], #[]⟩, t0, p0, e0, none⟩).run P w = .ok .recover w := fun a => by
    simp only [execOp, resolve, invoke, builtin]
    rfl
  have e2 : ∀ b : Act, (execOp b.eval ⟨some d1, .assign (.tmp d0), t1, p1, e1', none⟩).run P w = .ok (.value (b.eval (.tmp d0))) w := fun b => rfl
  refine wpSIn_region ?_
  show wpOpsSIn Fence.wide 0 P #[_, _] _ [0, 1] a (c0 :: cs) w
  have step : ∀ cs', cs' = { c0 with mode := u' } :: cs → wpOpsSIn Fence.wide 0 P #[⟨some d0, .call ⟨.builtin .recover, #[], #[]⟩, t0, p0, e0, none⟩, ⟨some d1, .assign (.tmp d0), t1, p1, e1', none⟩] (Exit.thenS (y.wpSIn Fence.wide 0 P (bodyPostS P fn c0 cs fun e m w' => m = u' ∧ Ret w F R e w')) (bodyPostS P fn c0 cs fun e m w' => m = u' ∧ Ret w F R e w')) [1] (a.put (some d0) v) cs' w := by
    intro cs' hcs
    have hev : (a.put (some d0) v).eval (.tmp d0) = v := by
      have := (at0.put (v := v) hd0).2 d0 v (by simp [look])
      simp [Act.eval, Array.getD_eq_getD_getElem?, this]
    simp only [wpOpsSIn, List.getElem?_toArray, List.getElem?_cons_succ, List.getElem?_cons_zero, Region.wanted, if_true, e2, hev]
    exact ⟨fun _ _ => trivial, rest cs' hcs⟩
  simp only [wpOpsSIn, List.getElem?_toArray, List.getElem?_cons_zero, Region.wanted, if_true, e1]
  refine ⟨fun _ _ => trivial, ?_⟩
  rcases recoverD_of hm hc cs with ⟨h1, h2, h3⟩ | h1
  · rw [h1]
    subst h2
    exact step _ (by rw [h3])
  · rw [h1]
    exact step _ rfl
/-- The deferred call of a closure. -/
def dcl (g : FuncId) (caps : Array Value) : Deferred := { target := .fn (.func g) caps, args := #[] }
theorem leaves_dfr {P : Program} {fn : Func} {tmps : Array Value} {R : Ending → World → Prop} {u : FrameMode} (hu : u ≠ .run) {d : Deferred} {l : List HP} : ∀ (ds : List Nat) (w : World), sat (l ++ ds.map dblk) w →
    (∀ w', Same w w' → sat l w' → LeavesInM Fence.wide 0 P fn tmps R [d] u w') → LeavesInM Fence.wide 0 P fn tmps R (ds.map mark ++ [d]) u w
  | [], w, s, h => by
    simp at s
    exact h w (Same.refl w) s
  | x :: ds, w, s, h => by
    simp only [List.map_cons] at s
    have s' : sat (dblk x :: (l ++ ds.map dblk)) w := sat_perm List.perm_middle s
    have hb := sat_pt s'
    refine ⟨hu, .inl ⟨x, _, rfl, run_takeDeferred hb, ?_⟩⟩
    refine leaves_dfr hu ds _ ?_ (fun w' sm sl => h w' ((Same.putObj _ _ _).trans sm) sl)
    have := sat_upd (o' := .deferred none) (w' := w.putObj x (.deferred none)) s' (World.putObj_heap_same (Array.getElem?_eq_some_iff.1 hb).1) (fun k hk => World.putObj_heap_other hk)
    exact sat_right (l := [pt x (.deferred none)]) this
/-- What is to hold at the end of a body with a deferred closure: the closure runs, then the results are read. -/
def EndD (P : Program) (fn : Func) (g : FuncId) (caps : Array Value) (R : Value → List HP → Prop) (F : List HP) (u : FrameMode) (L : Env) (H : List HP) : Prop :=
  ∃ u' Pre Q X, settle u' = .returning ∧ Dfr P g caps u u' Pre (fun _ Q' => Q' = Q) ∧ ImpS H (Pre ++ X) ∧ ∃ v Q2, Res P fn.ntmps fn L (Q ++ X) v ∧ R v Q2 ∧ ImpS (Q ++ X) (Q2 ++ F)
def KFD (P : Program) (fn : Func) (g : FuncId) (caps : Array Value) (R : Value → List HP → Prop) (F : List HP) : Kont
  | .normal, L, H => EndD P fn g caps R F .returning L H
  | .ret, L, H => EndD P fn g caps R F .returning L H
  | .panic ch, L, H => EndD P fn g caps R F (.panicking ch) L H
  | _, _, _ => False
theorem EndD.leaves {P : Program} {fn : Func} {g : FuncId} [hc : Cal P g] {caps : Array Value} {R : Value → List HP → Prop} {F : List HP} {u : FrameMode} {L : Env} {H : List HP} (hu : u ≠ .run) (h : EndD P fn g caps R F u L H) {w0 w : World} (hs : Same w0 w) {a : Act} (ha : At fn.ntmps L a) (s : sat H w) :
    LeavesInM Fence.wide 0 P fn a.tmps (Ret w0 F R) [dcl g caps] u w := by
  obtain ⟨u', Pre, Q, X, h1, h2, h3, v, Q2, h4, h5, h6⟩ := h
  refine ⟨hu, .inr ⟨fun h => by simp [Fence.wide] at h, .func g, caps, g, caps, rfl, ?_, fun _ _ => trivial, ?_⟩⟩
  · simp [dcl, invoke, hc.out]
  · have s1 := h3 [] w (by simpa using s)
    refine (h2 X w (by simpa using s1)).mono ?_
    rintro e m w' ⟨rfl, r, Q', rfl, hs', rfl, hq⟩
    show LeavesInM Fence.wide 0 P fn a.tmps (Ret w0 F R) [] (settle m) w'
    rw [h1]
    refine ⟨v, h4 a w' [] ha (by simpa using hq), v, Q2, rfl, hs.trans hs', h5, ?_⟩
    have := h6 [] w' (by simpa using hq)
    simpa using this
/-- Code up to the end of a function that may defer one closure. -/
def GZ (P : Program) (fn : Func) (w0 : World) (F : List HP) (R : Value → List HP → Prop) (x : Code) (L : Env) (H : List HP) : Prop :=
  ∀ a w, St ⟨none, fn.ntmps, w0, [], [], true⟩ L H a w → x.wpIn Fence.wide 0 P (bodyPostM Fence.wide 0 P fn (Ret w0 F R)) a w
theorem KF2.leaves {P : Program} {fn : Func} {R : Value → List HP → Prop} {F : List HP} {L : Env} {H : List HP} {w0 w : World} {a : Act} (hs : St ⟨none, fn.ntmps, w0, [], [], true⟩ L H a w) (q : ∃ v Q, Res P fn.ntmps fn L H v ∧ R v Q ∧ ImpS H (Q ++ F)) :
    LeavesInM Fence.wide 0 P fn a.tmps (Ret w0 F R) a.defers .returning w := by
  obtain ⟨h1, h2, ds, h3, _, h5⟩ := hs
  obtain ⟨v, Q, hr, hR, hsb⟩ := q
  rw [show a.defers = ds.map mark by simpa using h3]
  refine leaves_marks (l := H) (v := v) ds w (by simpa using h5) fun w2 sm sl => ⟨?_, v, Q, rfl, h2.trans sm, hR, ?_⟩
  · exact hr a w2 [] h1 (by simpa using sl)
  · have := hsb [] w2 (by simpa using sl)
    simpa using this
theorem GZ.seq {P : Program} {fn : Func} {w0 : World} {F : List HP} {R : Value → List HP → Prop} {x y : Code} {L : Env} {H : List HP} (k : G P ⟨none, fn.ntmps, w0, [], [], true⟩ x (kthen (fun L H => GZ P fn w0 F R y L H) (KF2 P fn R F)) L H) : GZ P fn w0 F R (.seq x y) L H := by
  intro a w hs
  refine wpIn_seq (wpIn_mono (k a w hs) ?_)
  rintro e a' w' ⟨L', H', s1, q⟩
  cases e with
  | normal => exact q a' w' s1
  | ret => exact KF2.leaves s1 q
  | _ => exact q.elim
theorem GZ.defer {P : Program} {fn : Func} {w0 : World} {F : List HP} {R : Value → List HP → Prop} {y : Code} {L : Env} {H : List HP} {id d : Nat} {g : FuncId} [hc : Cal P g] {xs : List Operand} {vs : List Value} {t0 t1 : TypeId} {p0 p1 : String} {e0 e1 : Array Edge}
    (hN : Nat.blt d fn.ntmps = true) (hv : Vals L xs vs)
    (k : G P ⟨none, fn.ntmps, w0, [], [dcl g vs.toArray], false⟩ y (KFD P fn g vs.toArray R F) ((d, .func (.func g) #[] vs.toArray) :: L) H) :
    GZ P fn w0 F R (.seq (.region id #[⟨some d, .makeFunc (.func g) #[] xs.toArray, t0, p0, e0, none⟩, ⟨none, .defer ⟨.value (.tmp d), #[], #[]⟩, t1, p1, e1, none⟩] false) y) L H := by
  rintro a w ⟨h1, h2, ds, h3, h4, h5⟩
  have hds : ds = [] := h4 rfl
  refine wpIn_seq (wpIn_region (wpOps_of_list (fun _ => trivial) _ _ a w (range_map_get _) ?_))
  have hargs : xs.toArray.map a.eval = vs.toArray := by simp [Vals.map h1 hv]
  have e1' : (execOp a.eval ⟨some d, .makeFunc (.func g) #[] xs.toArray, t0, p0, e0, none⟩).run P w = .ok (.value (.func (.func g) #[] vs.toArray)) w := by
    simp [execOp, hargs, Instr.makeFunc, Result.andThen]
  have at2 := h1.put (d := d) (v := .func (.func g) #[] vs.toArray) hN
  have hev : (a.put (some d) (.func (.func g) #[] vs.toArray)).eval (.tmp d) = .func (.func g) #[] vs.toArray := by
    have := at2.2 d (.func (.func g) #[] vs.toArray) (by simp [look])
    simp [Act.eval, Array.getD_eq_getD_getElem?, this]
  have e2' : ((⟨none, .defer ⟨.value (.tmp d), #[], #[]⟩, t1, p1, e1, none⟩ : Oper).semAt Fence.wide.round (a.put (some d) (.func (.func g) #[] vs.toArray)).eval).run P w = .ok (.defer (dcl g vs.toArray)) w := by
    rw [show Fence.wide.round = none from rfl, Oper.semAt_none]
    simp [execOp, resolve, hev, Deferred.ofValue, Sem.run_bind, Result.andThen, dcl]
  simp only [opsWp, Region.wanted, if_true]
  rw [semAt_nd _ _ _ rfl, e1']
  show Oper.uponIn Fence.wide 0 P _ (a.put (some d) (.func (.func g) #[] vs.toArray)) _ _ (((⟨none, .defer ⟨.value (.tmp d), #[], #[]⟩, t1, p1, e1, none⟩ : Oper).semAt Fence.wide.round (a.put (some d) (.func (.func g) #[] vs.toArray)).eval).run P w)
  rw [e2']
  show y.wpIn Fence.wide 0 P _ _ w
  refine wpIn_mono (k _ w ⟨(At.defs at2 : At fn.ntmps _ { (a.put (some d) (.func (.func g) #[] vs.toArray)) with defers := dcl g vs.toArray :: a.defers }), h2, [], ?_, fun _ => rfl, ?_⟩) ?_
  · have h0 : a.defers = [] := by rw [h3, hds]; rfl
    show dcl g vs.toArray :: a.defers = [dcl g vs.toArray]
    rw [h0]
  · have : sat (H ++ ([] ++ ([] : List Nat).map dblk)) w := by rw [hds] at h5; exact h5
    exact this
  · rintro e a' w' ⟨L', H', ⟨g1, g2, ds', g3, _, g5⟩, q⟩
    have fin : ∀ u, u ≠ FrameMode.run → EndD P fn g vs.toArray R F u L' H' → LeavesInM Fence.wide 0 P fn a'.tmps (Ret w0 F R) a'.defers u w' := fun u hu hE => by
      rw [show a'.defers = ds'.map mark ++ [dcl g vs.toArray] from g3]
      exact leaves_dfr (l := H') hu ds' w' (by simpa using g5) fun w2 sm sl => EndD.leaves hu hE (g2.trans sm) g1 sl
    cases e with
    | normal => exact fin _ (by simp) q
    | ret => exact fin _ (by simp) q
    | panic ch => exact fin _ (by simp) q
    | _ => exact q.elim
theorem Fn.mkD {P : Program} {f : FuncId} {args : Array Value} {Pre : List HP} {R : Value → List HP → Prop} {fn : Func} {x : Code} (hf : P.funcs[f]? = some fn) (hb : fn.body = some x) (hN : Nat.ble args.size fn.ntmps = true)
    (h : ∀ w0 F, GZ P fn w0 F R x (penv 0 args.toList) (Pre ++ F)) : Fn P f args Pre R := by
  intro F w s
  have hN' : args.size ≤ fn.ntmps := by simpa using hN
  refine callsIn_of_wp_marks (fn := fn) (c := x) hf hb trivial ?_ rfl
  refine h w F _ w ⟨⟨?_, ?_⟩, Same.refl w, [], rfl, fun _ => rfl, by simpa using s⟩
  · simp; omega
  · intro t v e
    obtain ⟨_, h2⟩ := look_penv _ _ _ _ e
    simp at h2
    have hlt : t < args.size := by
      have := (Array.getElem?_eq_some_iff.1 h2).1; exact this
    rw [Array.getElem?_append_left hlt]; exact h2
end Go.Proofs.YtbconcohpfkncaaGreat
namespace Go.Proofs.YtbconcohpfkncaaGreat
open Go
section
variable {P : Program} {c : Cx} {A : Array Oper} {rest : List Oper} {K : Kont} {L : Env} {H : List HP} {t : TypeId} {p : String} {e : Array Edge} {d : Nat} {ty ty' : TypeId} {x : Operand}
theorem EqR.ifNil {T : TypeId} {v : Value} {ms : Array (String × TypeId)} [hu : UL P ty (.interface ms)] {n : Nat} : EqR P (n + 1) ty (.iface T v) .nilIface false := fun w => by
  simp only [Op.equalIn]
  simp [Sem.run_bind, run_underlying hu.out, Result.andThen]
theorem EqR.nilNil {ms : Array (String × TypeId)} [hu : UL P ty (.interface ms)] {n : Nat} : EqR P (n + 1) ty .nilIface .nilIface true := fun w => by
  simp only [Op.equalIn]
  simp [Sem.run_bind, run_underlying hu.out, Result.andThen]
theorem GO.neqIf {T : TypeId} {v : Value} {ms : Array (String × TypeId)} [hu : UL P ty (.interface ms)] (hN : Nat.blt d c.N = true) (hx : evl L x = some (.iface T v)) (k : GO P c A rest K ((d, .bool true) :: L) H) : GO P c A (⟨some d, .binOp .neq ty x (.const .nilIface) ty', t, p, e, none⟩ :: rest) K L H :=
  GO.val hN rfl (fun s w Y h _ => by
    have hc : s.eval (.const .nilIface) = .nilIface := rfl
    simp only [execOp, h.eval hx, hc]
    have := (EqR.ifNil : EqR P 10000 ty (.iface T v) .nilIface false) w
    simp [Sem.run_bind, eqGuard, binOp, Op.equal, Op.maxDepth, this, Result.andThen]) k
theorem GO.neqIfN {ms : Array (String × TypeId)} [hu : UL P ty (.interface ms)] (hN : Nat.blt d c.N = true) (hx : evl L x = some .nilIface) (k : GO P c A rest K ((d, .bool false) :: L) H) : GO P c A (⟨some d, .binOp .neq ty x (.const .nilIface) ty', t, p, e, none⟩ :: rest) K L H :=
  GO.val hN rfl (fun s w Y h _ => by
    have hc : s.eval (.const .nilIface) = .nilIface := rfl
    simp only [execOp, h.eval hx, hc]
    have := (EqR.nilNil : EqR P 10000 ty .nilIface .nilIface true) w
    simp [Sem.run_bind, eqGuard, binOp, Op.equal, Op.maxDepth, this, Result.andThen]) k
theorem GO.assertT {T xT : TypeId} {v : Value} {ds : TypeDesc} [hu : UL P T ds] (hi : (match ds with | .interface _ => false | _ => true) = true) (hN : Nat.blt d c.N = true) (hx : evl L x = some (.iface T v)) (k : GO P c A rest K ((d, .tuple [v, .bool true].toArray) :: L) H) : GO P c A (⟨some d, .typeAssert x xT T true, t, p, e, none⟩ :: rest) K L H :=
  GO.val hN rfl (fun s w Y h _ => by
    simp only [execOp, h.eval hx, Instr.typeAssert]
    simp only [Sem.run_bind, run_underlying hu.out, Result.andThen]
    cases ds <;> first | (simp at hi; done) | (simp [Sem.run_bind, Result.andThen]; done)) k
end
section
variable {P : Program} {fn : Func} {g : FuncId} {caps : Array Value} {R : Value → List HP → Prop} {F : List HP} {L : Env} {H Q Q1 Pre X : List HP} {q1 q2 q3 : ResultVar} {v0 v1 v2 v3 : Value}
theorem KFD.r3 (calm : Dfr P g caps .returning .returning [] (fun _ Q' => Q' = [])) (hr : fn.results = #[q1, q2, q3]) (h1 : RV P L H q1 v1) (h2 : RV P L H q2 v2) (h3 : RV P L H q3 v3) (h : R (.tuple #[v1, v2, v3]) Q) (sb : ImpS H (Q ++ F)) : KFD P fn g caps R F .ret L H :=
  ⟨.returning, [], [], H, rfl, calm, ImpS.refl, _, Q, RVs.res (rs := [q1, q2, q3]) (vs := [v1, v2, v3]) hr ⟨h1, h2, h3, trivial⟩, h, sb⟩
theorem KFD.p3 (hc : Dfr P g caps (.panicking (chn v0)) (.panicking [{ v := v0, recovered := true }]) Pre (fun _ Q' => Q' = Q1)) (hi : ImpS H (Pre ++ X)) (hr : fn.results = #[q1, q2, q3]) (h1 : RV P L (Q1 ++ X) q1 v1) (h2 : RV P L (Q1 ++ X) q2 v2) (h3 : RV P L (Q1 ++ X) q3 v3) (h : R (.tuple #[v1, v2, v3]) Q) (sb : ImpS (Q1 ++ X) (Q ++ F)) : KFD P fn g caps R F (.panic (chn v0)) L H :=
  ⟨_, Pre, Q1, X, rfl, hc, hi, _, Q, RVs.res (rs := [q1, q2, q3]) (vs := [v1, v2, v3]) hr ⟨h1, h2, h3, trivial⟩, h, sb⟩
end
end Go.Proofs.YtbconcohpfkncaaGreat
namespace Go.Proofs.YtbconcohpfkncaaGreat
open Go
theorem shape_row {b : Nat} {l : List Value} {T : TypeId} {F : List HP} {w : World} (s : sat (pt b (row l T) :: F) w) : w.shape? b = some (T, l.length) := by
  have := sat_pt s
  simp [World.shape?, this, row]
section
variable {P : Program} {c : Cx} {A : Array Oper} {rest : List Oper} {K : Kont} {L : Env} {H F : List HP} {t : TypeId} {p : String} {e : Array Edge} {d : Nat}
theorem info_SZ {T : TypeId} {n : Nat} [h : SZ P T n] : ∃ j, P.info? T = some j ∧ j.size = n := by
  have := h.out
  cases hq : P.info? T with
  | none => simp [hq] at this
  | some j => exact ⟨j, rfl, by simpa [hq] using this⟩
theorem GO.toUnsafe {src dst u T : TypeId} {b n : Nat} {l : List Value} {x : Operand} [hs : UL P src (.pointer u)] [hd : UL P dst .unsafePointer] [hz : SZ P u (n + 1)] (hN : Nat.blt d c.N = true) (hx : evl L x = some (ptrV b)) (tk : Tk (pt b (row l T)) H F) (hl : 0 < l.length)
    (k : GO P c A rest K ((d, ptrV b) :: L) H) : GO P c A (⟨some d, .convert src dst x, t, p, e, none⟩ :: rest) K L H :=
  GO.val hN rfl (fun a w Y h s => by
    obtain ⟨j, hj, hj2⟩ := info_SZ (P := P) (T := u) (n := n + 1)
    have hsh := shape_row (sat_perm (List.Perm.append_right Y tk) s)
    have := Lib.run_to_unsafe (P := P) w ⟨b, 0, none⟩ hs.out hd.out hj (by omega) hsh hl
    simp only [execOp, h.eval hx]
    rw [Sem.run_bind, this]; rfl) k
theorem GO.fromUnsafe {src dst u T : TypeId} {b n : Nat} {l : List Value} {x : Operand} [hs : UL P src .unsafePointer] [hd : UL P dst (.pointer u)] [hz : SZ P u n] (hN : Nat.blt d c.N = true) (hx : evl L x = some (ptrV b)) (tk : Tk (pt b (row l T)) H F) (hlies : liesAt P P.depth T (l.length / P.cellsOf T) 0 u 1 = true)
    (k : GO P c A rest K ((d, ptrV b) :: L) H) : GO P c A (⟨some d, .convert src dst x, t, p, e, none⟩ :: rest) K L H :=
  GO.val hN rfl (fun a w Y h s => by
    obtain ⟨j, hj, _⟩ := info_SZ (P := P) (T := u) (n := n)
    have hsh := shape_row (sat_perm (List.Perm.append_right Y tk) s)
    have := Lib.run_from_unsafe (P := P) w ⟨b, 0, none⟩ hs.out hd.out hj hsh hlies
    simp only [execOp, h.eval hx]
    rw [Sem.run_bind, this]; rfl) k
/-- A function of the model's own, that leaves all as it is. -/
theorem GO.callExt1 {f : FuncId} {x1 : Operand} {v1 r : Value} {ats : Array TypeId} (hN : Nat.blt d c.N = true) (h1 : evl L x1 = some v1) (hr : ∀ w, (callFunc f #[v1]).run P w = .ok (.value r) w)
    (k : GO P c A rest K ((d, r) :: L) H) : GO P c A (⟨some d, .call ⟨.value (.func f), #[x1], ats⟩, t, p, e, none⟩ :: rest) K L H :=
  GO.val hN rfl (fun a w Y h s => by
    simp only [execOp, resolve]
    have e0 : a.eval (.func f) = .func (.func f) #[] #[] := rfl
    simp [e0, Deferred.ofValue, invoke, h.eval h1, hr]) k
theorem GO.neqSame {ty ty' u : TypeId} {b n : Nat} {x y : Operand} [hu : UL P ty (.pointer u)] [hz : SZ P u n] (hN : Nat.blt d c.N = true) (hx : evl L x = some (ptrV b)) (hy : evl L y = some (ptrV b))
    (k : GO P c A rest K ((d, .bool false) :: L) H) : GO P c A (⟨some d, .binOp .neq ty x y ty', t, p, e, none⟩ :: rest) K L H :=
  GO.val hN rfl (fun a w Y h s => by
    obtain ⟨j, hj, _⟩ := info_SZ (P := P) (T := u) (n := n)
    have := Lib.run_neq_ptr_same (P := P) w ⟨b, 0, none⟩ hu.out hj
    simp only [execOp, h.eval hx, h.eval hy]
    simp [Sem.run_bind, eqGuard, this, Result.andThen]) k
theorem GO.capS {el m cap : Nat} {ba : Option Addr} {at1 : TypeId} {x : Operand} [hu : UL P at1 (.slice el)] (hN : Nat.blt d c.N = true) (hx : evl L x = some (.slice ba m cap))
    (k : GO P c A rest K ((d, .int .i64 (cap : Int)) :: L) H) : GO P c A (⟨some d, .call ⟨.builtin .cap, #[x], #[at1]⟩, t, p, e, none⟩ :: rest) K L H :=
  GO.val hN rfl (fun a w Y h _ => by
    simp only [execOp, resolve, invoke, builtin]
    simp [Sem.run_bind, Result.andThen, Builtin.cap_, h.eval hx, run_underlying hu.out, goInt]) k
/-- copy of nothing. -/
theorem GO.copy0 {el cd : Nat} {a : Option Addr} {cs : Nat} {dT sT : TypeId} {x y : Operand} {n : Nat} [hu : UL P dT (.slice el)] [hs : SZ P el n] (hN : Nat.blt d c.N = true) (hx : evl L x = some (.slice a 0 cd)) (hy : evl L y = some (.slice none 0 cs))
    (k : GO P c A rest K ((d, i64 0) :: L) H) : GO P c A (⟨some d, .call ⟨.builtin .copy, #[x, y], #[dT, sT]⟩, t, p, e, none⟩ :: rest) K L H :=
  GO.val hN rfl (fun s w Y h _ => by
    obtain ⟨j, hj, _⟩ := info_SZ (P := P) (T := el) (n := n)
    simp only [execOp, resolve, invoke, builtin]
    cases a <;> simp [Sem.run_bind, Result.andThen, Builtin.copy_, h.eval hx, h.eval hy, run_underlying hu.out, goInt, Builtin.lenOf, Builtin.firstCells, sizeOf, typeInfo, hj, storeCells]) k
/-- A fresh row of bytes, whatever they are. -/
theorem GO.makeNoZero {f : FuncId} {el rt : TypeId} {ps : Array TypeId} {x1 : Operand} {n : Nat} {ats : Array TypeId} [hu : UL P rt (.slice el)] (hN : Nat.blt d c.N = true) (h1 : evl L x1 = some (i64 (n : Nat))) (hn : n ≤ 281474976710656) (hn2 : n ≤ maxLen)
    (hr : ∀ w, (callFunc f #[i64 (n : Nat)]).run P w = ((Extern.BytealgMakeNoZero.makeNoZero ps #[rt] #[.int .i64 n]).run P w).andThen fun v w' => .ok (.value v) w')
    (k : ∀ b (l : List Value), n ≤ l.length → l.length ≤ maxLen → GO P c A rest K ((d, .slice (some ⟨b, 0, none⟩) n l.length) :: L) (pt b (row l el) :: H)) : GO P c A (⟨some d, .call ⟨.value (.func f), #[x1], ats⟩, t, p, e, none⟩ :: rest) K L H :=
  GO.gen hN rfl (fun v H' => ∃ b l, v = .slice (some ⟨b, 0, none⟩) n (l : List Value).length ∧ n ≤ l.length ∧ l.length ≤ maxLen ∧ H' = pt b (row l el) :: H)
    (fun a w Y h s => by
      obtain ⟨cs, hrun, hc1, hc2⟩ := Lib.run_makeNoZero (P := P) w ps rt el hu.out n hn
      refine ⟨.slice (some ⟨w.heap.size, 0, none⟩) n cs.size, w.drew.drew.alloc (.cells cs el), pt w.heap.size (row cs.toList el) :: H, ?_, Same.trans (Same.drawn _ (Nat.le_add_right _ 2)) (Same.alloc _ _), ⟨_, cs.toList, by simp, by simpa using hc1, by simpa using hc2 hn2, rfl⟩, ?_⟩
      · simp only [execOp, resolve]
        have e0 : a.eval (.func f) = .func (.func f) #[] #[] := rfl
        simp [e0, Deferred.ofValue, invoke, h.eval h1, hr, hrun, Result.andThen]
      · have := sat_alloc (w := w.drew.drew) (sat_heap s rfl) (row cs.toList el)
        simpa [row] using this)
    (by rintro _ _ ⟨b, l, rfl, h1, h2, rfl⟩; exact k b l h1 h2)
theorem GO.sliceData {at1 : TypeId} {a : Option Addr} {n cap : Nat} {x : Operand} (hN : Nat.blt d c.N = true) (hx : evl L x = some (.slice a n cap)) (hc : a = none ∨ cap ≠ 0)
    (k : GO P c A rest K ((d, .pointer a) :: L) H) : GO P c A (⟨some d, .call ⟨.builtin .unsafeSliceData, #[x], #[at1]⟩, t, p, e, none⟩ :: rest) K L H :=
  GO.val hN rfl (fun s w Y h _ => by
    simp only [execOp, resolve, invoke, builtin]
    cases a with
    | none => simp [Sem.run_bind, Result.andThen, h.eval hx, Lib.run_unsafeSliceData_nil]
    | some a => simp [Sem.run_bind, Result.andThen, h.eval hx, Lib.run_unsafeSliceData_row (P := P) w #[at1] t a n cap (hc.resolve_left (by simp))]) k
/-- The bytes of a slice of our own as a string; they are frozen, so that they are ours no more. -/
theorem GO.unsafeStr {at1 at2 el : TypeId} {b cap : Nat} {l : List UInt8} {x y : Operand} [hu : UL P at1 (.pointer el)] (hc : P.cellsOf el = 1) (hN : Nat.blt d c.N = true) (hx : evl L x = some (ptrV b)) (hy : evl L y = some (i64 (l.length : Nat))) (h0 : l ≠ [])
    (tk : Tk (own el 1 l.length (.slice (some ⟨b, 0, none⟩) l.length cap) (bytesV l)) H F)
    (k : GO P c A rest K ((d, str l) :: L) F) : GO P c A (⟨some d, .call ⟨.builtin .unsafeString, #[x, y], #[at1, at2]⟩, t, p, e, none⟩ :: rest) K L H :=
  GO.gen hN rfl (fun v H' => v = str l ∧ H' = F)
    (fun a w Y h s => by
      have hl : l.length ≠ 0 := by simpa using h0
      have s1 := sat_perm (List.Perm.append_right Y tk) s
      rcases own_shape s1 with ⟨hv, _⟩ | ⟨b', cap', rest', hv, g1, g2, g3, g4, s2⟩
      · cases hv
      · injection hv with e1 e2 e3
        injection e1 with e1
        injection e1 with e1
        subst e1 e3
        have hb := sat_pt s2
        have hsh := shape_row s2
        have hcell : ∀ j x, l[j]? = some x → w.cell? ((⟨b, 0, none⟩ : Addr).add j) = some (.int .u8 x.toNat) := fun j x hj => by
          rw [add_plain, Nat.zero_add]
          have hjl : j < (bytesV l).length := by rw [bytesV_len]; exact (List.getElem?_eq_some_iff.1 hj).1
          simp only [World.cell?, hb, row, List.getElem?_toArray]
          rw [List.getElem?_append_left hjl]
          simp [bytesV, hj]
        rw [List.length_append] at g4 hsh
        have hrun := Lib.run_unsafeString_row (P := P) w at1 at2 t el hu.out hc b _ hsh l h0 (by rw [bytesV_len]; omega) (by simp only [maxLen] at g3; omega) hcell
        refine ⟨str l, w.freeze ⟨b, 0, none⟩ l.length, F, ?_, ?_, ⟨rfl, rfl⟩, ?_⟩
        · simp only [execOp, resolve, invoke, builtin]
          simp [Sem.run_bind, Result.andThen, h.eval hx, h.eval hy, hrun]
        · unfold World.freeze
          rw [if_neg hl]
          exact ⟨rfl, rfl, rfl, by simp, Nat.le_refl _⟩
        · have hb' : ∃ o, (w.freeze ⟨b, 0, none⟩ l.length).heap[b]? = some o := by
            unfold World.freeze
            rw [if_neg hl]
            simp only [Array.getElem?_modify, if_true, hb, Option.map_some]
            exact ⟨_, rfl⟩
          obtain ⟨o, hb'⟩ := hb'
          have s3 := sat_upd s2 hb' (fun k hk => by
            unfold World.freeze
            rw [if_neg hl]
            simp only [Array.getElem?_modify]
            rw [if_neg (by simpa using fun h : b = k => hk h.symm)])
          exact sat_right (l := [pt b o]) s3)
    (by rintro _ _ ⟨rfl, rfl⟩; exact k)
theorem G.ownShape {el : TypeId} {sz n : Nat} {v : Value} {xs : List Value} {C : Code} (tk : Tk (own el sz n v xs) H F) (k : (v = .slice none 0 0 ∧ n = 0 ∧ xs = []) ∨ (∃ b cap, v = .slice (some ⟨b, 0, none⟩) n cap ∧ n ≤ cap) → G P c C K L H) : G P c C K L H := by
  rintro a w ⟨h1, h2, ds, h3, h4, h5⟩
  have s1 := sat_perm (List.Perm.append_right _ tk) h5
  refine k ?_ a w ⟨h1, h2, ds, h3, h4, h5⟩
  rcases own_shape s1 with ⟨e1, e2, e3, _⟩ | ⟨b, cap, _, e1, _, e2, _⟩
  · exact .inl ⟨e1, e2, e3⟩
  · exact .inr ⟨b, cap, e1, e2⟩
end
end Go.Proofs.YtbconcohpfkncaaGreat
namespace Go.Proofs.YtbconcohpfkncaaGreat
open Go
abbrev bldP (b : Nat) (p v : Value) : HP := pt b (row [p, v] 176)
/-- The buffer: bytes. -/
abbrev bufP (v : Value) (l : List UInt8) : HP := own 5 1 l.length v (bytesV l)
theorem noEsc (x : Value) (w : World) : (callFunc 163 #[x]).run Tryz.prog w = .ok (.value x) w := by
  rw [run_callFunc_extern Tryz.func163 (by kernel_rfl) (by kernel_rfl) (by kernel_rfl) (e := Extern.AbiNoEscape.same) (by kernel_rfl)]
  rfl
theorem makeNZ (n : Nat) (w : World) : (callFunc 181 #[i64 (n : Nat)]).run Tryz.prog w = ((Extern.BytealgMakeNoZero.makeNoZero #[3] #[174] #[.int .i64 n]).run Tryz.prog w).andThen fun v w' => .ok (.value v) w' :=
  run_callFunc_extern Tryz.func181 (by kernel_rfl) (by kernel_rfl) (by kernel_rfl) (e := Extern.BytealgMakeNoZero.makeNoZero #[3] #[174]) (by kernel_rfl) _ w
attribute [local irreducible] G GO GR GT Fn FnX FnV FnXV pt init exs pur sat own ImpS
set_option maxHeartbeats 4000000 in
theorem ccFresh (b : Nat) (v : Value) : Fn Tryz.prog 148 #[ptrV b] [bldP b (.pointer none) v] (fun r Q => Q = [bldP b (ptrV b) v]) := by
  refine Fn.mk2 Tryz.func148 rfl rfl fun w0 F => ?_
  refine .seq (.region (.move rfl rfl (.nilCheck rfl rfl (.fieldAddr rfl rfl (.load1 rfl rfl rfl .h rfl (.eqNilP rfl rfl (.nil (kthen_n (.condT rfl rfl (.region (.move rfl rfl (.move rfl rfl ?_))))))))))))
  refine GO.toUnsafe rfl rfl Tk.h (Nat.zero_lt_succ 1) ?_
  skip
  refine GO.callExt1 rfl rfl (noEsc _) ?_
  skip
  refine GO.fromUnsafe rfl rfl Tk.h (by kernel_rfl) ?_
  refine .nilCheck rfl rfl (.fieldAddr rfl rfl (.store1 rfl rfl rfl .h (by simp) (.nil ?_)))
  refine KF2.n0 rfl rfl (ImpS.sb ?_)
  exact .c .h .r
set_option maxHeartbeats 4000000 in
theorem ccUsed (b : Nat) (v : Value) : Fn Tryz.prog 148 #[ptrV b] [bldP b (ptrV b) v] (fun r Q => Q = [bldP b (ptrV b) v]) := by
  refine Fn.mk2 Tryz.func148 rfl rfl fun w0 F => ?_
  (refine .seq (.region (.move rfl rfl (.nilCheck rfl rfl (.fieldAddr rfl rfl (.load1 rfl rfl rfl .h rfl (.eqNilP rfl rfl (.nil (kthen_n (.condF rfl rfl (.seq (.region (.move rfl rfl (.nilCheck rfl rfl (.fieldAddr rfl rfl (.load1 rfl rfl rfl .h rfl ?_))))))))))))))); refine .move rfl rfl ?_)
  refine GO.neqSame rfl rfl rfl ?_
  refine .nil (kthen_n (.condF rfl rfl (.skip ?_)))
  refine KF2.n0 rfl rfl (ImpS.sb ?_)
  exact .c .h .r
def BldP (b : Nat) (p : Value) : Prop := p = .pointer none ∨ p = ptrV b
theorem cc_spec (b : Nat) (p v : Value) (hp : BldP b p) : Fn Tryz.prog 148 #[ptrV b] [bldP b p v] (fun r Q => Q = [bldP b (ptrV b) v]) := by
  rcases hp with rfl | rfl
  · exact ccFresh b v
  · exact ccUsed b v
set_option maxHeartbeats 4000000 in
theorem bwrite_spec (b : Nat) (p v : Value) (hp : BldP b p) (l s : List UInt8) (hs : 0 < s.length) (hb : ¬ 140737488355328 < l.length + s.length) : Fn Tryz.prog 109 #[ptrV b, str s] [bldP b p v, bufP v l]
    (fun r Q => r = .tuple #[i64 (s.length : Nat), .nilIface] ∧ ∃ v', Q = [bldP b (ptrV b) v', bufP v' (l ++ s)]) := by
  refine Fn.mk2 Tryz.func109 rfl rfl fun w0 F => ?_
  refine .seq (.region (.assign rfl rfl (.assign rfl rfl (.nil (kthen_n (.seq (.region (.move rfl rfl ?_))))))))
  refine GO.call1 rfl rfl (cc_spec b p v hp) (Tks.c Tk.h Tks.n) ?_
  rintro _ _ rfl
  refine GO.ownOne (Tk.t Tk.h) fun hone => ?_
  refine .nil (kthen_n (.seq (.region (.move rfl rfl (.move rfl rfl (.nilCheck rfl rfl (.fieldAddr rfl rfl (.load1 rfl rfl rfl .h rfl (.move rfl rfl ?_)))))))))
  refine GO.appendStr rfl rfl rfl (Tk.t Tk.h) rfl hs (by unfold maxLen; omega) (by omega) fun v' => ?_
  refine GO.ownOne Tk.h fun hone' => ?_
  rw [← bytesV_app, ← List.length_append]
  refine .nilCheck rfl rfl (.fieldAddr rfl rfl (.store1 rfl rfl (by assumption) (.t .h) (by simp) (.nil (kthen_n (.seq (.region (.move rfl rfl (.strLen rfl rfl (.assign rfl rfl (.assign rfl rfl (.nil (kthen_n (.ret ?_)))))))))))))
  refine KF2.r2 rfl (RV.t rfl) (RV.t rfl) ⟨rfl, v', rfl⟩ (ImpS.sb ?_)
  exact .c .h (.c .h .r)
set_option maxHeartbeats 8000000 in
theorem bstr_spec (b : Nat) (p v : Value) (l : List UInt8) (h0 : l ≠ []) : Fn Tryz.prog 110 #[ptrV b] [bldP b p v, bufP v l] (fun r Q => r = str l ∧ Q = [bldP b p v]) := by
  refine Fn.mk2 Tryz.func110 rfl rfl fun w0 F => ?_
  refine .seq (.region (.assign rfl rfl (.nil (kthen_n (.seq ?_)))))
  refine G.ownShape (Tk.t Tk.h) fun hv => ?_
  have hl : l.length ≠ 0 := by simpa using h0
  rcases hv with ⟨_, h, _⟩ | ⟨g, cap, rfl, hcap⟩
  · exact absurd h hl
  refine G.draw 10 (by kernel_rfl) ?_
  refine .step (fun _ => .move rfl rfl KQ.z) (.step (fun _ => .nilCheck rfl rfl KQ.z) (.step (fun _ => .fieldAddr rfl rfl KQ.z) (.step (fun _ => .load1 rfl rfl rfl .h rfl KQ.z) ?_)))
  apply GQ.step; focus (intro Z; refine GO.sliceData rfl rfl (.inr (by omega)) ?_; exact KQ.z)
  refine .step (fun _ => .move rfl rfl KQ.z) (.step (fun _ => .nilCheck rfl rfl KQ.z) (.step (fun _ => .fieldAddr rfl rfl KQ.z) (.step (fun _ => .load1 rfl rfl rfl .h rfl KQ.z) (.step (fun _ => .lenS rfl rfl KQ.z) (.nil ?_)))))
  skip
  refine GO.unsafeStr (el := 5) (b := g) (cap := cap) (l := l) (by kernel_rfl) rfl rfl rfl h0 (Tk.t Tk.h) ?_
  refine .assign rfl rfl (.nil (kthen_n (.ret ?_)))
  refine KF2.r1 rfl (RV.t rfl) ⟨rfl, rfl⟩ (ImpS.sb ?_)
  exact .c .h .r
set_option maxHeartbeats 8000000 in
theorem bgrow1_spec (b n : Nat) (p : Value) (hn : 0 < n) (hn2 : ¬ 1048576 < n) : Fn Tryz.prog 175 #[ptrV b, i64 (n : Nat)] [bldP b p (.slice none 0 0)] (fun _ Q => ∃ v, Q = [bldP b p v, bufP v []]) := by
  refine Fn.mk2 Tryz.func175 rfl rfl fun w0 F => ?_
  refine .seq ?_
  refine G.drawT 16 49408 [bldP b p (.slice none 0 0)] F (by kernel_rfl) (keys_of rfl) (ImpS.sb (.c .h .r)) ?_
  refine .step rfl (fun _ => .move rfl rfl KQ.z) (.step rfl (fun _ => .nilCheck rfl rfl KQ.z) (.step rfl (fun _ => .fieldAddr rfl rfl KQ.z) (.step rfl (fun _ => .load1 rfl rfl rfl .h rfl KQ.z) ?_)))
  apply GR.step rfl; focus (intro Z; refine GO.capS rfl rfl ?_; exact KQ.z)
  refine .step rfl (fun _ => .muli rfl rfl rfl (by omega) KQ.z) (.step rfl (fun _ => .move rfl rfl KQ.z) (.step rfl (fun _ => .addi rfl rfl rfl (by omega) KQ.z) (.skip rfl (.step rfl (fun _ => .move rfl rfl KQ.z) (.step rfl (fun _ => .nilCheck rfl rfl KQ.z) (.step rfl (fun _ => .fieldAddr rfl rfl KQ.z) (.step rfl (fun _ => .load1 rfl rfl rfl .h rfl KQ.z) (.step rfl (fun _ => .lenS rfl rfl KQ.z) (.skip rfl (.skip rfl (.nil ?_)))))))))))
  repeat refine GT.skip rfl ?_
  refine GT.step rfl ?_
  refine GO.makeNoZero (n := n) (el := 5) rfl (show some (Value.int .i64 (2 * ((0 : Nat) : Int) + (n : Int))) = some (i64 (n : Nat)) by congr 2; omega) (by omega) (by unfold maxLen; omega) (makeNZ n) fun bg lg hg1 hg2 => ?_
  refine GO.nil ⟨rfl, _, pt bg (row lg 5) :: F, rfl, ImpS.sb (.c (.t .h) (.c .h .r)), ?_⟩
  repeat refine GT.skip rfl ?_
  refine GT.step rfl ?_
  refine GO.sliceHi (l := 0) rfl rfl rfl ⟨rfl, Nat.zero_le _⟩ ?_
  refine GO.nil ⟨rfl, _, pt bg (row lg 5) :: F, rfl, ImpS.sb (.c .h (.c .h .r)), ?_⟩
  repeat refine GT.skip rfl ?_
  refine GT.step rfl ?_
  refine GO.assign rfl rfl ?_
  refine GO.nil ⟨rfl, _, pt bg (row lg 5) :: F, rfl, ImpS.sb (.c .h (.c .h .r)), ?_⟩
  refine GT.nil ?_
  refine .nil (kthen_n (.seq (.region (.move rfl rfl (.move rfl rfl (.nilCheck rfl rfl (.fieldAddr rfl rfl (.load1 rfl rfl rfl .h rfl ?_))))))))
  refine GO.copy0 rfl rfl rfl ?_
  refine .nil (kthen_n (.region (.move rfl rfl (.move rfl rfl (.nilCheck rfl rfl (.fieldAddr rfl rfl (.store1 rfl rfl rfl .h (by simp) (.nil ?_))))))))
  refine KF2.n0 rfl ⟨.slice (some ⟨bg, 0, none⟩) 0 lg.length, rfl⟩ ?_
  refine ImpS.trans (ImpS.sb (M := pt bg (row lg 5) :: bldP b p (.slice (some ⟨bg, 0, none⟩) 0 lg.length) :: F) (.c (.t .h) (.c .h .r))) ?_
  refine ImpS.trans (ImpS.own (xs := []) (rest' := lg) (sz := 1) (n := 0) (cap := lg.length) rfl rfl (Nat.zero_le _) hg2 (by simp) ImpS.refl) ?_
  refine ImpS.sb ?_
  exact .c (.t .h) (.c .h .r)
set_option maxHeartbeats 8000000 in
theorem bgrow_spec (b n : Nat) (hn : 0 < n) (hn2 : ¬ 1048576 < n) : Fn Tryz.prog 159 #[ptrV b, i64 (n : Nat)] [bldP b (.pointer none) (.slice none 0 0)] (fun _ Q => ∃ v, Q = [bldP b (ptrV b) v, bufP v []]) := by
  refine Fn.mk2 Tryz.func159 rfl rfl fun w0 F => ?_
  have d1 : decide ((n : Int) < 0) = false := decide_eq_false (by omega)
  refine .seq (.region (.move rfl rfl ?_))
  refine GO.call1 rfl rfl (ccFresh b (.slice none 0 0)) (Tks.c Tk.h Tks.n) ?_
  rintro _ _ rfl
  refine .nil (kthen_n (.seq (.seq (.region (.move rfl rfl (.lti rfl rfl rfl (.nil (kthen_n (.condF rfl rfl (.skip (kthen_n (.seq ?_))))))))))))
  refine G.draw 13 (by kernel_rfl) ?_
  refine .step (fun _ => .move rfl rfl KQ.z) (.step (fun _ => .nilCheck rfl rfl KQ.z) (.step (fun _ => .fieldAddr rfl rfl KQ.z) (.step (fun _ => .load1 rfl rfl rfl .h rfl KQ.z) ?_)))
  apply GQ.step; focus (intro Z; refine GO.capS rfl rfl ?_; exact KQ.z)
  refine .step (fun _ => .move rfl rfl KQ.z) (.step (fun _ => .nilCheck rfl rfl KQ.z) (.step (fun _ => .fieldAddr rfl rfl KQ.z) (.step (fun _ => .load1 rfl rfl rfl .h rfl KQ.z) (.step (fun _ => .lenS rfl rfl KQ.z) (.step (fun _ => .subi rfl rfl rfl (by omega) KQ.z) (.step (fun _ => .move rfl rfl KQ.z) (.step (fun _ => .lti rfl rfl rfl KQ.z) (.nil ?_))))))))
  have d2 : decide ((((0 : Nat) : Int) - ((0 : Nat) : Int)) < (n : Int)) = true := decide_eq_true (by omega)
  refine .nil (kthen_n (.condT rfl (by assumption) (.region (.move rfl rfl (.move rfl rfl ?_)))))
  refine GO.call2 rfl rfl rfl (bgrow1_spec b n (ptrV b) hn hn2) (Tks.c Tk.h Tks.n) ?_
  rintro _ _ ⟨v, rfl⟩
  refine .nil ?_
  refine KF2.n0 rfl ⟨v, rfl⟩ (ImpS.sb ?_)
  exact .c .h (.c .h .r)
end Go.Proofs.YtbconcohpfkncaaGreat
namespace Go.Proofs.YtbconcohpfkncaaGreat
open Go
def blankB (b : UInt8) : Bool := decide ((b.toNat : Int) = 32) || decide ((b.toNat : Int) = 9) || decide ((b.toNat : Int) = 10) || decide ((b.toNat : Int) = 13)
def innerB (b : UInt8) : Bool := (decide (97 ≤ (b.toNat : Int)) && decide ((b.toNat : Int) ≤ 122)) || (decide (65 ≤ (b.toNat : Int)) && decide ((b.toNat : Int) ≤ 90)) || (decide (48 ≤ (b.toNat : Int)) && decide ((b.toNat : Int) ≤ 57)) || decide ((b.toNat : Int) = 95)
def kindB (b : UInt8) : Nat :=
  if (b.toNat : Int) = 61 then 4 else if (b.toNat : Int) = 59 then 5 else if (b.toNat : Int) = 124 then 6 else if (b.toNat : Int) = 42 then 7 else if (b.toNat : Int) = 43 then 8
  else if (b.toNat : Int) = 63 then 9 else if (b.toNat : Int) = 40 then 10 else if (b.toNat : Int) = 41 then 11 else if (b.toNat : Int) = 37 then 12
  else if 65 ≤ (b.toNat : Int) ∧ (b.toNat : Int) ≤ 90 then 1 else if 97 ≤ (b.toNat : Int) ∧ (b.toNat : Int) ≤ 122 then 2 else if innerB b = true then 3 else 0
/-- A mark: its kind, its place, its bytes. -/
structure MarkD where
  kind : Nat
  place : Nat
  text : List UInt8
  deriving DecidableEq
def markVs (m : MarkD) : List Value := [i64 (m.kind : Nat), i64 (m.place : Nat), str m.text]
def skipN (s : List UInt8) (i : Nat) : Nat := i + ((s.drop i).takeWhile blankB).length
def wordN (s : List UInt8) (i : Nat) : Nat := i + ((s.drop i).takeWhile innerB).length
theorem drop_at {α : Type} {s : List α} {i : Nat} {b : α} (h : s[i]? = some b) : s.drop i = b :: s.drop (i + 1) := by
  obtain ⟨hlt, rfl⟩ := List.getElem?_eq_some_iff.1 h
  exact List.drop_eq_getElem_cons hlt
theorem run_step {f : UInt8 → Bool} {s : List UInt8} {i : Nat} {b : UInt8} (h : s[i]? = some b) (hb : f b = true) : i + 1 + ((s.drop (i + 1)).takeWhile f).length = i + ((s.drop i).takeWhile f).length := by
  rw [drop_at h, List.takeWhile_cons, if_pos hb, List.length_cons]; omega
theorem run_stop {f : UInt8 → Bool} {s : List UInt8} {i : Nat} {b : UInt8} (h : s[i]? = some b) (hb : f b = false) : i + ((s.drop i).takeWhile f).length = i := by
  rw [drop_at h, List.takeWhile_cons, if_neg (by rw [hb]; decide), List.length_nil, Nat.add_zero]
theorem run_end {f : UInt8 → Bool} {s : List UInt8} {i : Nat} (h : s.length ≤ i) : i + ((s.drop i).takeWhile f).length = i := by
  rw [List.drop_eq_nil_of_le h]; rfl
theorem run_le (f : UInt8 → Bool) {s : List UInt8} {i : Nat} (h : i ≤ s.length) : i + ((s.drop i).takeWhile f).length ≤ s.length := by
  have : ((s.drop i).takeWhile f).length ≤ (s.drop i).length := (List.takeWhile_sublist f).length_le
  rw [List.length_drop] at this; omega
theorem skipN_le {s : List UInt8} {i : Nat} (h : i ≤ s.length) : skipN s i ≤ s.length := run_le blankB h
theorem wordN_le {s : List UInt8} {i : Nat} (h : i ≤ s.length) : wordN s i ≤ s.length := run_le innerB h
/-- The next mark from a place on. -/
def nextM (s : List UInt8) (i : Nat) : MarkD :=
  match s[skipN s i]? with
  | none => ⟨0, skipN s i, []⟩
  | some b => if kindB b = 0 then ⟨0, skipN s i, []⟩ else if kindB b ≤ 3 then ⟨kindB b, skipN s i, (s.drop (skipN s i)).take (wordN s (skipN s i + 1) - skipN s i)⟩ else ⟨kindB b, skipN s i, (s.drop (skipN s i)).take 1⟩
theorem nextM_le {s : List UInt8} {i : Nat} (h : i ≤ s.length) : i ≤ (nextM s i).place ∧ (nextM s i).place + (nextM s i).text.length ≤ s.length ∧ ((nextM s i).kind ≠ 0 → 0 < (nextM s i).text.length) := by
  have h1 := skipN_le h
  have h0 : i ≤ skipN s i := by unfold skipN; omega
  unfold nextM
  cases hb : s[skipN s i]? with
  | none => exact ⟨h0, by simpa using h1, fun h => absurd rfl h⟩
  | some b =>
    have hlt : skipN s i < s.length := (List.getElem?_eq_some_iff.1 hb).1
    have h2 : wordN s (skipN s i + 1) ≤ s.length := wordN_le (by omega)
    have h3 : skipN s i + 1 ≤ wordN s (skipN s i + 1) := by unfold wordN; omega
    dsimp only
    split
    · exact ⟨h0, by simpa using h1, fun h => absurd rfl h⟩
    · split
      · refine ⟨h0, ?_, fun _ => ?_⟩ <;> simp only [List.length_take, List.length_drop] <;> omega
      · refine ⟨h0, ?_, fun _ => ?_⟩ <;> simp only [List.length_take, List.length_drop] <;> omega
/-- The marks from a place on, up to what begins none; and that place. -/
def scanL (s : List UInt8) : Nat → Nat → List MarkD
  | 0, _ => []
  | n + 1, i => if (nextM s i).kind = 0 then [] else nextM s i :: scanL s n ((nextM s i).place + (nextM s i).text.length)
def scanE (s : List UInt8) : Nat → Nat → Nat
  | 0, i => i
  | n + 1, i => if (nextM s i).kind = 0 then (nextM s i).place else scanE s n ((nextM s i).place + (nextM s i).text.length)
def marksF (s : List UInt8) : List MarkD := scanL s (s.length + 1) 0
def badF (s : List UInt8) : Nat := scanE s (s.length + 1) 0
/-- Where the i-th mark is looked for. -/
def fromL (ms : List MarkD) : Nat → Nat
  | 0 => 0
  | i + 1 => match ms[i]? with
    | some m => m.place + m.text.length
    | none => 0
end Go.Proofs.YtbconcohpfkncaaGreat
namespace Go.Proofs.YtbconcohpfkncaaGreat
open Go
attribute [local irreducible] G GO GR GT Fn FnV pt init exs pur sat own ImpS
set_option maxHeartbeats 4000000 in
theorem blank_spec (b : UInt8) : Fn Tryz.prog 65 #[u8 b] [] (fun r Q => r = .bool (blankB b) ∧ Q = []) := by
  refine Fn.mk2 Tryz.func65 rfl rfl fun w0 F => ?_
  unfold blankB
  cases e1 : decide ((b.toNat : Int) = 32)
  · cases e2 : decide ((b.toNat : Int) = 9)
    · cases e3 : decide ((b.toNat : Int) = 10)
      · (refine .seq (.region (.assign rfl rfl (.nil (kthen_n (.seq (.region (.move rfl rfl (.eqi rfl rfl rfl (.move rfl rfl (.gT rfl rfl (by assumption) (.move rfl rfl (.gT rfl rfl (by assumption) (.eqi rfl rfl rfl (.pickFa rfl rfl (by assumption) rfl (.move rfl rfl ?_))))))))))))))); refine .gT rfl rfl (by assumption) (.move rfl rfl (.gT rfl rfl (by assumption) (.eqi rfl rfl rfl (.pickFa rfl rfl (by assumption) rfl (.move rfl rfl (.gT rfl rfl (by assumption) (.move rfl rfl (.gT rfl rfl (by assumption) (.eqi rfl rfl rfl (.pickFa rfl rfl (by assumption) rfl (.assign rfl rfl (.nil (kthen_n (.ret ?_)))))))))))))))
        refine KF2.r1 rfl (RV.t rfl) ⟨rfl, rfl⟩ (ImpS.sb ?_)
        exact .r
      · (refine .seq (.region (.assign rfl rfl (.nil (kthen_n (.seq (.region (.move rfl rfl (.eqi rfl rfl rfl (.move rfl rfl (.gT rfl rfl (by assumption) (.move rfl rfl (.gT rfl rfl (by assumption) (.eqi rfl rfl rfl (.pickFa rfl rfl (by assumption) rfl (.move rfl rfl ?_))))))))))))))); refine .gT rfl rfl (by assumption) (.move rfl rfl (.gT rfl rfl (by assumption) (.eqi rfl rfl rfl (.pickFa rfl rfl (by assumption) rfl (.move rfl rfl (.gF rfl rfl rfl (by assumption) (.gF rfl rfl rfl (by assumption) (.pickTa rfl rfl (by assumption) rfl (.assign rfl rfl (.nil (kthen_n (.ret ?_)))))))))))))
        refine KF2.r1 rfl (RV.t rfl) ⟨rfl, rfl⟩ (ImpS.sb ?_)
        exact .r
    · (refine .seq (.region (.assign rfl rfl (.nil (kthen_n (.seq (.region (.move rfl rfl (.eqi rfl rfl rfl (.move rfl rfl (.gT rfl rfl (by assumption) (.move rfl rfl (.gT rfl rfl (by assumption) (.eqi rfl rfl rfl (.pickFa rfl rfl (by assumption) rfl (.move rfl rfl ?_))))))))))))))); refine .gF rfl rfl rfl (by assumption) (.gF rfl rfl rfl (by assumption) (.pickTa rfl rfl (by assumption) rfl (.move rfl rfl (.gF rfl rfl rfl rfl (.gF rfl rfl rfl rfl (.pickT rfl rfl rfl (.assign rfl rfl (.nil (kthen_n (.ret ?_)))))))))))
      refine KF2.r1 rfl (RV.t rfl) ⟨rfl, rfl⟩ (ImpS.sb ?_)
      exact .r
  · (refine .seq (.region (.assign rfl rfl (.nil (kthen_n (.seq (.region (.move rfl rfl (.eqi rfl rfl rfl (.move rfl rfl (.gF rfl rfl rfl (by assumption) (.gF rfl rfl rfl (by assumption) (.pickTa rfl rfl (by assumption) rfl (.move rfl rfl (.gF rfl rfl rfl rfl (.gF rfl rfl rfl rfl ?_))))))))))))))); refine .pickT rfl rfl rfl (.move rfl rfl (.gF rfl rfl rfl rfl (.gF rfl rfl rfl rfl (.pickT rfl rfl rfl (.assign rfl rfl (.nil (kthen_n (.ret ?_)))))))))
    refine KF2.r1 rfl (RV.t rfl) ⟨rfl, rfl⟩ (ImpS.sb ?_)
    exact .r
set_option maxHeartbeats 4000000 in
theorem inner_spec (b : UInt8) : Fn Tryz.prog 67 #[u8 b] [] (fun r Q => r = .bool (innerB b) ∧ Q = []) := by
  have hc : ((b.toNat : Int) < 48) ∨ (48 ≤ (b.toNat : Int) ∧ (b.toNat : Int) ≤ 57) ∨ (57 < (b.toNat : Int) ∧ (b.toNat : Int) < 65) ∨ (65 ≤ (b.toNat : Int) ∧ (b.toNat : Int) ≤ 90) ∨ (90 < (b.toNat : Int) ∧ (b.toNat : Int) < 95) ∨ ((b.toNat : Int) = 95) ∨ ((b.toNat : Int) = 96) ∨ (97 ≤ (b.toNat : Int) ∧ (b.toNat : Int) ≤ 122) ∨ (122 < (b.toNat : Int)) := by omega
  refine Fn.mk2 Tryz.func67 rfl rfl fun w0 F => ?_
  unfold innerB
  rcases hc with h | h | h | h | h | h | h | h | h
  · skip
    have e1 : decide (97 ≤ (b.toNat : Int)) = false := decide_eq_false (by omega)
    have e2 : decide ((b.toNat : Int) ≤ 122) = true := decide_eq_true (by omega)
    have e3 : decide (65 ≤ (b.toNat : Int)) = false := decide_eq_false (by omega)
    have e4 : decide ((b.toNat : Int) ≤ 90) = true := decide_eq_true (by omega)
    have e5 : decide (48 ≤ (b.toNat : Int)) = false := decide_eq_false (by omega)
    have e6 : decide ((b.toNat : Int) ≤ 57) = true := decide_eq_true (by omega)
    have e7 : decide ((b.toNat : Int) = 95) = false := decide_eq_false (by omega)
    clear h
    (refine .seq (.region (.assign rfl rfl (.nil (kthen_n (.seq (.region (.move rfl rfl (.gei rfl rfl rfl (.move rfl rfl (.gF rfl rfl rfl (by assumption) (.gF rfl rfl rfl (by assumption) (.pickFa rfl rfl (by assumption) rfl (.move rfl rfl (.gT rfl rfl rfl (.move rfl rfl ?_))))))))))))))); refine .gT rfl rfl rfl (.gei rfl rfl rfl (.gT rfl rfl rfl (.move rfl rfl (.gF rfl rfl rfl (by assumption) (.gF rfl rfl rfl (by assumption) (.gT rfl rfl rfl (.pickFa rfl rfl (by assumption) rfl (.pickF rfl rfl rfl (.move rfl rfl (.gT rfl rfl rfl (.move rfl rfl (.gT rfl rfl rfl (.gei rfl rfl rfl (.gT rfl rfl rfl (.move rfl rfl ?_))))))))))))))); refine .gF rfl rfl rfl (by assumption) (.gF rfl rfl rfl (by assumption) (.gT rfl rfl rfl (.pickFa rfl rfl (by assumption) rfl (.pickF rfl rfl rfl (.move rfl rfl (.gT rfl rfl rfl (.move rfl rfl (.gT rfl rfl rfl (.eqi rfl rfl rfl (.pickF rfl rfl rfl (.assign rfl rfl (.nil (kthen_n (.ret ?_)))))))))))))))
    refine KF2.r1 rfl (RV.t rfl) ⟨by rw [e1, e2, e3, e4, e5, e6, e7]; rfl, rfl⟩ (ImpS.sb ?_)
    exact .r
  · skip
    have e1 : decide (97 ≤ (b.toNat : Int)) = false := decide_eq_false (by omega)
    have e2 : decide ((b.toNat : Int) ≤ 122) = true := decide_eq_true (by omega)
    have e3 : decide (65 ≤ (b.toNat : Int)) = false := decide_eq_false (by omega)
    have e4 : decide ((b.toNat : Int) ≤ 90) = true := decide_eq_true (by omega)
    have e5 : decide (48 ≤ (b.toNat : Int)) = true := decide_eq_true (by omega)
    have e6 : decide ((b.toNat : Int) ≤ 57) = true := decide_eq_true (by omega)
    have e7 : decide ((b.toNat : Int) = 95) = false := decide_eq_false (by omega)
    clear h
    (refine .seq (.region (.assign rfl rfl (.nil (kthen_n (.seq (.region (.move rfl rfl (.gei rfl rfl rfl (.move rfl rfl (.gF rfl rfl rfl (by assumption) (.gF rfl rfl rfl (by assumption) (.pickFa rfl rfl (by assumption) rfl (.move rfl rfl (.gT rfl rfl rfl (.move rfl rfl ?_))))))))))))))); refine .gT rfl rfl rfl (.gei rfl rfl rfl (.gT rfl rfl rfl (.move rfl rfl (.gF rfl rfl rfl (by assumption) (.gF rfl rfl rfl (by assumption) (.gT rfl rfl rfl (.pickFa rfl rfl (by assumption) rfl (.pickF rfl rfl rfl (.move rfl rfl (.gT rfl rfl rfl (.move rfl rfl (.gT rfl rfl rfl (.gei rfl rfl rfl (.gT rfl rfl rfl (.move rfl rfl ?_))))))))))))))); refine .gT rfl rfl (by assumption) (.move rfl rfl (.gT rfl rfl (by assumption) (.lei rfl rfl rfl (.gT rfl rfl rfl (.pickTa rfl rfl (by assumption) rfl (.pickF rfl rfl rfl (.move rfl rfl (.gF rfl rfl rfl (by assumption) (.gF rfl rfl rfl (by assumption) (.pickTa rfl rfl (by assumption) rfl (.assign rfl rfl (.nil (kthen_n (.ret ?_)))))))))))))))
    refine KF2.r1 rfl (RV.t rfl) ⟨by rw [e1, e2, e3, e4, e5, e6, e7]; rfl, rfl⟩ (ImpS.sb ?_)
    exact .r
  · skip
    have e1 : decide (97 ≤ (b.toNat : Int)) = false := decide_eq_false (by omega)
    have e2 : decide ((b.toNat : Int) ≤ 122) = true := decide_eq_true (by omega)
    have e3 : decide (65 ≤ (b.toNat : Int)) = false := decide_eq_false (by omega)
    have e4 : decide ((b.toNat : Int) ≤ 90) = true := decide_eq_true (by omega)
    have e5 : decide (48 ≤ (b.toNat : Int)) = true := decide_eq_true (by omega)
    have e6 : decide ((b.toNat : Int) ≤ 57) = false := decide_eq_false (by omega)
    have e7 : decide ((b.toNat : Int) = 95) = false := decide_eq_false (by omega)
    clear h
    (refine .seq (.region (.assign rfl rfl (.nil (kthen_n (.seq (.region (.move rfl rfl (.gei rfl rfl rfl (.move rfl rfl (.gF rfl rfl rfl (by assumption) (.gF rfl rfl rfl (by assumption) (.pickFa rfl rfl (by assumption) rfl (.move rfl rfl (.gT rfl rfl rfl (.move rfl rfl ?_))))))))))))))); refine .gT rfl rfl rfl (.gei rfl rfl rfl (.gT rfl rfl rfl (.move rfl rfl (.gF rfl rfl rfl (by assumption) (.gF rfl rfl rfl (by assumption) (.gT rfl rfl rfl (.pickFa rfl rfl (by assumption) rfl (.pickF rfl rfl rfl (.move rfl rfl (.gT rfl rfl rfl (.move rfl rfl (.gT rfl rfl rfl (.gei rfl rfl rfl (.gT rfl rfl rfl (.move rfl rfl ?_))))))))))))))); refine .gT rfl rfl (by assumption) (.move rfl rfl (.gT rfl rfl (by assumption) (.lei rfl rfl rfl (.gT rfl rfl rfl (.pickTa rfl rfl (by assumption) rfl (.pickF rfl rfl rfl (.move rfl rfl (.gT rfl rfl (by assumption) (.move rfl rfl (.gT rfl rfl (by assumption) (.eqi rfl rfl rfl (.pickFa rfl rfl (by assumption) rfl (.assign rfl rfl (.nil (kthen_n ?_))))))))))))))); refine .ret ?_)
    refine KF2.r1 rfl (RV.t rfl) ⟨by rw [e1, e2, e3, e4, e5, e6, e7]; rfl, rfl⟩ (ImpS.sb ?_)
    exact .r
  · skip
    have e1 : decide (97 ≤ (b.toNat : Int)) = false := decide_eq_false (by omega)
    have e2 : decide ((b.toNat : Int) ≤ 122) = true := decide_eq_true (by omega)
    have e3 : decide (65 ≤ (b.toNat : Int)) = true := decide_eq_true (by omega)
    have e4 : decide ((b.toNat : Int) ≤ 90) = true := decide_eq_true (by omega)
    have e5 : decide (48 ≤ (b.toNat : Int)) = true := decide_eq_true (by omega)
    have e6 : decide ((b.toNat : Int) ≤ 57) = false := decide_eq_false (by omega)
    have e7 : decide ((b.toNat : Int) = 95) = false := decide_eq_false (by omega)
    clear h
    (refine .seq (.region (.assign rfl rfl (.nil (kthen_n (.seq (.region (.move rfl rfl (.gei rfl rfl rfl (.move rfl rfl (.gF rfl rfl rfl (by assumption) (.gF rfl rfl rfl (by assumption) (.pickFa rfl rfl (by assumption) rfl (.move rfl rfl (.gT rfl rfl rfl (.move rfl rfl ?_))))))))))))))); refine .gT rfl rfl rfl (.gei rfl rfl rfl (.gT rfl rfl rfl (.move rfl rfl (.gT rfl rfl (by assumption) (.move rfl rfl (.gT rfl rfl (by assumption) (.lei rfl rfl rfl (.gT rfl rfl rfl (.pickTa rfl rfl (by assumption) rfl (.pickF rfl rfl rfl (.move rfl rfl (.gF rfl rfl rfl (by assumption) (.gF rfl rfl rfl (by assumption) (.gF rfl rfl rfl (by assumption) (.gU rfl rfl rfl ?_))))))))))))))); refine .gU rfl rfl rfl (.gF rfl rfl rfl (by assumption) (.pickTa rfl rfl (by assumption) rfl (.move rfl rfl (.gF rfl rfl rfl rfl (.gF rfl rfl rfl rfl (.pickT rfl rfl rfl (.assign rfl rfl (.nil (kthen_n (.ret ?_)))))))))))
    refine KF2.r1 rfl (RV.t rfl) ⟨by rw [e1, e2, e3, e4, e5, e6, e7]; rfl, rfl⟩ (ImpS.sb ?_)
    exact .r
  · skip
    have e1 : decide (97 ≤ (b.toNat : Int)) = false := decide_eq_false (by omega)
    have e2 : decide ((b.toNat : Int) ≤ 122) = true := decide_eq_true (by omega)
    have e3 : decide (65 ≤ (b.toNat : Int)) = true := decide_eq_true (by omega)
    have e4 : decide ((b.toNat : Int) ≤ 90) = false := decide_eq_false (by omega)
    have e5 : decide (48 ≤ (b.toNat : Int)) = true := decide_eq_true (by omega)
    have e6 : decide ((b.toNat : Int) ≤ 57) = false := decide_eq_false (by omega)
    have e7 : decide ((b.toNat : Int) = 95) = false := decide_eq_false (by omega)
    clear h
    (refine .seq (.region (.assign rfl rfl (.nil (kthen_n (.seq (.region (.move rfl rfl (.gei rfl rfl rfl (.move rfl rfl (.gF rfl rfl rfl (by assumption) (.gF rfl rfl rfl (by assumption) (.pickFa rfl rfl (by assumption) rfl (.move rfl rfl (.gT rfl rfl rfl (.move rfl rfl ?_))))))))))))))); refine .gT rfl rfl rfl (.gei rfl rfl rfl (.gT rfl rfl rfl (.move rfl rfl (.gT rfl rfl (by assumption) (.move rfl rfl (.gT rfl rfl (by assumption) (.lei rfl rfl rfl (.gT rfl rfl rfl (.pickTa rfl rfl (by assumption) rfl (.pickF rfl rfl rfl (.move rfl rfl (.gT rfl rfl (by assumption) (.move rfl rfl (.gT rfl rfl (by assumption) (.gei rfl rfl rfl ?_))))))))))))))); refine .gT rfl rfl (by assumption) (.move rfl rfl (.gT rfl rfl (by assumption) (.move rfl rfl (.gT rfl rfl (by assumption) (.lei rfl rfl rfl (.gT rfl rfl (by assumption) (.pickTa rfl rfl (by assumption) rfl (.pickFa rfl rfl (by assumption) rfl (.move rfl rfl (.gT rfl rfl (by assumption) (.move rfl rfl (.gT rfl rfl (by assumption) (.eqi rfl rfl rfl (.pickFa rfl rfl (by assumption) rfl (.assign rfl rfl ?_))))))))))))))); refine .nil (kthen_n (.ret ?_)))
    refine KF2.r1 rfl (RV.t rfl) ⟨by rw [e1, e2, e3, e4, e5, e6, e7]; rfl, rfl⟩ (ImpS.sb ?_)
    exact .r
  · skip
    have e1 : decide (97 ≤ (b.toNat : Int)) = false := decide_eq_false (by omega)
    have e2 : decide ((b.toNat : Int) ≤ 122) = true := decide_eq_true (by omega)
    have e3 : decide (65 ≤ (b.toNat : Int)) = true := decide_eq_true (by omega)
    have e4 : decide ((b.toNat : Int) ≤ 90) = false := decide_eq_false (by omega)
    have e5 : decide (48 ≤ (b.toNat : Int)) = true := decide_eq_true (by omega)
    have e6 : decide ((b.toNat : Int) ≤ 57) = false := decide_eq_false (by omega)
    have e7 : decide ((b.toNat : Int) = 95) = true := decide_eq_true (by omega)
    clear h
    (refine .seq (.region (.assign rfl rfl (.nil (kthen_n (.seq (.region (.move rfl rfl (.gei rfl rfl rfl (.move rfl rfl (.gF rfl rfl rfl (by assumption) (.gF rfl rfl rfl (by assumption) (.pickFa rfl rfl (by assumption) rfl (.move rfl rfl (.gT rfl rfl rfl (.move rfl rfl ?_))))))))))))))); refine .gT rfl rfl rfl (.gei rfl rfl rfl (.gT rfl rfl rfl (.move rfl rfl (.gT rfl rfl (by assumption) (.move rfl rfl (.gT rfl rfl (by assumption) (.lei rfl rfl rfl (.gT rfl rfl rfl (.pickTa rfl rfl (by assumption) rfl (.pickF rfl rfl rfl (.move rfl rfl (.gT rfl rfl (by assumption) (.move rfl rfl (.gT rfl rfl (by assumption) (.gei rfl rfl rfl ?_))))))))))))))); refine .gT rfl rfl (by assumption) (.move rfl rfl (.gT rfl rfl (by assumption) (.move rfl rfl (.gT rfl rfl (by assumption) (.lei rfl rfl rfl (.gT rfl rfl (by assumption) (.pickTa rfl rfl (by assumption) rfl (.pickFa rfl rfl (by assumption) rfl (.move rfl rfl (.gT rfl rfl (by assumption) (.move rfl rfl (.gT rfl rfl (by assumption) (.eqi rfl rfl rfl (.pickFa rfl rfl (by assumption) rfl (.assign rfl rfl ?_))))))))))))))); refine .nil (kthen_n (.ret ?_)))
    refine KF2.r1 rfl (RV.t rfl) ⟨by rw [e1, e2, e3, e4, e5, e6, e7]; rfl, rfl⟩ (ImpS.sb ?_)
    exact .r
  · skip
    have e1 : decide (97 ≤ (b.toNat : Int)) = false := decide_eq_false (by omega)
    have e2 : decide ((b.toNat : Int) ≤ 122) = true := decide_eq_true (by omega)
    have e3 : decide (65 ≤ (b.toNat : Int)) = true := decide_eq_true (by omega)
    have e4 : decide ((b.toNat : Int) ≤ 90) = false := decide_eq_false (by omega)
    have e5 : decide (48 ≤ (b.toNat : Int)) = true := decide_eq_true (by omega)
    have e6 : decide ((b.toNat : Int) ≤ 57) = false := decide_eq_false (by omega)
    have e7 : decide ((b.toNat : Int) = 95) = false := decide_eq_false (by omega)
    clear h
    (refine .seq (.region (.assign rfl rfl (.nil (kthen_n (.seq (.region (.move rfl rfl (.gei rfl rfl rfl (.move rfl rfl (.gF rfl rfl rfl (by assumption) (.gF rfl rfl rfl (by assumption) (.pickFa rfl rfl (by assumption) rfl (.move rfl rfl (.gT rfl rfl rfl (.move rfl rfl ?_))))))))))))))); refine .gT rfl rfl rfl (.gei rfl rfl rfl (.gT rfl rfl rfl (.move rfl rfl (.gT rfl rfl (by assumption) (.move rfl rfl (.gT rfl rfl (by assumption) (.lei rfl rfl rfl (.gT rfl rfl rfl (.pickTa rfl rfl (by assumption) rfl (.pickF rfl rfl rfl (.move rfl rfl (.gT rfl rfl (by assumption) (.move rfl rfl (.gT rfl rfl (by assumption) (.gei rfl rfl rfl ?_))))))))))))))); refine .gT rfl rfl (by assumption) (.move rfl rfl (.gT rfl rfl (by assumption) (.move rfl rfl (.gT rfl rfl (by assumption) (.lei rfl rfl rfl (.gT rfl rfl (by assumption) (.pickTa rfl rfl (by assumption) rfl (.pickFa rfl rfl (by assumption) rfl (.move rfl rfl (.gT rfl rfl (by assumption) (.move rfl rfl (.gT rfl rfl (by assumption) (.eqi rfl rfl rfl (.pickFa rfl rfl (by assumption) rfl (.assign rfl rfl ?_))))))))))))))); refine .nil (kthen_n (.ret ?_)))
    refine KF2.r1 rfl (RV.t rfl) ⟨by rw [e1, e2, e3, e4, e5, e6, e7]; rfl, rfl⟩ (ImpS.sb ?_)
    exact .r
  · skip
    have e1 : decide (97 ≤ (b.toNat : Int)) = true := decide_eq_true (by omega)
    have e2 : decide ((b.toNat : Int) ≤ 122) = true := decide_eq_true (by omega)
    have e3 : decide (65 ≤ (b.toNat : Int)) = true := decide_eq_true (by omega)
    have e4 : decide ((b.toNat : Int) ≤ 90) = false := decide_eq_false (by omega)
    have e5 : decide (48 ≤ (b.toNat : Int)) = true := decide_eq_true (by omega)
    have e6 : decide ((b.toNat : Int) ≤ 57) = false := decide_eq_false (by omega)
    have e7 : decide ((b.toNat : Int) = 95) = false := decide_eq_false (by omega)
    clear h
    (refine .seq (.region (.assign rfl rfl (.nil (kthen_n (.seq (.region (.move rfl rfl (.gei rfl rfl rfl (.move rfl rfl (.gT rfl rfl (by assumption) (.move rfl rfl (.gT rfl rfl (by assumption) (.lei rfl rfl rfl (.pickTa rfl rfl (by assumption) rfl (.move rfl rfl ?_))))))))))))))); refine .gF rfl rfl rfl (by assumption) (.gF rfl rfl rfl (by assumption) (.gF rfl rfl rfl (by assumption) (.gU rfl rfl rfl (.gU rfl rfl rfl (.gF rfl rfl rfl (by assumption) (.pickTa rfl rfl (by assumption) rfl (.move rfl rfl (.gF rfl rfl rfl rfl (.gF rfl rfl rfl rfl (.gF rfl rfl rfl rfl (.gU rfl rfl rfl (.gU rfl rfl rfl (.gF rfl rfl rfl rfl (.pickT rfl rfl rfl (.move rfl rfl ?_))))))))))))))); refine .gF rfl rfl rfl rfl (.gF rfl rfl rfl rfl (.pickT rfl rfl rfl (.assign rfl rfl (.nil (kthen_n (.ret ?_)))))))
    refine KF2.r1 rfl (RV.t rfl) ⟨by rw [e1, e2, e3, e4, e5, e6, e7]; rfl, rfl⟩ (ImpS.sb ?_)
    exact .r
  · skip
    have e1 : decide (97 ≤ (b.toNat : Int)) = true := decide_eq_true (by omega)
    have e2 : decide ((b.toNat : Int) ≤ 122) = false := decide_eq_false (by omega)
    have e3 : decide (65 ≤ (b.toNat : Int)) = true := decide_eq_true (by omega)
    have e4 : decide ((b.toNat : Int) ≤ 90) = false := decide_eq_false (by omega)
    have e5 : decide (48 ≤ (b.toNat : Int)) = true := decide_eq_true (by omega)
    have e6 : decide ((b.toNat : Int) ≤ 57) = false := decide_eq_false (by omega)
    have e7 : decide ((b.toNat : Int) = 95) = false := decide_eq_false (by omega)
    clear h
    (refine .seq (.region (.assign rfl rfl (.nil (kthen_n (.seq (.region (.move rfl rfl (.gei rfl rfl rfl (.move rfl rfl (.gT rfl rfl (by assumption) (.move rfl rfl (.gT rfl rfl (by assumption) (.lei rfl rfl rfl (.pickTa rfl rfl (by assumption) rfl (.move rfl rfl ?_))))))))))))))); refine .gT rfl rfl (by assumption) (.move rfl rfl (.gT rfl rfl (by assumption) (.gei rfl rfl rfl (.gT rfl rfl (by assumption) (.move rfl rfl (.gT rfl rfl (by assumption) (.move rfl rfl (.gT rfl rfl (by assumption) (.lei rfl rfl rfl (.gT rfl rfl (by assumption) (.pickTa rfl rfl (by assumption) rfl (.pickFa rfl rfl (by assumption) rfl (.move rfl rfl (.gT rfl rfl (by assumption) (.move rfl rfl ?_))))))))))))))); refine .gT rfl rfl (by assumption) (.gei rfl rfl rfl (.gT rfl rfl (by assumption) (.move rfl rfl (.gT rfl rfl (by assumption) (.move rfl rfl (.gT rfl rfl (by assumption) (.lei rfl rfl rfl (.gT rfl rfl (by assumption) (.pickTa rfl rfl (by assumption) rfl (.pickFa rfl rfl (by assumption) rfl (.move rfl rfl (.gT rfl rfl (by assumption) (.move rfl rfl (.gT rfl rfl (by assumption) (.eqi rfl rfl rfl ?_))))))))))))))); refine .pickFa rfl rfl (by assumption) rfl (.assign rfl rfl (.nil (kthen_n (.ret ?_)))))
    refine KF2.r1 rfl (RV.t rfl) ⟨by rw [e1, e2, e3, e4, e5, e6, e7]; rfl, rfl⟩ (ImpS.sb ?_)
    exact .r
set_option maxHeartbeats 4000000 in
theorem kind_spec (b : UInt8) : Fn Tryz.prog 66 #[u8 b] [] (fun r Q => r = i64 (kindB b : Nat) ∧ Q = []) := by
  refine Fn.mk2 Tryz.func66 rfl rfl fun w0 F => ?_
  unfold kindB
  (refine .seq (.region (.assign rfl rfl (.nil (kthen_n (.seq (.seq (.region (.move rfl rfl (.nil (kthen_n (.block (.seq (.region (.eqi rfl rfl rfl (.assign rfl rfl ?_))))))))))))))); refine .nil (kthen_n ?_))
  refine G.condD rfl (fun h => ?_) (fun h => ?_)
  · rw [if_pos h]
    refine .seq (.region (.assign rfl rfl (.nil (kthen_n (.ret (kblock_r (kthen_r ?_)))))))
    refine KF2.r1 rfl (RV.t rfl) ⟨rfl, rfl⟩ (ImpS.sb ?_)
    exact .r
  rw [if_neg h]
  clear h
  refine .seq (.region (.eqi rfl rfl rfl (.assign rfl rfl (.nil (kthen_n ?_)))))
  refine G.condD rfl (fun h => ?_) (fun h => ?_)
  · rw [if_pos h]
    refine .seq (.region (.assign rfl rfl (.nil (kthen_n (.ret (kblock_r (kthen_r ?_)))))))
    refine KF2.r1 rfl (RV.t rfl) ⟨rfl, rfl⟩ (ImpS.sb ?_)
    exact .r
  rw [if_neg h]
  clear h
  refine .seq (.region (.eqi rfl rfl rfl (.assign rfl rfl (.nil (kthen_n ?_)))))
  refine G.condD rfl (fun h => ?_) (fun h => ?_)
  · rw [if_pos h]
    refine .seq (.region (.assign rfl rfl (.nil (kthen_n (.ret (kblock_r (kthen_r ?_)))))))
    refine KF2.r1 rfl (RV.t rfl) ⟨rfl, rfl⟩ (ImpS.sb ?_)
    exact .r
  rw [if_neg h]
  clear h
  refine .seq (.region (.eqi rfl rfl rfl (.assign rfl rfl (.nil (kthen_n ?_)))))
  refine G.condD rfl (fun h => ?_) (fun h => ?_)
  · rw [if_pos h]
    refine .seq (.region (.assign rfl rfl (.nil (kthen_n (.ret (kblock_r (kthen_r ?_)))))))
    refine KF2.r1 rfl (RV.t rfl) ⟨rfl, rfl⟩ (ImpS.sb ?_)
    exact .r
  rw [if_neg h]
  clear h
  refine .seq (.region (.eqi rfl rfl rfl (.assign rfl rfl (.nil (kthen_n ?_)))))
  refine G.condD rfl (fun h => ?_) (fun h => ?_)
  · rw [if_pos h]
    refine .seq (.region (.assign rfl rfl (.nil (kthen_n (.ret (kblock_r (kthen_r ?_)))))))
    refine KF2.r1 rfl (RV.t rfl) ⟨rfl, rfl⟩ (ImpS.sb ?_)
    exact .r
  rw [if_neg h]
  clear h
  refine .seq (.region (.eqi rfl rfl rfl (.assign rfl rfl (.nil (kthen_n ?_)))))
  refine G.condD rfl (fun h => ?_) (fun h => ?_)
  · rw [if_pos h]
    refine .seq (.region (.assign rfl rfl (.nil (kthen_n (.ret (kblock_r (kthen_r ?_)))))))
    refine KF2.r1 rfl (RV.t rfl) ⟨rfl, rfl⟩ (ImpS.sb ?_)
    exact .r
  rw [if_neg h]
  clear h
  refine .seq (.region (.eqi rfl rfl rfl (.assign rfl rfl (.nil (kthen_n ?_)))))
  refine G.condD rfl (fun h => ?_) (fun h => ?_)
  · rw [if_pos h]
    refine .seq (.region (.assign rfl rfl (.nil (kthen_n (.ret (kblock_r (kthen_r ?_)))))))
    refine KF2.r1 rfl (RV.t rfl) ⟨rfl, rfl⟩ (ImpS.sb ?_)
    exact .r
  rw [if_neg h]
  clear h
  refine .seq (.region (.eqi rfl rfl rfl (.assign rfl rfl (.nil (kthen_n ?_)))))
  refine G.condD rfl (fun h => ?_) (fun h => ?_)
  · rw [if_pos h]
    refine .seq (.region (.assign rfl rfl (.nil (kthen_n (.ret (kblock_r (kthen_r ?_)))))))
    refine KF2.r1 rfl (RV.t rfl) ⟨rfl, rfl⟩ (ImpS.sb ?_)
    exact .r
  rw [if_neg h]
  clear h
  refine .seq (.region (.eqi rfl rfl rfl (.assign rfl rfl (.nil (kthen_n ?_)))))
  refine G.condD rfl (fun h => ?_) (fun h => ?_)
  · rw [if_pos h]
    refine .seq (.region (.assign rfl rfl (.nil (kthen_n (.ret (kblock_r (kthen_r ?_)))))))
    refine KF2.r1 rfl (RV.t rfl) ⟨rfl, rfl⟩ (ImpS.sb ?_)
    exact .r
  rw [if_neg h]
  clear h
  refine .skip (kblock_n (kthen_n (.seq (.block (.seq (.region (.move rfl rfl (.gei rfl rfl rfl (.move rfl rfl ?_)))))))))
  have hc : ((b.toNat : Int) < 65) ∨ (65 ≤ (b.toNat : Int) ∧ (b.toNat : Int) ≤ 90) ∨ (90 < (b.toNat : Int) ∧ (b.toNat : Int) < 97) ∨ (97 ≤ (b.toNat : Int) ∧ (b.toNat : Int) ≤ 122) ∨ (122 < (b.toNat : Int)) := by omega
  rcases hc with h | h | h | h | h
  · skip
    have e1 : decide (65 ≤ (b.toNat : Int)) = false := decide_eq_false (by omega)
    have e2 : decide ((b.toNat : Int) ≤ 90) = true := decide_eq_true (by omega)
    have e3 : decide (97 ≤ (b.toNat : Int)) = false := decide_eq_false (by omega)
    have e4 : decide ((b.toNat : Int) ≤ 122) = true := decide_eq_true (by omega)
    rw [if_neg (by omega), if_neg (by omega)]
    clear h
    (refine .gF rfl rfl rfl (by assumption) (.gF rfl rfl rfl (by assumption) (.pickFa rfl rfl (by assumption) rfl (.assign rfl rfl (.nil (kthen_n (.condF rfl rfl (.seq (.region (.move rfl rfl (.gei rfl rfl rfl (.move rfl rfl (.gF rfl rfl rfl (by assumption) (.gF rfl rfl rfl (by assumption) (.pickFa rfl rfl (by assumption) rfl (.assign rfl rfl ?_))))))))))))))); refine .nil (kthen_n (.condF rfl rfl (.seq (.region (.move rfl rfl ?_))))))
    refine GO.call1 rfl rfl (inner_spec b) Tks.n ?_
    rintro _ _ ⟨rfl, rfl⟩
    cases e5 : innerB b
    · refine .assign rfl rfl (.nil (kthen_n (.condF rfl rfl (.skip (kblock_n (kthen_n (.seq (.region (.assign rfl rfl (.nil (kthen_n (.ret ?_))))))))))))
      refine KF2.r1 rfl (RV.t rfl) ⟨rfl, rfl⟩ (ImpS.sb ?_)
      exact .r
    · refine .assign rfl rfl (.nil (kthen_n (.condT rfl rfl (.seq (.region (.assign rfl rfl (.nil (kthen_n (.ret (kblock_r (kthen_r ?_)))))))))))
      refine KF2.r1 rfl (RV.t rfl) ⟨rfl, rfl⟩ (ImpS.sb ?_)
      exact .r
  · skip
    have e1 : decide (65 ≤ (b.toNat : Int)) = true := decide_eq_true (by omega)
    have e2 : decide ((b.toNat : Int) ≤ 90) = true := decide_eq_true (by omega)
    have e3 : decide (97 ≤ (b.toNat : Int)) = false := decide_eq_false (by omega)
    have e4 : decide ((b.toNat : Int) ≤ 122) = true := decide_eq_true (by omega)
    rw [if_pos (by omega)]
    clear h
    (refine .gT rfl rfl (by assumption) (.move rfl rfl (.gT rfl rfl (by assumption) (.lei rfl rfl rfl (.pickTa rfl rfl (by assumption) rfl (.assign rfl rfl (.nil (kthen_n (.condT rfl (by assumption) (.seq (.region (.assign rfl rfl (.nil (kthen_n (.ret (kblock_r ?_))))))))))))))); refine kthen_r ?_)
    refine KF2.r1 rfl (RV.t rfl) ⟨rfl, rfl⟩ (ImpS.sb ?_)
    exact .r
  · skip
    have e1 : decide (65 ≤ (b.toNat : Int)) = true := decide_eq_true (by omega)
    have e2 : decide ((b.toNat : Int) ≤ 90) = false := decide_eq_false (by omega)
    have e3 : decide (97 ≤ (b.toNat : Int)) = false := decide_eq_false (by omega)
    have e4 : decide ((b.toNat : Int) ≤ 122) = true := decide_eq_true (by omega)
    rw [if_neg (by omega), if_neg (by omega)]
    clear h
    (refine .gT rfl rfl (by assumption) (.move rfl rfl (.gT rfl rfl (by assumption) (.lei rfl rfl rfl (.pickTa rfl rfl (by assumption) rfl (.assign rfl rfl (.nil (kthen_n (.condF rfl (by assumption) (.seq (.region (.move rfl rfl (.gei rfl rfl rfl (.move rfl rfl (.gF rfl rfl rfl (by assumption) (.gF rfl rfl rfl (by assumption) ?_))))))))))))))); refine .pickFa rfl rfl (by assumption) rfl (.assign rfl rfl (.nil (kthen_n (.condF rfl rfl (.seq (.region (.move rfl rfl ?_))))))))
    refine GO.call1 rfl rfl (inner_spec b) Tks.n ?_
    rintro _ _ ⟨rfl, rfl⟩
    cases e5 : innerB b
    · refine .assign rfl rfl (.nil (kthen_n (.condF rfl rfl (.skip (kblock_n (kthen_n (.seq (.region (.assign rfl rfl (.nil (kthen_n (.ret ?_))))))))))))
      refine KF2.r1 rfl (RV.t rfl) ⟨rfl, rfl⟩ (ImpS.sb ?_)
      exact .r
    · refine .assign rfl rfl (.nil (kthen_n (.condT rfl rfl (.seq (.region (.assign rfl rfl (.nil (kthen_n (.ret (kblock_r (kthen_r ?_)))))))))))
      refine KF2.r1 rfl (RV.t rfl) ⟨rfl, rfl⟩ (ImpS.sb ?_)
      exact .r
  · skip
    have e1 : decide (65 ≤ (b.toNat : Int)) = true := decide_eq_true (by omega)
    have e2 : decide ((b.toNat : Int) ≤ 90) = false := decide_eq_false (by omega)
    have e3 : decide (97 ≤ (b.toNat : Int)) = true := decide_eq_true (by omega)
    have e4 : decide ((b.toNat : Int) ≤ 122) = true := decide_eq_true (by omega)
    rw [if_neg (by omega), if_pos (by omega)]
    clear h
    (refine .gT rfl rfl (by assumption) (.move rfl rfl (.gT rfl rfl (by assumption) (.lei rfl rfl rfl (.pickTa rfl rfl (by assumption) rfl (.assign rfl rfl (.nil (kthen_n (.condF rfl (by assumption) (.seq (.region (.move rfl rfl (.gei rfl rfl rfl (.move rfl rfl (.gT rfl rfl (by assumption) (.move rfl rfl ?_))))))))))))))); refine .gT rfl rfl (by assumption) (.lei rfl rfl rfl (.pickTa rfl rfl (by assumption) rfl (.assign rfl rfl (.nil (kthen_n (.condT rfl (by assumption) (.seq (.region (.assign rfl rfl (.nil (kthen_n (.ret (kblock_r (kthen_r ?_)))))))))))))))
    refine KF2.r1 rfl (RV.t rfl) ⟨rfl, rfl⟩ (ImpS.sb ?_)
    exact .r
  · skip
    have e1 : decide (65 ≤ (b.toNat : Int)) = true := decide_eq_true (by omega)
    have e2 : decide ((b.toNat : Int) ≤ 90) = false := decide_eq_false (by omega)
    have e3 : decide (97 ≤ (b.toNat : Int)) = true := decide_eq_true (by omega)
    have e4 : decide ((b.toNat : Int) ≤ 122) = false := decide_eq_false (by omega)
    rw [if_neg (by omega), if_neg (by omega)]
    clear h
    (refine .gT rfl rfl (by assumption) (.move rfl rfl (.gT rfl rfl (by assumption) (.lei rfl rfl rfl (.pickTa rfl rfl (by assumption) rfl (.assign rfl rfl (.nil (kthen_n (.condF rfl (by assumption) (.seq (.region (.move rfl rfl (.gei rfl rfl rfl (.move rfl rfl (.gT rfl rfl (by assumption) (.move rfl rfl ?_))))))))))))))); refine .gT rfl rfl (by assumption) (.lei rfl rfl rfl (.pickTa rfl rfl (by assumption) rfl (.assign rfl rfl (.nil (kthen_n (.condF rfl (by assumption) (.seq (.region (.move rfl rfl ?_))))))))))
    refine GO.call1 rfl rfl (inner_spec b) Tks.n ?_
    rintro _ _ ⟨rfl, rfl⟩
    cases e5 : innerB b
    · refine .assign rfl rfl (.nil (kthen_n (.condF rfl rfl (.skip (kblock_n (kthen_n (.seq (.region (.assign rfl rfl (.nil (kthen_n (.ret ?_))))))))))))
      refine KF2.r1 rfl (RV.t rfl) ⟨rfl, rfl⟩ (ImpS.sb ?_)
      exact .r
    · refine .assign rfl rfl (.nil (kthen_n (.condT rfl rfl (.seq (.region (.assign rfl rfl (.nil (kthen_n (.ret (kblock_r (kthen_r ?_)))))))))))
      refine KF2.r1 rfl (RV.t rfl) ⟨rfl, rfl⟩ (ImpS.sb ?_)
      exact .r
end Go.Proofs.YtbconcohpfkncaaGreat
namespace Go.Proofs.YtbconcohpfkncaaGreat
open Go
theorem built_markA (i : Nat) : Tryz.prog.built 95 [(1, i64 (i : Nat))] = some [i64 0, i64 (i : Nat), str []].toArray := by kernel_rfl
theorem built_markB (k i : Nat) : Tryz.prog.built 95 [(0, i64 (k : Nat)), (1, i64 (i : Nat))] = some [i64 (k : Nat), i64 (i : Nat), str []].toArray := by kernel_rfl
attribute [local irreducible] G GO GR GT Fn FnV pt init exs pur sat own ImpS blankB innerB kindB skipN wordN
set_option maxHeartbeats 8000000 in
theorem next_spec (s : List UInt8) (i : Nat) (hs : ¬ 9223372036854775807 ≤ s.length) (hi : i ≤ s.length) : Fn Tryz.prog 35 #[str s, i64 (i : Nat)] [] (fun r Q => r = .agg (markVs (nextM s i)).toArray ∧ Q = []) := by
  refine Fn.mk2 Tryz.func35 rfl rfl fun w0 F => ?_
  refine .seq (.region (.alloc rfl fun b4 => .nil (kthen_n (.seq (.block ?_)))))
  refine G.loopI (σ := Nat) (fun j => [(0, str s), (1, i64 (j : Nat)), (4, ptrV b4)]) (fun _ => pt b4 (row [i64 0, i64 0, str []] 95) :: F) (fun j => j ≤ s.length ∧ skipN s j = skipN s i) (fun j => s.length - j) i ⟨hi, rfl⟩ ?_ ?_ ?_
  · exact .c rfl rfl (.c rfl rfl (.c rfl rfl .n))
  · refine ImpS.sb ?_
    exact .c .h .r
  rintro j ⟨hj, hsk⟩
  refine .seq (.seq (.region (.move rfl rfl (.move rfl rfl (.strLen rfl rfl (.lti rfl rfl rfl (.move rfl rfl ?_)))))))
  by_cases hlt : j < s.length
  · obtain ⟨b, hb⟩ : ∃ b, s[j]? = some b := ⟨_, List.getElem?_eq_getElem hlt⟩
    have e1 : decide ((j : Int) < (s.length : Int)) = true := decide_eq_true (by omega)
    have e0 : decide ((j : Int) = (s.length : Int)) = false := decide_eq_false (by omega)
    refine .gT rfl rfl (by assumption) (.move rfl rfl (.gT rfl rfl (by assumption) (.move rfl rfl (.gT rfl rfl (by assumption) (.strIdx rfl rfl rfl rfl (by assumption) (.gT rfl rfl (by assumption) ?_))))))
    refine GO.call1 rfl rfl (blank_spec b) Tks.n ?_
    rintro _ _ ⟨rfl, rfl⟩
    cases h2 : blankB b
    · have hsj : skipN s i = j := by rw [← hsk]; unfold skipN; exact run_stop hb h2
      (refine .pickTa rfl rfl (by assumption) rfl (.nil (kthen_n (.condF rfl rfl (.exit (kthen_x (kthen_x (kblock_x (kthen_n (.seq (.seq (.region (.move rfl rfl (.move rfl rfl (.strLen rfl rfl (.eqi rfl rfl rfl ?_))))))))))))))); refine .move rfl rfl (.gT rfl rfl (by assumption) (.move rfl rfl (.gT rfl rfl (by assumption) (.move rfl rfl (.gT rfl rfl (by assumption) (.strIdx rfl rfl rfl rfl (by assumption) (.gT rfl rfl (by assumption) ?_))))))))
      refine GO.call1 rfl rfl (kind_spec b) Tks.n ?_
      rintro _ _ ⟨rfl, rfl⟩
      by_cases hk : kindB b = 0
      · have hn : nextM s i = ⟨0, j, []⟩ := by unfold nextM; rw [hsj, hb]; dsimp only; rw [if_pos hk]
        rw [hn]
        have e3 : decide (((kindB b : Nat) : Int) = 0) = true := decide_eq_true (by omega)
        refine .gT rfl rfl (by assumption) (.eqi rfl rfl rfl (.pickFa rfl rfl (by assumption) rfl (.nil (kthen_n (.condT rfl (by assumption) (.seq (.region (.move rfl rfl ?_))))))))
        refine GO.buildPart1 (built_markA j) rfl rfl ?_
        refine .storeW rfl rfl .h ⟨rfl, rfl⟩ (by simp [Value.oneCell']) (.nil (kthen_n (.ret (kthen_r ?_))))
        refine KF2.r1 rfl (RV.cW rfl rfl Tk.h rfl) ⟨rfl, rfl⟩ (ImpS.sb ?_)
        exact .s .r
      · have e3 : decide (((kindB b : Nat) : Int) = 0) = false := decide_eq_false (by omega)
        refine .gT rfl rfl (by assumption) (.eqi rfl rfl rfl (.pickFa rfl rfl (by assumption) rfl (.nil (kthen_n (.condF rfl (by assumption) (.skip (kthen_n (.seq (.region (.move rfl rfl (.move rfl rfl (.strIdx rfl rfl rfl rfl (by assumption) ?_))))))))))))
        refine GO.call1 rfl rfl (kind_spec b) Tks.n ?_
        rintro _ _ ⟨rfl, rfl⟩
        refine .move rfl rfl ?_
        refine GO.buildP2 (built_markB (kindB b) j) rfl rfl rfl ?_
        by_cases hk3 : kindB b ≤ 3
        · have e4 : decide (((kindB b : Nat) : Int) ≤ 3) = true := decide_eq_true (by omega)
          have hn : nextM s i = ⟨kindB b, j, (s.drop j).take (wordN s (j + 1) - j)⟩ := by unfold nextM; rw [hsj, hb]; dsimp only; rw [if_neg hk, if_pos hk3]
          (refine GO.alloc rfl fun b5 => ?_; refine GO.storeW rfl rfl Tk.h ⟨rfl, rfl⟩ (by simp [Value.oneCell']) ?_; refine GO.nil (kthen_n (G.seq (G.region (GO.move rfl rfl ?_)))); refine GO.addi rfl rfl rfl (by omega) ?_; refine GO.assign rfl rfl (GO.nil (kthen_n (G.seq (G.seq (G.region (GO.fieldAddr rfl rfl (GO.load1 rfl rfl rfl Tk.h rfl (GO.lei rfl rfl rfl (GO.nil (kthen_n ?_)))))))))); refine G.condT rfl (by assumption) ?_; refine G.scope0 (G.seq (G.label (kthen_n (G.block ?_)))))
          refine G.loopI (σ := Nat) (fun k => [(0, str s), (1, i64 (j : Nat)), (4, ptrV b4), (5, ptrV b5), (6, i64 (k : Nat))]) (fun _ => pt b5 (row [i64 (kindB b : Nat), i64 (j : Nat), str []] 95) :: pt b4 (row [i64 0, i64 0, str []] 95) :: F) (fun k => j + 1 ≤ k ∧ k ≤ s.length ∧ wordN s k = wordN s (j + 1)) (fun k => s.length - k) (j + 1) ⟨Nat.le_refl _, by omega, rfl⟩ ?_ ?_ ?_
          · exact .c rfl rfl (.c rfl rfl (.c rfl rfl (.c rfl rfl (.c rfl rfl .n))))
          · refine ImpS.sb ?_
            exact .c .h (.c .h .r)
          rintro k ⟨hk1, hk2, hwk⟩
          refine .seq (.seq (.region (.move rfl rfl (.move rfl rfl (.strLen rfl rfl (.lti rfl rfl rfl (.nil (kthen_n ?_))))))))
          by_cases hlk : k < s.length
          · obtain ⟨b', hb'⟩ : ∃ b, s[k]? = some b := ⟨_, List.getElem?_eq_getElem hlk⟩
            have e5 : decide ((k : Int) < (s.length : Int)) = true := decide_eq_true (by omega)
            refine .condT rfl (by assumption) (.skip (kthen_n (.block (.seq (.seq (.region (.move rfl rfl (.move rfl rfl (.strIdx rfl rfl rfl rfl (by assumption) ?_)))))))))
            refine GO.call1 rfl rfl (inner_spec b') Tks.n ?_
            rintro _ _ ⟨rfl, rfl⟩
            cases h3 : innerB b'
            · have hwj : wordN s (j + 1) = k := by rw [← hwk]; unfold wordN; exact run_stop hb' h3
              rw [hwj] at hn
              refine .not rfl rfl (.nil (kthen_n (.condT rfl rfl (.exit (kthen_x (kblock_o rfl (kthen_x (kblock_x (kscope_n (kthen_n (.seq (.region (.move rfl rfl (.move rfl rfl (.move rfl rfl ?_)))))))))))))))
              refine GO.strLH rfl rfl rfl rfl ⟨rfl, rfl, by omega, by omega⟩ ?_
              (refine GO.fieldAddr rfl rfl ?_; refine GO.store1 rfl rfl rfl Tk.h (by simp) ?_; refine GO.nil (kthen_n (G.seq (G.region (GO.loadW rfl rfl rfl Tk.h rfl ?_)))); refine GO.storeW rfl rfl (Tk.t Tk.h) ⟨rfl, rfl⟩ (by simp [Value.oneCell']) ?_; refine GO.nil (kthen_n (G.ret ?_)))
              exact KF2.r1 rfl (RV.cW rfl rfl Tk.h rfl) ⟨by rw [hn]; rfl, rfl⟩ (ImpS.sb (by (skip; (refine Sb.s ?_; refine Sb.s ?_; exact Sb.r))))
            · refine .not rfl rfl (.nil (kthen_n (.condF rfl rfl (.skip (kthen_n (.region (.move rfl rfl (.addi rfl rfl rfl (by omega) (.assign rfl rfl (.nil (kblock_n (kthen_n ?_))))))))))))
              refine ⟨k + 1, ⟨by omega, by omega, ?_⟩, by omega, ?_, ImpS.sb ?_⟩
              · rw [← hwk]; unfold wordN; exact run_step hb' h3
              · exact .c rfl rfl (.c rfl rfl (.c rfl rfl (.c rfl rfl (.c rfl rfl .n))))
              · exact .c .h (.c .h .r)
          · obtain rfl : k = s.length := by omega
            have e5 : decide ((s.length : Int) < (s.length : Int)) = false := decide_eq_false (by omega)
            have hwj : wordN s (j + 1) = s.length := by rw [← hwk]; unfold wordN; exact run_end (Nat.le_refl _)
            rw [hwj] at hn
            refine .condF rfl (by assumption) (.exit (kthen_x (kthen_x (kblock_x (kscope_n (kthen_n (.seq (.region (.move rfl rfl (.move rfl rfl (.move rfl rfl ?_)))))))))))
            refine GO.strLH rfl rfl rfl rfl ⟨rfl, rfl, by omega, by omega⟩ ?_
            (refine GO.fieldAddr rfl rfl ?_; refine GO.store1 rfl rfl rfl Tk.h (by simp) ?_; refine GO.nil (kthen_n (G.seq (G.region (GO.loadW rfl rfl rfl Tk.h rfl ?_)))); refine GO.storeW rfl rfl (Tk.t Tk.h) ⟨rfl, rfl⟩ (by simp [Value.oneCell']) ?_; refine GO.nil (kthen_n (G.ret ?_)))
            exact KF2.r1 rfl (RV.cW rfl rfl Tk.h rfl) ⟨by rw [hn]; rfl, rfl⟩ (ImpS.sb (by (skip; (refine Sb.s ?_; refine Sb.s ?_; exact Sb.r))))
        · have e4 : decide (((kindB b : Nat) : Int) ≤ 3) = false := decide_eq_false (by omega)
          have hn : nextM s i = ⟨kindB b, j, (s.drop j).take (j + 1 - j)⟩ := by unfold nextM; rw [hsj, hb]; dsimp only; rw [if_neg hk, if_neg hk3, Nat.add_sub_cancel_left]
          (refine GO.alloc rfl fun b5 => ?_; refine GO.storeW rfl rfl Tk.h ⟨rfl, rfl⟩ (by simp [Value.oneCell']) ?_; refine GO.nil (kthen_n (G.seq (G.region (GO.move rfl rfl ?_)))); refine GO.addi rfl rfl rfl (by omega) ?_; refine GO.assign rfl rfl (GO.nil (kthen_n (G.seq (G.seq (G.region (GO.fieldAddr rfl rfl (GO.load1 rfl rfl rfl Tk.h rfl (GO.lei rfl rfl rfl (GO.nil (kthen_n ?_)))))))))); refine G.condF rfl (by assumption) ?_; refine G.skip (kthen_n (G.seq (G.region (GO.move rfl rfl (GO.move rfl rfl (GO.move rfl rfl ?_)))))))
          refine GO.strLH (b := j + 1) rfl rfl rfl rfl ⟨rfl, by omega, by omega, by omega⟩ ?_
          (refine GO.fieldAddr rfl rfl ?_; refine GO.store1 rfl rfl rfl Tk.h (by simp) ?_; refine GO.nil (kthen_n (G.seq (G.region (GO.loadW rfl rfl rfl Tk.h rfl ?_)))); refine GO.storeW rfl rfl (Tk.t Tk.h) ⟨rfl, rfl⟩ (by simp [Value.oneCell']) ?_; refine GO.nil (kthen_n (G.ret ?_)))
          exact KF2.r1 rfl (RV.cW rfl rfl Tk.h rfl) ⟨by rw [hn]; rfl, rfl⟩ (ImpS.sb (by (skip; (refine Sb.s ?_; refine Sb.s ?_; exact Sb.r))))
    · refine .pickTa rfl rfl (by assumption) rfl (.nil (kthen_n (.condT rfl rfl (.skip (kthen_n (.block (.region (.move rfl rfl (.addi rfl rfl rfl (by omega) (.assign rfl rfl (.nil (kblock_n (kthen_n ?_)))))))))))))
      refine ⟨j + 1, ⟨by omega, ?_⟩, by omega, ?_, ImpS.sb ?_⟩
      · rw [← hsk]; unfold skipN; exact run_step hb h2
      · exact .c rfl rfl (.c rfl rfl (.c rfl rfl .n))
      · exact .c .h .r
  · obtain rfl : j = s.length := by omega
    have e1 : decide ((s.length : Int) < (s.length : Int)) = false := decide_eq_false (by omega)
    have hsj : skipN s i = s.length := by rw [← hsk]; unfold skipN; exact run_end (Nat.le_refl _)
    have hn : nextM s i = ⟨0, s.length, []⟩ := by unfold nextM; rw [hsj, List.getElem?_eq_none (Nat.le_refl _)]
    rw [hn]
    (refine .gF rfl rfl rfl (by assumption) (.gF rfl rfl rfl (by assumption) (.gF rfl rfl rfl (by assumption) (.gF rfl rfl rfl (by assumption) (.pickFa rfl rfl (by assumption) rfl (.nil (kthen_n (.condF rfl rfl (.exit (kthen_x (kthen_x (kblock_x (kthen_n (.seq (.seq (.region ?_))))))))))))))); refine .move rfl rfl (.move rfl rfl (.strLen rfl rfl (.eqT rfl rfl rfl rfl (.move rfl rfl (.gF rfl rfl rfl rfl (.gF rfl rfl rfl rfl (.gF rfl rfl rfl rfl (.gF rfl rfl rfl rfl (.gF rfl rfl rfl rfl (.pickT rfl rfl rfl (.nil (kthen_n (.condT rfl rfl (.seq (.region ?_))))))))))))))); refine .move rfl rfl ?_)
    refine GO.buildPart1 (built_markA s.length) rfl rfl ?_
    refine .storeW rfl rfl .h ⟨rfl, rfl⟩ (by simp [Value.oneCell']) (.nil (kthen_n (.ret (kthen_r ?_))))
    refine KF2.r1 rfl (RV.cW rfl rfl Tk.h rfl) ⟨rfl, rfl⟩ (ImpS.sb ?_)
    exact .s .r
end Go.Proofs.YtbconcohpfkncaaGreat
namespace Go.Proofs.YtbconcohpfkncaaGreat
open Go
abbrev markA (m : MarkD) : List Value := [.agg (markVs m).toArray]
def endL (i : Nat) : List MarkD → Nat
  | [] => i
  | m :: l => endL (m.place + m.text.length) l
theorem endL_snoc : ∀ (l : List MarkD) (i : Nat) (m : MarkD), endL i (l ++ [m]) = m.place + m.text.length
  | [], _, _ => rfl
  | _ :: l, _, m => endL_snoc l _ m
theorem fromL_len (l : List MarkD) : fromL l l.length = endL 0 l := by
  rcases List.eq_nil_or_concat l with rfl | ⟨k, m, rfl⟩
  · rfl
  · rw [List.concat_eq_append, endL_snoc, List.length_append]
    show (match (k ++ [m])[k.length]? with | some m => m.place + m.text.length | none => 0) = _
    rw [List.getElem?_append_right (Nat.le_refl _), Nat.sub_self]
    rfl
theorem scan_last (s : List UInt8) : ∀ (f i : Nat), i ≤ s.length → s.length - i < f → (nextM s (endL i (scanL s f i))).kind = 0 ∧ (nextM s (endL i (scanL s f i))).place = scanE s f i ∧ endL i (scanL s f i) ≤ s.length
  | 0, _, _, h => by omega
  | f + 1, i, hi, hf => by
    obtain ⟨h1, h2, h3⟩ := nextM_le hi
    simp only [scanL, scanE]
    split
    · rename_i hk
      exact ⟨hk, rfl, hi⟩
    · rename_i hk
      have := h3 hk
      exact scan_last s f _ h2 (by omega)
theorem scanE_le (s : List UInt8) : ∀ (f i : Nat), i ≤ s.length → s.length - i < f → scanE s f i ≤ s.length
  | 0, _, _, h => by omega
  | f + 1, i, hi, hf => by
    obtain ⟨h1, h2, h3⟩ := nextM_le hi
    simp only [scanE]
    split
    · omega
    · rename_i hk
      have := h3 hk
      exact scanE_le s f _ h2 (by omega)
theorem badF_le (s : List UInt8) : badF s ≤ s.length := scanE_le s _ _ (Nat.zero_le _) (by omega)
/-- The i-th is looked for from p on. -/
def AtM (s : List UInt8) (i p : Nat) : Prop := p ≤ s.length ∧ i ≤ (marksF s).length ∧ ∃ f, s.length - p < f ∧ scanL s f p = (marksF s).drop i
theorem AtM.start (s : List UInt8) : AtM s 0 0 := ⟨Nat.zero_le _, Nat.zero_le _, s.length + 1, by omega, rfl⟩
theorem AtM.stop {s : List UInt8} {i p : Nat} (h : AtM s i p) (hk : (nextM s p).kind = 0) : i = (marksF s).length := by
  obtain ⟨_, h2, f, h3, h4⟩ := h
  obtain ⟨f, rfl⟩ : ∃ g, f = g + 1 := ⟨f - 1, by omega⟩
  simp only [scanL, if_pos hk] at h4
  have := congrArg List.length h4
  simp only [List.length_nil, List.length_drop] at this
  omega
theorem AtM.next {s : List UInt8} {i p : Nat} (h : AtM s i p) (hk : (nextM s p).kind ≠ 0) : (marksF s)[i]? = some (nextM s p) ∧ AtM s (i + 1) ((nextM s p).place + (nextM s p).text.length) ∧ p < (nextM s p).place + (nextM s p).text.length := by
  obtain ⟨h1, h2, f, h3, h4⟩ := h
  obtain ⟨f, rfl⟩ : ∃ g, f = g + 1 := ⟨f - 1, by omega⟩
  obtain ⟨g1, g2, g3⟩ := nextM_le h1
  have := g3 hk
  simp only [scanL, if_neg hk] at h4
  have e1 : (marksF s)[i]? = some (nextM s p) := by
    have := congrArg (·[0]?) h4
    simpa [List.getElem?_drop] using this.symm
  have hlt : i < (marksF s).length := (List.getElem?_eq_some_iff.1 e1).1
  refine ⟨e1, ⟨g2, hlt, f, by omega, ?_⟩, by omega⟩
  rw [drop_at e1] at h4
  exact (List.cons.injEq _ _ _ _ ▸ h4).2
theorem next_spec2 (s : List UInt8) (i : Nat) (hs : ¬ 9223372036854775807 ≤ s.length) (hi : i ≤ s.length) : Fn Tryz.prog 35 #[str s, i64 (i : Nat)] [] (fun r Q => r = .agg [i64 ((nextM s i).kind : Nat), i64 ((nextM s i).place : Nat), str (nextM s i).text].toArray ∧ Q = []) := next_spec s i hs hi
attribute [local irreducible] G GO GR GT Fn FnV pt init exs pur sat own ImpS blankB innerB kindB skipN wordN nextM marksF badF
set_option maxHeartbeats 8000000 in
theorem all1_spec (s : List UInt8) (hs : ¬ 9223372036854775807 ≤ s.length) (bx : Nat) (y : Value) (J S : Nat → HP)
    (hy : ∀ i u, ((marksF s).map markA)[i]? = some u → FnV Tryz.prog y u [J i] (fun v Q => (v = .bool true ∧ Q = [J (i + 1)]) ∨ (v = .bool false ∧ Q = [S i]))) :
    Fn Tryz.prog 64 #[y, ptrV bx] [J 0, pt bx (row [str s] 9)] (fun _ Q => Q = [J (marksF s).length, pt bx (row [str s] 9)] ∨ ∃ i, i < (marksF s).length ∧ Q = [S i, pt bx (row [str s] 9)]) := by
  refine Fn.mk2 Tryz.func64 rfl rfl fun w0 F => ?_
  refine .seq (.region (.assign rfl rfl (.nil (kthen_n (.block ?_)))))
  refine G.loopI (σ := Nat × Nat) (fun z => [(0, y), (1, ptrV bx), (3, i64 (z.2 : Nat))]) (fun z => J z.1 :: pt bx (row [str s] 9) :: F) (fun z => AtM s z.1 z.2) (fun z => s.length - z.2) (0, 0) (AtM.start s) ?_ ?_ ?_
  · exact .c rfl rfl (.c rfl rfl (.c rfl rfl .n))
  · refine ImpS.sb ?_
    exact .c .h (.c .h .r)
  rintro ⟨i, p⟩ hz
  dsimp only at hz ⊢
  refine .block (.seq (.region (.load1 rfl rfl rfl (.t .h) rfl (.move rfl rfl ?_))))
  refine GO.call2 rfl rfl rfl (next_spec2 s p hs hz.1) Tks.n ?_
  rintro _ _ ⟨rfl, rfl⟩
  by_cases hk : (nextM s p).kind = 0
  · have e1 : decide (((nextM s p).kind : Int) = 0) = true := decide_eq_true (by omega)
    have hi := hz.stop hk
    generalize nextM s p = m at *
    (refine GO.alloc rfl fun b4 => ?_; refine GO.storeW rfl rfl Tk.h ⟨rfl, rfl⟩ (by simp [Value.oneCell']) ?_; refine GO.nil ?_; refine kthen_n ?_; refine G.seq ?_; refine G.seq ?_; refine G.region ?_; refine GO.fieldAddr rfl rfl ?_; refine GO.load1 rfl rfl rfl Tk.h rfl ?_; refine GO.eqi rfl rfl rfl ?_; refine GO.move rfl rfl ?_; refine GO.gF rfl rfl rfl (by assumption) ?_; refine GO.gF rfl rfl rfl (by assumption) ?_; refine GO.gF rfl rfl rfl (by assumption) ?_; refine GO.gF rfl rfl rfl (by assumption) ?_; refine GO.pickTa rfl rfl (by assumption) rfl ?_; refine GO.nil ?_; refine kthen_n ?_; refine G.condT rfl rfl ?_; refine G.ret ?_; refine kthen_r ?_; refine kblock_r ?_; refine kthen_r ?_; refine kblock_r ?_)
    refine KF2.r0 rfl (.inl rfl) (ImpS.sb ?_)
    rw [hi]
    ((refine Sb.c (Tk.t Tk.h) ?_; refine Sb.c (Tk.t Tk.h) ?_); (refine Sb.s ?_; exact Sb.r))
  · have e1 : decide (((nextM s p).kind : Int) = 0) = false := decide_eq_false (by omega)
    obtain ⟨h1, h2, h3⟩ := hz.next hk
    have h0 := hz.1
    have hyi := hy i (markA (nextM s p)) (by rw [List.getElem?_map, h1]; rfl)
    have hle := h2.1
    generalize nextM s p = m at *
    (refine GO.alloc rfl fun b4 => ?_; refine GO.storeW rfl rfl Tk.h ⟨rfl, rfl⟩ (by simp [Value.oneCell']) ?_; refine GO.nil ?_; refine kthen_n ?_; refine G.seq ?_; refine G.seq ?_; refine G.region ?_; refine GO.fieldAddr rfl rfl ?_; refine GO.load1 rfl rfl rfl Tk.h rfl ?_; refine GO.eqi rfl rfl rfl ?_; refine GO.move rfl rfl ?_; refine GO.gT rfl rfl (by assumption) ?_; refine GO.move rfl rfl ?_; refine GO.gT rfl rfl (by assumption) ?_; refine GO.loadW rfl rfl rfl Tk.h rfl ?_; refine GO.gT rfl rfl (by assumption) ?_)
    refine GO.callV1 rfl rfl rfl (hyi) (Tks.c (Tk.t Tk.h) Tks.n) ?_
    rintro _ _ (⟨rfl, rfl⟩ | ⟨rfl, rfl⟩)
    · (refine .gT rfl rfl (by assumption) (.not rfl rfl (.pickFa rfl rfl (by assumption) rfl (.nil (kthen_n (.condF rfl rfl (.skip (kthen_n (.region (.fieldAddr rfl rfl (.load1 rfl rfl rfl (.t .h) rfl (.fieldAddr rfl rfl (.load1 rfl rfl rfl (.t .h) rfl (.strLen rfl rfl (.addi rfl rfl rfl (by omega) (.assign rfl rfl ?_))))))))))))))); refine .nil (kblock_n (kthen_n ?_)))
      refine ⟨(i + 1, m.place + m.text.length), h2, by dsimp only; omega, ?_, ImpS.sb ?_⟩
      · exact .c rfl rfl (.c rfl rfl (.c rfl rfl .n))
      · exact .c .h (.c (.t .h) (.s .r))
    · refine .gT rfl rfl (by assumption) (.not rfl rfl (.pickFa rfl rfl (by assumption) rfl (.nil (kthen_n (.condT rfl rfl (.ret (kthen_r (kblock_r (kthen_r (kblock_r ?_))))))))))
      refine KF2.r0 rfl (.inr ⟨i, (List.getElem?_eq_some_iff.1 h1).1, rfl⟩) (ImpS.sb ?_)
      exact .c .h (.c (.t .h) (.s .r))
end Go.Proofs.YtbconcohpfkncaaGreat
namespace Go.Proofs.YtbconcohpfkncaaGreat
open Go
attribute [local irreducible] G GO GR GT Fn FnV pt init exs pur sat own ImpS
set_option maxHeartbeats 4000000 in
theorem all_spec (s : List UInt8) : Fn Tryz.prog 34 #[str s] [] (fun r Q => ∃ bx, r = .func (.func 64) #[] #[ptrV bx] ∧ Q = [pt bx (row [str s] 9)]) := by
  refine Fn.mk2 Tryz.func34 rfl rfl fun w0 F => ?_
  refine .seq (.region (.box rfl rfl rfl fun b1 => .assign rfl rfl (.nil (kthen_n (.seq (.region (.makeFunc1 rfl rfl (.assign rfl rfl (.nil (kthen_n (.ret ?_)))))))))))
  refine KF2.r1 rfl (RV.t rfl) ⟨_, rfl, rfl⟩ (ImpS.sb ?_)
  exact .c .h .r
theorem all_seq (s : List UInt8) (hs : ¬ 9223372036854775807 ≤ s.length) (bx : Nat) : SeqOK Tryz.prog (.func (.func 64) #[] #[ptrV bx]) ((marksF s).map markA) [] [pt bx (row [str s] 9)] :=
  SeqOK.of1 (caps := #[ptrV bx]) fun y J S hy => by rw [List.length_map]; exact all1_spec s hs bx y J S hy
/-- Marks as they lie in memory. -/
def marksV (l : List MarkD) : List Value := l.flatMap markVs
theorem marksV_snoc (l : List MarkD) (m : MarkD) : marksV (l ++ [m]) = marksV l ++ [i64 (m.kind : Nat), i64 (m.place : Nat), str m.text] := by
  simp [marksV, markVs]
theorem fromL_snoc {l : List MarkD} {i : Nat} {m : MarkD} (h : l[i]? = some m) : fromL l (i + 1) = m.place + m.text.length := by
  show (match l[i]? with | some m => m.place + m.text.length | none => 0) = _
  rw [h]
theorem take_snoc {α : Type} {l : List α} {i : Nat} {m : α} (h : l[i]? = some m) : l.take (i + 1) = l.take i ++ [m] := by
  obtain ⟨hlt, rfl⟩ := List.getElem?_eq_some_iff.1 h
  exact List.take_succ_eq_append_getElem hlt
theorem scanL_bound (s : List UInt8) : ∀ (f i : Nat), i ≤ s.length → (scanL s f i).length ≤ s.length - i ∧ ∀ m ∈ scanL s f i, m.place + m.text.length ≤ s.length
  | 0, _, _ => ⟨by simp [scanL], fun _ h => by simp [scanL] at h⟩
  | f + 1, i, hi => by
    obtain ⟨h1, h2, h3⟩ := nextM_le hi
    simp only [scanL]
    split
    · exact ⟨by simp, fun _ h => by simp at h⟩
    · rename_i hk
      have := h3 hk
      obtain ⟨g1, g2⟩ := scanL_bound s f _ h2
      refine ⟨by rw [List.length_cons]; omega, fun m hm => ?_⟩
      rcases List.mem_cons.1 hm with rfl | hm
      · exact h2
      · exact g2 m hm
theorem marksF_len (s : List UInt8) : (marksF s).length ≤ s.length := (scanL_bound s _ 0 (Nat.zero_le _)).1
theorem marksF_in {s : List UInt8} {m : MarkD} (h : m ∈ marksF s) : m.place + m.text.length ≤ s.length := (scanL_bound s _ 0 (Nat.zero_le _)).2 m h
theorem marks_last (s : List UInt8) : (nextM s (fromL (marksF s) (marksF s).length)).kind = 0 ∧ (nextM s (fromL (marksF s) (marksF s).length)).place = badF s ∧ fromL (marksF s) (marksF s).length ≤ s.length := by
  rw [fromL_len]
  exact scan_last s _ 0 (Nat.zero_le _) (by omega)
theorem fromL_le {s : List UInt8} (i : Nat) (hi : i ≤ (marksF s).length) : fromL (marksF s) i ≤ s.length := by
  cases i with
  | zero => exact Nat.zero_le _
  | succ i =>
    have e : (marksF s)[i]? = some (marksF s)[i] := List.getElem?_eq_getElem (by omega)
    rw [fromL_snoc e]
    exact marksF_in (List.mem_of_getElem? e)
attribute [local irreducible] blankB innerB kindB skipN wordN nextM marksF badF
set_option maxHeartbeats 8000000 in
theorem scan_spec (s : List UInt8) (hs : ¬ 1048576 < s.length) : Fn Tryz.prog 14 #[str s] []
    (fun r Q => (badF s < s.length ∧ r = .tuple #[.slice none 0 0, i64 (badF s : Nat), i64 160] ∧ Q = []) ∨ (badF s = s.length ∧ ∃ v, r = .tuple #[v, i64 0, i64 0] ∧ v.oneCell' = true ∧ Q = [own 95 3 (marksF s).length v (marksV (marksF s))])) := by
  have hn := marksF_len s
  have hbad := badF_le s
  have hfl := @fromL_le s
  have hlast := marks_last s
  refine Fn.mk2 Tryz.func14 rfl rfl fun w0 F => ?_
  (refine .seq (.region (.assign rfl rfl (.assign rfl rfl (.assign rfl rfl (.nil (kthen_n (.seq (.region (.alloc rfl fun b5 => .nil (kthen_n (.seq (.region (.alloc rfl fun b6 => .store1 rfl rfl rfl .h (by decide) ?_))))))))))))); refine .nil (kthen_n (.seq (.seq (.region (.move rfl rfl ?_))))))
  refine GO.call1 rfl rfl (all_spec s) Tks.n ?_
  rintro _ _ ⟨bx, rfl, rfl⟩
  refine .nil (kthen_n (.block ?_))
  refine G.ownNil (T := 95) (sz := 3) ?_
  refine G.keep (H' := accO b5 51 95 3 0 [] :: pt b6 (row [i64 (0 : Nat)] 3) :: pt bx (row [str s] 9) :: F) (accO_in (.slice none 0 0) (ImpS.sb (by ((refine Sb.c (Tk.t (Tk.t (Tk.t Tk.h))) ?_; refine Sb.c Tk.h ?_; refine Sb.c (Tk.t Tk.h) ?_; refine Sb.c Tk.h ?_); (exact Sb.r))))) ?_
  refine G.rangeF (F := F) (psl := [11]) (v := .func (.func 64) #[] #[ptrV bx]) (xs := (marksF s).map markA) (Sh := []) (Gm := [pt bx (row [str s] 9)])
    (fun i => [accO b5 51 95 3 i (marksV ((marksF s).take i)), pt b6 (row [i64 (fromL (marksF s) i : Nat)] 3)])
    (fun _ _ => [pur False]) (fun _ h => by cases h) rfl (fun u hu => by obtain ⟨p, _, rfl⟩ := List.mem_map.1 hu; rfl) rfl (all_seq s (by omega) bx) ?_ (fun lp Lr Lb w1 F1 i u hu => ?_) ?_ ?_
  · rw [List.take_zero, show marksV [] = [] from rfl, show fromL (marksF s) 0 = 0 from rfl]
    (exact Tks.n)
  · obtain ⟨m, hm, rfl⟩ : ∃ m, (marksF s)[i]? = some m ∧ u = markA m := by
      rw [List.getElem?_map] at hu
      cases hc : (marksF s)[i]? with
      | none => simp [hc] at hu
      | some p => simp [hc] at hu; exact ⟨p, rfl, hu.symm⟩
    have hil := (List.getElem?_eq_some_iff.1 hm).1
    have hpl := marksF_in (List.mem_of_getElem? hm)
    rw [take_snoc hm, marksV_snoc, fromL_snoc hm]
    change G _ _ _ _ ((11, .agg [i64 (m.kind : Nat), i64 (m.place : Nat), str m.text].toArray) :: _) (accO b5 51 95 3 i (marksV ((marksF s).take i)) :: pt b6 (row [i64 (fromL (marksF s) i : Nat)] 3) :: F1)
    refine G.accOut fun v hv => ?_
    (refine G.region ?_; refine GO.alloc rfl fun b7 => ?_; refine GO.storeW rfl rfl Tk.h ⟨rfl, rfl⟩ (by simp [Value.oneCell']) ?_; refine GO.nil ?_)
    refine kA_n ?_
    refine .block (.seq (.region (.load1 rfl rfl rfl (.t .h) rfl (.loadW rfl rfl rfl .h rfl ?_))))
    refine GO.buildSlice1 rfl rfl (by simp; rfl) rfl ⟨by omega, by omega⟩ fun bs => ?_
    refine GO.appendOwn (m := 1) (news := [i64 (m.kind : Nat), i64 (m.place : Nat), str m.text]) rfl rfl rfl (Tk.t (Tk.t (Tk.t Tk.h))) Tk.h rfl (by simp [Value.oneCell']) ⟨by decide, rfl⟩ Nat.one_pos (by unfold maxLen; omega) (by omega) fun v4 => ?_
    refine GO.ownOne Tk.h fun hone4 => ?_
    refine .store1 rfl rfl (by assumption) (.t (.t (.t .h))) (by simp) (.nil (kthen_n (.region (.fieldAddr rfl rfl (.load1 rfl rfl rfl (.t (.t (.t .h))) rfl (.fieldAddr rfl rfl (.load1 rfl rfl rfl (.t (.t (.t .h))) rfl (.strLen rfl rfl (.addi rfl rfl rfl (by omega) (.store1 rfl rfl rfl (.t (.t (.t (.t .h)))) (by simp) (.nil (kblock_n ?_))))))))))))
    refine kB_n (accO_in v4 (ImpS.sb ?_))
    ((refine Sb.c (Tk.t Tk.h) ?_; refine Sb.c (Tk.t Tk.h) ?_; refine Sb.c Tk.h ?_); (refine Sb.s ?_; refine Sb.s ?_; exact Sb.r))
  · rw [List.length_map, List.take_length]
    change kblock _ _ _ _ (accO b5 51 95 3 (marksF s).length (marksV (marksF s)) :: pt b6 (row [i64 (fromL (marksF s) (marksF s).length : Nat)] 3) :: pt bx (row [str s] 9) :: F)
    generalize fromL (marksF s) (marksF s).length = q at *
    (refine kblock_n ?_; refine kthen_n ?_; refine G.seq ?_; refine G.region ?_; refine GO.move rfl rfl ?_; refine GO.load1 rfl rfl rfl (Tk.t Tk.h) rfl ?_)
    refine GO.accOut fun v hv => ?_
    refine GO.call2 rfl rfl rfl (next_spec2 s q (by omega) hlast.2.2) Tks.n ?_
    rintro _ _ ⟨rfl, rfl⟩
    rw [hlast.2.1]
    generalize nextM s q = m at *
    by_cases hb : badF s < s.length
    · have e1 : decide ((badF s : Int) < (s.length : Int)) = true := decide_eq_true (by omega)
      generalize badF s = bd at *
      (refine GO.alloc rfl fun b8 => ?_; refine GO.storeW rfl rfl Tk.h ⟨rfl, rfl⟩ (by simp [Value.oneCell']) ?_; refine GO.nil ?_; refine kthen_n ?_; refine G.seq ?_; refine G.seq ?_; refine G.region ?_; refine GO.fieldAddr rfl rfl ?_; refine GO.load1 rfl rfl rfl Tk.h rfl ?_; refine GO.move rfl rfl ?_; refine GO.strLen rfl rfl ?_; refine GO.lti rfl rfl rfl ?_; refine GO.nil ?_; refine kthen_n ?_; refine G.condT rfl (by assumption) ?_; refine G.seq ?_)
      refine G.draw 5 (by kernel_rfl) ?_
      refine .step (fun _ => .fieldAddr rfl rfl KQ.z) (.step (fun _ => .load1 rfl rfl rfl .h rfl KQ.z) (.step (fun _ => .assign rfl rfl KQ.z) (.step (fun _ => .assign rfl rfl KQ.z) (.step (fun _ => .assign rfl rfl KQ.z) (.nil ?_)))))
      refine .nil (kthen_n (.ret (kthen_r ?_)))
      refine KF2.r3 rfl (RV.t rfl) (RV.t rfl) (RV.t rfl) (.inl ⟨hb, rfl, rfl⟩) (ImpS.sb ?_)
      exact .s (.s (.s (.s (.s .r))))
    · have e1 : decide ((badF s : Int) < (s.length : Int)) = false := decide_eq_false (by omega)
      have e2 : badF s = s.length := by omega
      generalize badF s = bd at *
      (refine GO.alloc rfl fun b8 => ?_; refine GO.storeW rfl rfl Tk.h ⟨rfl, rfl⟩ (by simp [Value.oneCell']) ?_; refine GO.nil (kthen_n (G.seq (G.seq (G.region (GO.fieldAddr rfl rfl (GO.load1 rfl rfl rfl Tk.h rfl (GO.move rfl rfl (GO.strLen rfl rfl (GO.lti rfl rfl rfl (GO.nil (kthen_n ?_))))))))))); refine G.condF rfl (by assumption) ?_; refine G.skip (kthen_n (G.seq (G.region (GO.load1 rfl rfl rfl (Tk.t Tk.h) rfl (GO.assign rfl rfl (GO.assign rfl rfl (GO.assign rfl rfl (GO.nil (kthen_n (G.ret ?_)))))))))))
      refine KF2.r3 rfl (RV.t rfl) (RV.t rfl) (RV.t rfl) (.inr ⟨e2, v, rfl, hv, rfl⟩) (ImpS.sb ?_)
      exact .c (.t (.t .h)) (.s (.s (.s (.s .r))))
  · intro i jc hi
    exact G.pur fun h => h.elim
end Go.Proofs.YtbconcohpfkncaaGreat
namespace Go.Proofs.YtbconcohpfkncaaGreat
open Go
/-- A node: its kind, its name, how many kids. -/
structure NodeD where
  kind : Nat
  name : List UInt8
  kids : Nat
  deriving DecidableEq
def nodeVs (m : NodeD) : List Value := [i64 (m.kind : Nat), str m.name, i64 (m.kids : Nat)]
def nodesV (l : List NodeD) : List Value := l.flatMap nodeVs
theorem nodesV_len (l : List NodeD) : (nodesV l).length = l.length * 3 := by
  induction l with
  | nil => rfl
  | cons m l ih => simp only [nodesV, List.flatMap_cons, List.length_append, nodeVs, List.length_cons, List.length_nil] at ih ⊢; omega
theorem nodesV_app (l k : List NodeD) : nodesV (l ++ k) = nodesV l ++ nodesV k := by simp [nodesV]
abbrev PR := Except Nat (List NodeD × Nat)
def kAt (ms : List MarkD) (i : Nat) : Nat := match ms[i]? with | some m => m.kind | none => 0
def placeAt (ms : List MarkD) (e i : Nat) : Nat := match ms[i]? with | some m => m.place | none => e
def beginsK (k : Nat) : Bool := decide ((k : Int) = 1) || decide ((k : Int) = 2) || decide ((k : Int) = 12) || decide ((k : Int) = 10)
def atomF (ms : List MarkD) (ex : Nat → PR) (i : Nat) : PR :=
  match ms[i]? with
  | none => .error i
  | some m =>
    if m.kind = 1 then .ok ([⟨2, m.text, 0⟩], i + 1) else if m.kind = 2 then .ok ([⟨3, m.text, 0⟩], i + 1) else if m.kind = 12 then .ok ([⟨1, [], 0⟩], i + 1)
    else if m.kind = 10 then match ex (i + 1) with
      | .error j => .error j
      | .ok (l, j) => if kAt ms j = 11 then .ok (l, j + 1) else .error j
    else .error i
def postF (ms : List MarkD) : Nat → List NodeD → Nat → List NodeD × Nat
  | 0, l, i => (l, i)
  | f + 1, l, i => if kAt ms i = 7 then postF ms f (⟨6, [], 1⟩ :: l) (i + 1) else if kAt ms i = 8 then postF ms f (⟨7, [], 1⟩ :: l) (i + 1) else if kAt ms i = 9 then postF ms f (⟨8, [], 1⟩ :: l) (i + 1) else (l, i)
def unitF (ms : List MarkD) (ex : Nat → PR) (i : Nat) : PR := match atomF ms ex i with
  | .error j => .error j
  | .ok (l, j) => .ok (postF ms ms.length l j)
def manyL (u : Nat → PR) (go : Nat → Option Nat) : Nat → List NodeD → Nat → Nat → Except Nat ((List NodeD × Nat) × Nat)
  | 0, all, n, i => .ok ((all, n), i)
  | f + 1, all, n, i => match go i with
    | none => .ok ((all, n), i)
    | some j => match u j with
      | .error e => .error e
      | .ok (l, k) => manyL u go f (all ++ l) (n + 1) k
def manyR (kind : Nat) : Except Nat ((List NodeD × Nat) × Nat) → PR
  | .error e => .error e
  | .ok ((all, n), k) => .ok (if n = 1 then all else ⟨kind, [], n⟩ :: all, k)
def goU (ms : List MarkD) (i : Nat) : Option Nat := if beginsK (kAt ms i) = true then some i else none
def goA (ms : List MarkD) (i : Nat) : Option Nat := if kAt ms i = 6 then some (i + 1) else none
def partF (ms : List MarkD) (ex : Nat → PR) (i : Nat) : PR := match unitF ms ex i with
  | .error j => .error j
  | .ok (l, j) => manyR 4 (manyL (unitF ms ex) (goU ms) ms.length l 1 j)
def exprF (ms : List MarkD) : Nat → Nat → PR
  | 0, i => .error i
  | f + 1, i => match partF ms (exprF ms f) i with
    | .error j => .error j
    | .ok (l, j) => manyR 5 (manyL (partF ms (exprF ms f)) (goA ms) ms.length l 1 j)
/-! ## How far it comes, how much it makes -/
def Goes (ms : List MarkD) (u : Nat → PR) : Prop := ∀ i l k, u i = .ok (l, k) → i < k ∧ k ≤ ms.length ∧ l.length + 1 ≤ 2 * (k - i)
theorem kAt_lt {ms : List MarkD} {i : Nat} (h : kAt ms i ≠ 0) : i < ms.length := by
  unfold kAt at h
  cases e : ms[i]? with
  | none => rw [e] at h; exact absurd rfl h
  | some m => exact (List.getElem?_eq_some_iff.1 e).1
theorem atomF_goes {ms : List MarkD} {ex : Nat → PR} (h : Goes ms ex) : Goes ms (atomF ms ex) := by
  intro i l k e
  unfold atomF at e
  cases hm : ms[i]? with
  | none => rw [hm] at e; cases e
  | some m =>
    rw [hm] at e
    have hi := (List.getElem?_eq_some_iff.1 hm).1
    dsimp only at e
    split at e
    · cases e; exact ⟨by omega, by omega, by simp⟩
    split at e
    · cases e; exact ⟨by omega, by omega, by simp⟩
    split at e
    · cases e; exact ⟨by omega, by omega, by simp⟩
    split at e
    · cases hx : ex (i + 1) with
      | error j => rw [hx] at e; cases e
      | ok z =>
        obtain ⟨l', j⟩ := z
        rw [hx] at e
        dsimp only at e
        obtain ⟨h1, h2, h3⟩ := h _ _ _ hx
        split at e
        · rename_i hk
          cases e
          have := kAt_lt (ms := ms) (i := j) (by omega)
          exact ⟨by omega, by omega, by omega⟩
        · cases e
    · cases e
theorem postF_goes (ms : List MarkD) : ∀ (f : Nat) (l : List NodeD) (i a : Nat), a < i → i ≤ ms.length → l.length + 1 ≤ 2 * (i - a) → i ≤ (postF ms f l i).2 ∧ (postF ms f l i).2 ≤ ms.length ∧ (postF ms f l i).1.length + 1 ≤ 2 * ((postF ms f l i).2 - a)
  | 0, l, i, a, h1, h2, h3 => ⟨Nat.le_refl _, h2, h3⟩
  | f + 1, l, i, a, h1, h2, h3 => by
    have key : ∀ k : Nat, kAt ms i ≠ 0 → i ≤ (postF ms f (⟨k, [], 1⟩ :: l) (i + 1)).2 ∧ (postF ms f (⟨k, [], 1⟩ :: l) (i + 1)).2 ≤ ms.length ∧ (postF ms f (⟨k, [], 1⟩ :: l) (i + 1)).1.length + 1 ≤ 2 * ((postF ms f (⟨k, [], 1⟩ :: l) (i + 1)).2 - a) := fun k hk => by
      have := kAt_lt hk
      obtain ⟨g1, g2, g3⟩ := postF_goes ms f (⟨k, [], 1⟩ :: l) (i + 1) a (by omega) (by omega) (by rw [List.length_cons]; omega)
      exact ⟨by omega, g2, g3⟩
    simp only [postF]
    split
    · exact key 6 (by omega)
    split
    · exact key 7 (by omega)
    split
    · exact key 8 (by omega)
    · exact ⟨Nat.le_refl _, h2, h3⟩
theorem unitF_goes {ms : List MarkD} {ex : Nat → PR} (h : Goes ms ex) : Goes ms (unitF ms ex) := by
  intro i l k e
  unfold unitF at e
  cases ha : atomF ms ex i with
  | error j => rw [ha] at e; cases e
  | ok z =>
    obtain ⟨l', j⟩ := z
    rw [ha] at e
    simp only [Except.ok.injEq] at e
    obtain ⟨h1, h2, h3⟩ := atomF_goes h _ _ _ ha
    obtain ⟨g1, g2, g3⟩ := postF_goes ms ms.length l' j i h1 h2 h3
    rw [e] at g1 g2 g3
    exact ⟨by dsimp only at g1; omega, g2, g3⟩
theorem manyL_goes {ms : List MarkD} {u : Nat → PR} {go : Nat → Option Nat} (hu : Goes ms u) (hg : ∀ i j, go i = some j → i ≤ j) : ∀ (f : Nat) (all : List NodeD) (n i a : Nat) {all' : List NodeD} {n' k : Nat}, a < i → i ≤ ms.length → 1 ≤ n → all.length + n ≤ 2 * (i - a) → manyL u go f all n i = .ok ((all', n'), k) →
    i ≤ k ∧ k ≤ ms.length ∧ 1 ≤ n' ∧ all'.length + n' ≤ 2 * (k - a)
  | 0, all, n, i, a, all', n', k, h1, h2, h3, h4, e => by cases e; exact ⟨Nat.le_refl _, h2, h3, h4⟩
  | f + 1, all, n, i, a, all', n', k, h1, h2, h3, h4, e => by
    simp only [manyL] at e
    cases hgo : go i with
    | none => rw [hgo] at e; cases e; exact ⟨Nat.le_refl _, h2, h3, h4⟩
    | some j =>
      rw [hgo] at e
      dsimp only at e
      have hij := hg _ _ hgo
      cases huj : u j with
      | error x => rw [huj] at e; cases e
      | ok z =>
        obtain ⟨l, m⟩ := z
        rw [huj] at e
        dsimp only at e
        obtain ⟨g1, g2, g3⟩ := hu _ _ _ huj
        obtain ⟨k1, k2, k3, k4⟩ := manyL_goes hu hg f (all ++ l) (n + 1) m a (by omega) g2 (by omega) (by rw [List.length_append]; omega) e
        exact ⟨by omega, k2, k3, k4⟩
theorem manyR_goes {kind : Nat} {ms : List MarkD} {u : Nat → PR} {go : Nat → Option Nat} (hu : Goes ms u) (hg : ∀ i j, go i = some j → i ≤ j) {f : Nat} {l : List NodeD} {i a : Nat} (h1 : a < i) (h2 : i ≤ ms.length) (h3 : l.length + 1 ≤ 2 * (i - a)) {l' : List NodeD} {k : Nat} (e : manyR kind (manyL u go f l 1 i) = .ok (l', k)) :
    a < k ∧ k ≤ ms.length ∧ l'.length + 1 ≤ 2 * (k - a) := by
  cases hm : manyL u go f l 1 i with
  | error x => rw [hm] at e; cases e
  | ok z =>
    obtain ⟨⟨all, n⟩, m⟩ := z
    rw [hm] at e
    simp only [manyR, Except.ok.injEq, Prod.mk.injEq] at e
    obtain ⟨e1, rfl⟩ := e
    obtain ⟨g1, g2, g3, g4⟩ := manyL_goes hu hg f l 1 i a h1 h2 (Nat.le_refl _) h3 hm
    refine ⟨by omega, g2, ?_⟩
    rw [← e1]
    split
    · omega
    · rw [List.length_cons]; omega
theorem goU_le {ms : List MarkD} {i j : Nat} (h : goU ms i = some j) : i ≤ j := by unfold goU at h; split at h <;> simp at h; omega
theorem goA_le {ms : List MarkD} {i j : Nat} (h : goA ms i = some j) : i ≤ j := by unfold goA at h; split at h <;> simp at h; omega
theorem partF_goes {ms : List MarkD} {ex : Nat → PR} (h : Goes ms ex) : Goes ms (partF ms ex) := by
  intro i l k e
  unfold partF at e
  cases hu : unitF ms ex i with
  | error j => rw [hu] at e; cases e
  | ok z =>
    obtain ⟨l', j⟩ := z
    rw [hu] at e
    obtain ⟨h1, h2, h3⟩ := unitF_goes h _ _ _ hu
    exact manyR_goes (unitF_goes h) (fun _ _ => goU_le) h1 h2 h3 e
theorem exprF_goes (ms : List MarkD) : ∀ f, Goes ms (exprF ms f)
  | 0 => fun i l k e => by cases e
  | f + 1 => fun i l k e => by
    simp only [exprF] at e
    have h := exprF_goes ms f
    cases hu : partF ms (exprF ms f) i with
    | error j => rw [hu] at e; cases e
    | ok z =>
      obtain ⟨l', j⟩ := z
      rw [hu] at e
      obtain ⟨h1, h2, h3⟩ := partF_goes h _ _ _ hu
      exact manyR_goes (partF_goes h) (fun _ _ => goA_le) h1 h2 h3 e
end Go.Proofs.YtbconcohpfkncaaGreat
namespace Go.Proofs.YtbconcohpfkncaaGreat
open Go
/-- The reader: at the i-th mark; e: the place behind all. -/
abbrev rdP (br : Nat) (v : Value) (e i : Nat) : HP := pt br (row [v, i64 (i : Nat), i64 (e : Nat)] 172)
/-- The marks, readable in q. -/
abbrev MarksR (q : HP) (v : Value) (ms : List MarkD) : Prop := Sl q v ms.length 3 (marksV ms)
theorem flatX_len {α : Type} {enc : α → List Value} {k : Nat} (hk : ∀ x, (enc x).length = k) : ∀ (l : List α), (l.flatMap enc).length = l.length * k
  | [] => by simp
  | x :: l => by rw [List.flatMap_cons, List.length_append, hk, flatX_len hk l, List.length_cons, Nat.add_mul]; omega
theorem flatX_get {α : Type} {enc : α → List Value} {k : Nat} (hk : ∀ x, (enc x).length = k) : ∀ {l : List α} {i : Nat} {x : α} {j : Nat}, l[i]? = some x → j < k → (l.flatMap enc)[i * k + j]? = (enc x)[j]?
  | [], _, _, _, h, _ => by simp at h
  | y :: l, 0, x, j, h, hj => by
    simp at h; subst h
    rw [List.flatMap_cons, Nat.zero_mul, Nat.zero_add, List.getElem?_append_left (by rw [hk]; exact hj)]
  | y :: l, i + 1, x, j, h, hj => by
    simp only [List.getElem?_cons_succ] at h
    rw [List.flatMap_cons, List.getElem?_append_right (by rw [hk, Nat.add_mul]; omega), hk, show (i + 1) * k + j - k = i * k + j by rw [Nat.add_mul]; omega]
    exact flatX_get hk h hj
theorem marks_rd {q : HP} {v : Value} {ms : List MarkD} {i : Nat} {m : MarkD} (hq : MarksR q v ms) (h : ms[i]? = some m) : ∃ b o cap, v = .slice (some ⟨b, o, none⟩) ms.length cap ∧ Rd q ⟨b, o + i * 3 + 0, none⟩ (i64 (m.kind : Nat)) ∧ Rd q ⟨b, o + i * 3 + 1, none⟩ (i64 (m.place : Nat)) ∧ Rd q ⟨b, o + i * 3 + 2, none⟩ (str m.text) := by
  obtain ⟨a, cap, rfl, _, hr⟩ := hq
  have hi := (List.getElem?_eq_some_iff.1 h).1
  obtain ⟨b, o, rfl, hr2⟩ := hr (by omega)
  have key : ∀ (j : Nat) (u : Value), j < 3 → (markVs m)[j]? = some u → Rd q ⟨b, o + i * 3 + j, none⟩ u := fun j u hj hu => by
    rw [Nat.add_assoc]
    exact hr2 _ _ (by unfold marksV; rw [flatX_get (enc := markVs) (k := 3) (fun _ => rfl) h hj]; exact hu)
  exact ⟨b, o, cap, rfl, key 0 _ (by omega) rfl, key 1 _ (by omega) rfl, key 2 _ (by omega) rfl⟩
theorem marks_sl {q : HP} {v : Value} {ms : List MarkD} (hq : MarksR q v ms) : ∃ a cap, v = .slice a ms.length cap := let ⟨a, cap, h, _⟩ := hq; ⟨a, cap, h⟩
theorem kAt_none {ms : List MarkD} {i : Nat} (h : ms.length ≤ i) : kAt ms i = 0 := by unfold kAt; rw [List.getElem?_eq_none h]
theorem kAt_some {ms : List MarkD} {i : Nat} {m : MarkD} (h : ms[i]? = some m) : kAt ms i = m.kind := by unfold kAt; rw [h]
theorem placeAt_none {ms : List MarkD} {e i : Nat} (h : ms.length ≤ i) : placeAt ms e i = e := by unfold placeAt; rw [List.getElem?_eq_none h]
theorem placeAt_some {ms : List MarkD} {e i : Nat} {m : MarkD} (h : ms[i]? = some m) : placeAt ms e i = m.place := by unfold placeAt; rw [h]
/-- Given up at a place. -/
abbrev wrongV (i : Nat) : Value := .iface 168 (.agg [i64 (i : Nat)].toArray)
attribute [local irreducible] G GO GR GT Fn FnX FnV pt init exs pur sat own ImpS kAt placeAt
set_option maxHeartbeats 8000000 in
theorem rkind_spec (q : HP) (v : Value) (ms : List MarkD) (hq : MarksR q v ms) (br e i : Nat) (hi : i ≤ ms.length) : Fn Tryz.prog 147 #[ptrV br] [rdP br v e i, q] (fun r Q => r = i64 (kAt ms i : Nat) ∧ Q = [rdP br v e i, q]) := by
  by_cases hlt : i < ms.length
  · obtain ⟨m, hm⟩ : ∃ m, ms[i]? = some m := ⟨_, List.getElem?_eq_getElem hlt⟩
    obtain ⟨b, o, cap, rfl, r0, _, _⟩ := marks_rd hq hm
    rw [kAt_some hm]
    have e1 : decide ((i : Int) = (ms.length : Int)) = false := decide_eq_false (by omega)
    clear hq
    refine Fn.mk2 Tryz.func147 rfl rfl fun w0 F => ?_
    refine .seq (.region (.assign rfl rfl (.nil (kthen_n (.seq (.seq ?_))))))
    refine G.draw 10 (by kernel_rfl) ?_
    ((apply GQ.step; focus (intro Z; refine GO.move rfl rfl ?_; exact KQ.z)); (apply GQ.step; focus (intro Z; refine GO.nilCheck rfl rfl ?_; exact KQ.z)); (apply GQ.step; focus (intro Z; refine GO.fieldAddr rfl rfl ?_; exact KQ.z)); (apply GQ.step; focus (intro Z; refine GO.load1 rfl rfl rfl Tk.h rfl ?_; exact KQ.z)); (apply GQ.step; focus (intro Z; refine GO.move rfl rfl ?_; exact KQ.z)); (apply GQ.step; focus (intro Z; refine GO.nilCheck rfl rfl ?_; exact KQ.z)); (apply GQ.step; focus (intro Z; refine GO.fieldAddr rfl rfl ?_; exact KQ.z)); (apply GQ.step; focus (intro Z; refine GO.load1 rfl rfl rfl Tk.h rfl ?_; exact KQ.z)); (apply GQ.step; focus (intro Z; refine GO.lenS rfl rfl ?_; exact KQ.z)); (apply GQ.step; focus (intro Z; refine GO.eqi rfl rfl rfl ?_; exact KQ.z)); refine GQ.nil ?_)
    refine .nil (kthen_n (.condF rfl (by assumption) (.skip (kthen_n (.seq ?_)))))
    refine G.draw 12 (by kernel_rfl) ?_
    refine .step (fun _ => .move rfl rfl KQ.z) (.step (fun _ => .nilCheck rfl rfl KQ.z) (.step (fun _ => .fieldAddr rfl rfl KQ.z) (.step (fun _ => .load1 rfl rfl rfl .h rfl KQ.z) (.step (fun _ => .move rfl rfl KQ.z) (.step (fun _ => .nilCheck rfl rfl KQ.z) (.step (fun _ => .fieldAddr rfl rfl KQ.z) (.step (fun _ => .load1 rfl rfl rfl .h rfl KQ.z) (.step (fun _ => .idxS rfl rfl rfl ⟨rfl, by omega⟩ KQ.z) (.step (fun _ => .fieldAddr rfl rfl KQ.z) (.step (fun _ => .loadQ rfl rfl rfl (.t .h) (by assumption) KQ.z) (.step (fun _ => .assign rfl rfl KQ.z) (.nil ?_))))))))))))
    refine .nil (kthen_n (.ret ?_))
    refine KF2.r1 rfl (RV.t rfl) ⟨rfl, rfl⟩ (ImpS.sb ?_)
    ((refine Sb.c Tk.h ?_; refine Sb.c Tk.h ?_); (exact Sb.r))
  · obtain rfl : i = ms.length := by omega
    obtain ⟨a, cap, rfl⟩ := marks_sl hq
    rw [kAt_none (Nat.le_refl _)]
    have e1 : decide ((ms.length : Int) = (ms.length : Int)) = true := decide_eq_true rfl
    clear hq
    refine Fn.mk2 Tryz.func147 rfl rfl fun w0 F => ?_
    refine .seq (.region (.assign rfl rfl (.nil (kthen_n (.seq (.seq ?_))))))
    refine G.draw 10 (by kernel_rfl) ?_
    ((apply GQ.step; focus (intro Z; refine GO.move rfl rfl ?_; exact KQ.z)); (apply GQ.step; focus (intro Z; refine GO.nilCheck rfl rfl ?_; exact KQ.z)); (apply GQ.step; focus (intro Z; refine GO.fieldAddr rfl rfl ?_; exact KQ.z)); (apply GQ.step; focus (intro Z; refine GO.load1 rfl rfl rfl Tk.h rfl ?_; exact KQ.z)); (apply GQ.step; focus (intro Z; refine GO.move rfl rfl ?_; exact KQ.z)); (apply GQ.step; focus (intro Z; refine GO.nilCheck rfl rfl ?_; exact KQ.z)); (apply GQ.step; focus (intro Z; refine GO.fieldAddr rfl rfl ?_; exact KQ.z)); (apply GQ.step; focus (intro Z; refine GO.load1 rfl rfl rfl Tk.h rfl ?_; exact KQ.z)); (apply GQ.step; focus (intro Z; refine GO.lenS rfl rfl ?_; exact KQ.z)); (apply GQ.step; focus (intro Z; refine GO.eqT rfl rfl rfl rfl ?_; exact KQ.z)); refine GQ.nil ?_)
    refine .nil (kthen_n (.condT rfl rfl (.seq (.region (.assign rfl rfl (.nil (kthen_n (.ret (kthen_r ?_)))))))))
    refine KF2.r1 rfl (RV.t rfl) ⟨rfl, rfl⟩ (ImpS.sb ?_)
    ((refine Sb.c Tk.h ?_; refine Sb.c Tk.h ?_); (exact Sb.r))
set_option maxHeartbeats 8000000 in
theorem fail_spec (q : HP) (v : Value) (ms : List MarkD) (hq : MarksR q v ms) (br e i : Nat) (hi : i ≤ ms.length) : FnX Tryz.prog 107 #[ptrV br] [rdP br v e i, q] (fun _ _ => False) (fun x Q => x = wrongV (placeAt ms e i) ∧ Q = [rdP br v e i, q]) := by
  by_cases hlt : i < ms.length
  · obtain ⟨m, hm⟩ : ∃ m, ms[i]? = some m := ⟨_, List.getElem?_eq_getElem hlt⟩
    obtain ⟨b, o, cap, rfl, _, r1, _⟩ := marks_rd hq hm
    rw [placeAt_some hm]
    have e1 : decide ((i : Int) = (ms.length : Int)) = false := decide_eq_false (by omega)
    clear hq
    refine FnX.mk Tryz.func107 rfl rfl fun w0 F => ?_
    (refine G.seq ?_; refine G.seq ?_)
    refine G.draw 10 (by kernel_rfl) ?_
    ((apply GQ.step; focus (intro Z; refine GO.move rfl rfl ?_; exact KQ.z)); (apply GQ.step; focus (intro Z; refine GO.nilCheck rfl rfl ?_; exact KQ.z)); (apply GQ.step; focus (intro Z; refine GO.fieldAddr rfl rfl ?_; exact KQ.z)); (apply GQ.step; focus (intro Z; refine GO.load1 rfl rfl rfl Tk.h rfl ?_; exact KQ.z)); (apply GQ.step; focus (intro Z; refine GO.move rfl rfl ?_; exact KQ.z)); (apply GQ.step; focus (intro Z; refine GO.nilCheck rfl rfl ?_; exact KQ.z)); (apply GQ.step; focus (intro Z; refine GO.fieldAddr rfl rfl ?_; exact KQ.z)); (apply GQ.step; focus (intro Z; refine GO.load1 rfl rfl rfl Tk.h rfl ?_; exact KQ.z)); (apply GQ.step; focus (intro Z; refine GO.lenS rfl rfl ?_; exact KQ.z)); (apply GQ.step; focus (intro Z; refine GO.eqi rfl rfl rfl ?_; exact KQ.z)); refine GQ.nil ?_)
    (refine GO.nil ?_; refine kthen_n ?_; refine G.condF rfl (by assumption) ?_; refine G.skip ?_; refine kthen_n ?_)
    refine G.draw 12 (by kernel_rfl) ?_
    ((apply GQ.step; focus (intro Z; refine GO.move rfl rfl ?_; exact KQ.z)); (apply GQ.step; focus (intro Z; refine GO.nilCheck rfl rfl ?_; exact KQ.z)); (apply GQ.step; focus (intro Z; refine GO.fieldAddr rfl rfl ?_; exact KQ.z)); (apply GQ.step; focus (intro Z; refine GO.load1 rfl rfl rfl Tk.h rfl ?_; exact KQ.z)); (apply GQ.step; focus (intro Z; refine GO.move rfl rfl ?_; exact KQ.z)); (apply GQ.step; focus (intro Z; refine GO.nilCheck rfl rfl ?_; exact KQ.z)); (apply GQ.step; focus (intro Z; refine GO.fieldAddr rfl rfl ?_; exact KQ.z)); (apply GQ.step; focus (intro Z; refine GO.load1 rfl rfl rfl Tk.h rfl ?_; exact KQ.z)); (apply GQ.step; focus (intro Z; refine GO.idxS rfl rfl rfl ⟨rfl, by omega⟩ ?_; exact KQ.z)); (apply GQ.step; focus (intro Z; refine GO.fieldAddr rfl rfl ?_; exact KQ.z)); (apply GQ.step; focus (intro Z; refine GO.loadQ rfl rfl rfl (Tk.t Tk.h) (by assumption) ?_; exact KQ.z)); (apply GQ.step; focus (intro Z; refine GO.build1 rfl rfl rfl ?_; exact KQ.z)); refine GQ.nil ?_)
    (refine GO.mkIface rfl rfl rfl ?_)
    refine GO.panic rfl ?_
    refine KFX.p (v := wrongV m.place) ⟨rfl, rfl⟩ (ImpS.sb ?_)
    ((refine Sb.c Tk.h ?_; refine Sb.c Tk.h ?_); (exact Sb.r))
  · obtain rfl : i = ms.length := by omega
    obtain ⟨a, cap, rfl⟩ := marks_sl hq
    rw [placeAt_none (Nat.le_refl _)]
    have e1 : decide ((ms.length : Int) = (ms.length : Int)) = true := decide_eq_true rfl
    clear hq
    refine FnX.mk Tryz.func107 rfl rfl fun w0 F => ?_
    (refine G.seq ?_; refine G.seq ?_)
    refine G.draw 10 (by kernel_rfl) ?_
    ((apply GQ.step; focus (intro Z; refine GO.move rfl rfl ?_; exact KQ.z)); (apply GQ.step; focus (intro Z; refine GO.nilCheck rfl rfl ?_; exact KQ.z)); (apply GQ.step; focus (intro Z; refine GO.fieldAddr rfl rfl ?_; exact KQ.z)); (apply GQ.step; focus (intro Z; refine GO.load1 rfl rfl rfl Tk.h rfl ?_; exact KQ.z)); (apply GQ.step; focus (intro Z; refine GO.move rfl rfl ?_; exact KQ.z)); (apply GQ.step; focus (intro Z; refine GO.nilCheck rfl rfl ?_; exact KQ.z)); (apply GQ.step; focus (intro Z; refine GO.fieldAddr rfl rfl ?_; exact KQ.z)); (apply GQ.step; focus (intro Z; refine GO.load1 rfl rfl rfl Tk.h rfl ?_; exact KQ.z)); (apply GQ.step; focus (intro Z; refine GO.lenS rfl rfl ?_; exact KQ.z)); (apply GQ.step; focus (intro Z; refine GO.eqT rfl rfl rfl rfl ?_; exact KQ.z)); refine GQ.nil ?_)
    (refine GO.nil ?_; refine kthen_n ?_; refine G.condT rfl rfl ?_; refine G.region ?_; refine GO.move rfl rfl ?_; refine GO.nilCheck rfl rfl ?_; refine GO.fieldAddr rfl rfl ?_; refine GO.load1 rfl rfl rfl Tk.h rfl ?_; refine GO.build1 rfl rfl rfl ?_; refine GO.mkIface rfl rfl rfl ?_)
    refine GO.panic rfl ?_
    (repeat (first | refine kthen_p ?_ | refine kblock_p ?_ | refine kscope_p ?_))
    refine KFX.p (v := wrongV e) ⟨rfl, rfl⟩ (ImpS.sb ?_)
    ((refine Sb.c Tk.h ?_; refine Sb.c Tk.h ?_); (exact Sb.r))
set_option maxHeartbeats 8000000 in
theorem begins_spec (k : Nat) : Fn Tryz.prog 162 #[i64 (k : Nat)] [] (fun r Q => r = .bool (beginsK k) ∧ Q = []) := by
  refine Fn.mk2 Tryz.func162 rfl rfl fun w0 F => ?_
  unfold beginsK
  cases e1 : decide ((k : Int) = 1)
  · cases e2 : decide ((k : Int) = 2)
    · cases e3 : decide ((k : Int) = 12)
      · cases e4 : decide ((k : Int) = 10)
        · (refine .seq (.region (.assign rfl rfl (.nil (kthen_n (.seq (.seq (.region (.move rfl rfl (.nil (kthen_n (.block (.seq (.seq (.region (.eqi rfl rfl rfl ?_))))))))))))))); refine .assign rfl rfl (.nil (kthen_n (.condF rfl (by assumption) (.seq (.region (.eqi rfl rfl rfl (.assign rfl rfl (.nil (kthen_n (.condF rfl (by assumption) (.seq (.region (.eqi rfl rfl rfl (.assign rfl rfl (.nil ?_))))))))))))))); refine kthen_n (.condF rfl (by assumption) (.region (.eqi rfl rfl rfl (.assign rfl rfl (.nil (kthen_n (.condF rfl (by assumption) (.skip (kblock_n (kthen_n (.seq (.region (.assign rfl rfl (.nil (kthen_n ?_))))))))))))))); refine .ret ?_)
          refine KF2.r1 rfl (RV.t rfl) ⟨rfl, rfl⟩ (ImpS.sb ?_)
          exact .r
        · (refine .seq (.region (.assign rfl rfl (.nil (kthen_n (.seq (.seq (.region (.move rfl rfl (.nil (kthen_n (.block (.seq (.seq (.region (.eqi rfl rfl rfl ?_))))))))))))))); refine .assign rfl rfl (.nil (kthen_n (.condF rfl (by assumption) (.seq (.region (.eqi rfl rfl rfl (.assign rfl rfl (.nil (kthen_n (.condF rfl (by assumption) (.seq (.region (.eqi rfl rfl rfl (.assign rfl rfl (.nil ?_))))))))))))))); refine kthen_n (.condF rfl (by assumption) (.region (.eqi rfl rfl rfl (.assign rfl rfl (.nil (kthen_n (.condT rfl (by assumption) (.seq (.region (.assign rfl rfl (.nil (kthen_n (.ret (kblock_r (kthen_r ?_))))))))))))))))
          refine KF2.r1 rfl (RV.t rfl) ⟨rfl, rfl⟩ (ImpS.sb ?_)
          exact .r
      · (refine .seq (.region (.assign rfl rfl (.nil (kthen_n (.seq (.seq (.region (.move rfl rfl (.nil (kthen_n (.block (.seq (.seq (.region (.eqi rfl rfl rfl ?_))))))))))))))); refine .assign rfl rfl (.nil (kthen_n (.condF rfl (by assumption) (.seq (.region (.eqi rfl rfl rfl (.assign rfl rfl (.nil (kthen_n (.condF rfl (by assumption) (.seq (.region (.eqi rfl rfl rfl (.assign rfl rfl (.nil ?_))))))))))))))); refine kthen_n (.condT rfl (by assumption) (.skip (kthen_n (.condT rfl (by assumption) (.seq (.region (.assign rfl rfl (.nil (kthen_n (.ret (kblock_r (kthen_r ?_)))))))))))))
        refine KF2.r1 rfl (RV.t rfl) ⟨rfl, rfl⟩ (ImpS.sb ?_)
        exact .r
    · (refine .seq (.region (.assign rfl rfl (.nil (kthen_n (.seq (.seq (.region (.move rfl rfl (.nil (kthen_n (.block (.seq (.seq (.region (.eqi rfl rfl rfl ?_))))))))))))))); refine .assign rfl rfl (.nil (kthen_n (.condF rfl (by assumption) (.seq (.region (.eqi rfl rfl rfl (.assign rfl rfl (.nil (kthen_n (.condT rfl (by assumption) (.skip (kthen_n (.condT rfl (by assumption) (.seq (.region ?_))))))))))))))); refine .assign rfl rfl (.nil (kthen_n (.ret (kblock_r (kthen_r ?_))))))
      refine KF2.r1 rfl (RV.t rfl) ⟨rfl, rfl⟩ (ImpS.sb ?_)
      exact .r
  · (refine .seq (.region (.assign rfl rfl (.nil (kthen_n (.seq (.seq (.region (.move rfl rfl (.nil (kthen_n (.block (.seq (.seq (.region (.eqi rfl rfl rfl ?_))))))))))))))); refine .assign rfl rfl (.nil (kthen_n (.condT rfl (by assumption) (.skip (kthen_n (.condT rfl (by assumption) (.seq (.region (.assign rfl rfl (.nil (kthen_n (.ret (kblock_r (kthen_r ?_)))))))))))))))
    refine KF2.r1 rfl (RV.t rfl) ⟨rfl, rfl⟩ (ImpS.sb ?_)
    exact .r
end Go.Proofs.YtbconcohpfkncaaGreat
namespace Go.Proofs.YtbconcohpfkncaaGreat
open Go
/-- What a reading answers. -/
def ResR (q : HP) (br : Nat) (v : Value) (e : Nat) (res : PR) : Value → List HP → Prop := fun r Q => ∃ l k, res = .ok (l, k) ∧ Q = [own 78 3 l.length r (nodesV l), rdP br v e k, q]
def ResE (q : HP) (br : Nat) (v : Value) (ms : List MarkD) (e : Nat) (res : PR) : Value → List HP → Prop := fun x Q => ∃ k, res = .error k ∧ x = wrongV (placeAt ms e k) ∧ Q = [rdP br v e k, q]
/-- The reading of an expression from the i-th mark on is as told. -/
def ExOK (q : HP) (br : Nat) (v : Value) (ms : List MarkD) (e i : Nat) (res : PR) : Prop := FnX Tryz.prog 106 #[ptrV br] [rdP br v e i, q] (ResR q br v e res) (ResE q br v ms e res)
theorem built_nodeN (k : Int) (t : List UInt8) : Tryz.prog.built 78 [(0, i64 k), (1, str t)] = some [i64 k, str t, i64 0].toArray := by kernel_rfl
theorem built_nodeE (k : Int) : Tryz.prog.built 78 [(0, i64 k)] = some [i64 k, str [], i64 0].toArray := by kernel_rfl
theorem built_nodeK (k n : Int) : Tryz.prog.built 78 [(0, i64 k), (2, i64 n)] = some [i64 k, str [], i64 n].toArray := by kernel_rfl
attribute [local irreducible] G GO GR GT Fn FnX FnV pt init exs pur sat own ImpS kAt placeAt
set_option maxHeartbeats 16000000 in
theorem atom_spec (q : HP) (v : Value) (ms : List MarkD) (hq : MarksR q v ms) (br e i : Nat) (hi : i ≤ ms.length) (hms : ¬ 1048576 < ms.length) (ex : Nat → PR) (hg : Goes ms ex) (hex : ∀ j, i < j → j ≤ ms.length → ExOK q br v ms e j (ex j)) :
    FnX Tryz.prog 176 #[ptrV br] [rdP br v e i, q] (ResR q br v e (atomF ms ex i)) (ResE q br v ms e (atomF ms ex i)) := by
  have hkind := rkind_spec q v ms hq br e i hi
  have hfail := fail_spec q v ms hq br e i hi
  by_cases hlt : i < ms.length
  · obtain ⟨m, hm⟩ : ∃ m, ms[i]? = some m := ⟨_, List.getElem?_eq_getElem hlt⟩
    have hko : ∀ k, k ≤ ms.length → Fn Tryz.prog 147 #[ptrV br] [rdP br v e k, q] (fun r Q => r = i64 (kAt ms k : Nat) ∧ Q = [rdP br v e k, q]) := fun k hk => rkind_spec q v ms hq br e k hk
    have hfo : ∀ k, k ≤ ms.length → FnX Tryz.prog 107 #[ptrV br] [rdP br v e k, q] (fun _ _ => False) (fun x Q => x = wrongV (placeAt ms e k) ∧ Q = [rdP br v e k, q]) := fun k hk => fail_spec q v ms hq br e k hk
    obtain ⟨b, o, cap, rfl, r0, r1, r2⟩ := marks_rd hq hm
    have rm : ∀ j u, [i64 (m.kind : Nat), i64 (m.place : Nat), str m.text][j]? = some u → Rd q ⟨b, o + i * 3 + j, none⟩ u := fun j u hj => by
      match j, hj with
      | 0, hj => obtain rfl := Option.some.inj hj; exact r0
      | 1, hj => obtain rfl := Option.some.inj hj; exact r1
      | 2, hj => obtain rfl := Option.some.inj hj; exact r2
    rw [kAt_some hm] at hkind
    clear hq r0 r1 r2
    refine FnX.mk Tryz.func176 rfl rfl fun w0 F => ?_
    refine .seq (.region (.assign rfl rfl (.nil (kthen_n (.seq (.seq (.region (.move rfl rfl ?_))))))))
    refine GO.call1 rfl rfl (hkind) (Tks.c Tk.h (Tks.c Tk.h Tks.n)) ?_
    rintro _ _ ⟨rfl, rfl⟩
    skip
    refine GO.call1 rfl rfl (begins_spec m.kind) Tks.n ?_
    rintro _ _ ⟨rfl, rfl⟩
    by_cases hb : m.kind = 1 ∨ m.kind = 2 ∨ m.kind = 12 ∨ m.kind = 10
    · have hbk : beginsK m.kind = true := by
        unfold beginsK
        rcases hb with h | h | h | h <;> rw [h] <;> rfl
      rw [hbk]
      refine .not rfl rfl (.nil (kthen_n (.condF rfl rfl (.skip (kthen_n (.seq ?_))))))
      refine G.drawT 12 3072 [rdP br (.slice (some ⟨b, o, none⟩) ms.length cap) e i, q] F (by kernel_rfl) (keys_of rfl) (ImpS.sb (.c .h (.c .h .r))) ?_
      refine .step rfl (fun _ => .move rfl rfl KQ.z) (.step rfl (fun _ => .nilCheck rfl rfl KQ.z) (.step rfl (fun _ => .fieldAddr rfl rfl KQ.z) (.step rfl (fun _ => .load1 rfl rfl rfl .h rfl KQ.z) (.step rfl (fun _ => .move rfl rfl KQ.z) (.step rfl (fun _ => .nilCheck rfl rfl KQ.z) (.step rfl (fun _ => .fieldAddr rfl rfl KQ.z) (.step rfl (fun _ => .load1 rfl rfl rfl .h rfl KQ.z) (.step rfl (fun _ => .idxS rfl rfl rfl ⟨rfl, by omega⟩ KQ.z) ?_))))))))
      apply GR.step rfl; focus (intro Z; refine GO.loadM (vs := [i64 (m.kind : Nat), i64 (m.place : Nat), str m.text]) rfl rfl rfl (Tk.t Tk.h) rfl rm ?_; exact KQ.z)
      refine .skip rfl (.skip rfl (.nil ?_))
      repeat refine GT.skip rfl ?_
      refine GT.step rfl ?_
      refine GO.alloc rfl fun b3 => ?_
      refine GO.nil ⟨rfl, _, pt b3 (row [i64 0, i64 0, str []] 95) :: F, rfl, ImpS.sb (.c (.t .h) (.c (.t .h) (.c .h .r))), ?_⟩
      repeat refine GT.skip rfl ?_
      refine GT.step rfl ?_
      refine GO.storeW (vs := [i64 (m.kind : Nat), i64 (m.place : Nat), str m.text]) rfl rfl (Tk.t (Tk.t Tk.h)) ⟨rfl, rfl⟩ (by simp [Value.oneCell']) ?_
      refine GO.nil ⟨rfl, .tuple #[], pt b3 (row [i64 (m.kind : Nat), i64 (m.place : Nat), str m.text] 95) :: F, rfl, ImpS.sb (.c (.t .h) (.c (.t .h) (.c .h .r))), ?_⟩
      refine GT.nil ?_
      by_cases h1 : m.kind = 1
      · have hres : atomF ms ex i = .ok ([⟨2, m.text, 0⟩], i + 1) := by unfold atomF; rw [hm]; dsimp only; rw [if_pos h1]
        rw [hres]
        have c1 : decide ((m.kind : Int) = 1) = true := decide_eq_true (by omega)
        (refine .nil (kthen_n (.seq (.region (.move rfl rfl (.nilCheck rfl rfl (.fieldAddr rfl rfl (.load1 rfl rfl rfl .h rfl (.addi rfl rfl rfl (by omega) (.nilCheck rfl rfl (.fieldAddr rfl rfl (.store1 rfl rfl rfl .h (by simp) (.nil (kthen_n (.seq (.seq ?_))))))))))))))); refine .region (.fieldAddr rfl rfl (.load1 rfl rfl rfl (.t (.t .h)) rfl (.nil (kthen_n (.block (.seq (.region (.eqi rfl rfl rfl (.assign rfl rfl (.nil (kthen_n (.condT rfl (by assumption) (.seq (.region (.fieldAddr rfl rfl ?_))))))))))))))); refine .load1 rfl rfl rfl (.t (.t .h)) rfl ?_)
        refine GO.buildP2 (built_nodeN 2 m.text) rfl rfl rfl ?_
        skip
        refine GO.buildSlice1 rfl rfl (by simp; rfl) rfl ⟨by omega, by omega⟩ fun bs => ?_
        refine GO.ownIn (n := 1) (sz := 3) Tk.h rfl (by decide) ?_
        refine .assign rfl rfl (.nil (kthen_n (.ret (kblock_r (kthen_r ?_)))))
        refine KFX.r1 rfl (RV.t rfl) ⟨_, _, rfl, rfl⟩ (ImpS.sb ?_)
        exact .c .h (.c .h (.c .h (.s .r)))
      have c1 : decide ((m.kind : Int) = 1) = false := decide_eq_false (by omega)
      by_cases h2 : m.kind = 2
      · have hres : atomF ms ex i = .ok ([⟨3, m.text, 0⟩], i + 1) := by unfold atomF; rw [hm]; dsimp only; rw [if_neg (by omega), if_pos h2]
        rw [hres]
        have c2 : decide ((m.kind : Int) = 2) = true := decide_eq_true (by omega)
        (refine .nil (kthen_n (.seq (.region (.move rfl rfl (.nilCheck rfl rfl (.fieldAddr rfl rfl (.load1 rfl rfl rfl .h rfl (.addi rfl rfl rfl (by omega) (.nilCheck rfl rfl (.fieldAddr rfl rfl (.store1 rfl rfl rfl .h (by simp) (.nil (kthen_n (.seq (.seq ?_))))))))))))))); refine .region (.fieldAddr rfl rfl (.load1 rfl rfl rfl (.t (.t .h)) rfl (.nil (kthen_n (.block (.seq (.region (.eqi rfl rfl rfl (.assign rfl rfl (.nil (kthen_n (.condF rfl (by assumption) (.seq (.region (.eqi rfl rfl rfl ?_))))))))))))))); refine .assign rfl rfl (.nil (kthen_n (.condT rfl (by assumption) (.seq (.region (.fieldAddr rfl rfl (.load1 rfl rfl rfl (.t (.t .h)) rfl ?_))))))))
        refine GO.buildP2 (built_nodeN 3 m.text) rfl rfl rfl ?_
        skip
        refine GO.buildSlice1 rfl rfl (by simp; rfl) rfl ⟨by omega, by omega⟩ fun bs => ?_
        refine GO.ownIn (n := 1) (sz := 3) Tk.h rfl (by decide) ?_
        refine .assign rfl rfl (.nil (kthen_n (.ret (kblock_r (kthen_r ?_)))))
        refine KFX.r1 rfl (RV.t rfl) ⟨_, _, rfl, rfl⟩ (ImpS.sb ?_)
        exact .c .h (.c .h (.c .h (.s .r)))
      have c2 : decide ((m.kind : Int) = 2) = false := decide_eq_false (by omega)
      by_cases h12 : m.kind = 12
      · have hres : atomF ms ex i = .ok ([⟨1, [], 0⟩], i + 1) := by unfold atomF; rw [hm]; dsimp only; rw [if_neg (by omega), if_neg (by omega), if_pos h12]
        rw [hres]
        have c12 : decide ((m.kind : Int) = 12) = true := decide_eq_true (by omega)
        (refine .nil (kthen_n (.seq (.region (.move rfl rfl (.nilCheck rfl rfl (.fieldAddr rfl rfl (.load1 rfl rfl rfl .h rfl (.addi rfl rfl rfl (by omega) (.nilCheck rfl rfl (.fieldAddr rfl rfl (.store1 rfl rfl rfl .h (by simp) (.nil (kthen_n (.seq (.seq ?_))))))))))))))); refine .region (.fieldAddr rfl rfl (.load1 rfl rfl rfl (.t (.t .h)) rfl (.nil (kthen_n (.block (.seq (.region (.eqi rfl rfl rfl (.assign rfl rfl (.nil (kthen_n (.condF rfl (by assumption) (.seq (.region (.eqi rfl rfl rfl ?_))))))))))))))); refine .assign rfl rfl (.nil (kthen_n (.condF rfl (by assumption) (.seq (.region (.eqi rfl rfl rfl (.assign rfl rfl (.nil (kthen_n (.condT rfl (by assumption) (.seq (.region ?_)))))))))))))
        refine GO.buildPart1 (built_nodeE 1) rfl rfl ?_
        skip
        refine GO.buildSlice1 rfl rfl (by simp; rfl) rfl ⟨by omega, by omega⟩ fun bs => ?_
        refine GO.ownIn (n := 1) (sz := 3) Tk.h rfl (by decide) ?_
        refine .assign rfl rfl (.nil (kthen_n (.ret (kblock_r (kthen_r ?_)))))
        refine KFX.r1 rfl (RV.t rfl) ⟨_, _, rfl, rfl⟩ (ImpS.sb ?_)
        exact .c .h (.c .h (.c .h (.s .r)))
      have c12 : decide ((m.kind : Int) = 12) = false := decide_eq_false (by omega)
      have h10 : m.kind = 10 := by omega
      have hres : atomF ms ex i = match ex (i + 1) with
        | .error j => .error j
        | .ok (l, j) => if kAt ms j = 11 then .ok (l, j + 1) else .error j := by unfold atomF; rw [hm]; dsimp only; rw [if_neg h1, if_neg h2, if_neg h12, if_pos h10]; try (cases ex (i + 1) <;> rfl)
      rw [hres]
      have hx := hex (i + 1) (by omega) (by omega)
      have hgi := hg (i + 1)
      unfold ExOK at hx
      generalize ex (i + 1) = rs at *
      clear hres hex hg
      (refine .nil (kthen_n (.seq (.region (.move rfl rfl (.nilCheck rfl rfl (.fieldAddr rfl rfl (.load1 rfl rfl rfl .h rfl (.addi rfl rfl rfl (by omega) (.nilCheck rfl rfl (.fieldAddr rfl rfl (.store1 rfl rfl rfl .h (by simp) (.nil (kthen_n (.seq (.seq ?_))))))))))))))); refine .region (.fieldAddr rfl rfl (.load1 rfl rfl rfl (.t (.t .h)) rfl (.nil (kthen_n (.block (.seq (.region (.eqi rfl rfl rfl (.assign rfl rfl (.nil (kthen_n (.condF rfl (by assumption) (.seq (.region (.eqi rfl rfl rfl ?_))))))))))))))); refine .assign rfl rfl (.nil (kthen_n (.condF rfl (by assumption) (.seq (.region (.eqi rfl rfl rfl (.assign rfl rfl (.nil (kthen_n (.condF rfl (by assumption) (.skip (kblock_n (kthen_n (.seq (.region ?_))))))))))))))); refine .move rfl rfl ?_)
      refine GO.callX1 rfl rfl (hx) (Tks.c Tk.h (Tks.c Tk.h Tks.n)) ?_ ?_
      · rintro _ _ ⟨k, rfl, rfl, rfl⟩
        repeat (first | refine kthen_p ?_ | refine kblock_p ?_ | refine kscope_p ?_)
        refine KFX.p ⟨k, rfl, rfl, rfl⟩ (ImpS.sb ?_)
        exact .c .h (.c .h (.s .r))
      rintro r _ ⟨l, k, rfl, rfl⟩
      obtain ⟨g1, g2, g3⟩ := hgi l k rfl
      dsimp only
      refine .assign rfl rfl (.nil (kthen_n (.seq (.seq (.region (.move rfl rfl ?_))))))
      refine GO.call1 rfl rfl (hko k g2) (Tks.c (Tk.t Tk.h) (Tks.c (Tk.t Tk.h) Tks.n)) ?_
      rintro _ _ ⟨rfl, rfl⟩
      by_cases hk : kAt ms k = 11
      · rw [if_pos hk]
        have c11 : decide ((kAt ms k : Int) ≠ 11) = false := decide_eq_false (by omega)
        (refine .nei rfl rfl rfl (.nil (kthen_n (.condF rfl (by assumption) (.skip (kthen_n (.seq (.region (.move rfl rfl (.nilCheck rfl rfl (.fieldAddr rfl rfl (.load1 rfl rfl rfl .h rfl (.addi rfl rfl rfl (by omega) (.nilCheck rfl rfl (.fieldAddr rfl rfl (.store1 rfl rfl rfl .h (by simp) ?_))))))))))))))); refine .nil (kthen_n (.seq (.region (.move rfl rfl (.assign rfl rfl (.nil (kthen_n (.ret ?_)))))))))
        refine KFX.r1 rfl (RV.t rfl) ⟨_, _, rfl, rfl⟩ (ImpS.sb ?_)
        exact .c (.t (.t .h)) (.c .h (.c .h (.s .r)))
      · rw [if_neg hk]
        have c11 : decide ((kAt ms k : Int) ≠ 11) = true := decide_eq_true (by omega)
        refine .nei rfl rfl rfl (.nil (kthen_n (.condT rfl (by assumption) (.region (.move rfl rfl ?_)))))
        refine GO.callX1 rfl rfl (hfo k g2) (Tks.c Tk.h (Tks.c Tk.h Tks.n)) ?_ ?_
        · rintro _ _ ⟨rfl, rfl⟩
          repeat (first | refine kthen_p ?_ | refine kblock_p ?_ | refine kscope_p ?_)
          refine KFX.p ⟨k, rfl, rfl, rfl⟩ (ImpS.sb ?_)
          exact .c .h (.c .h (.s (.s .r)))
        · intro _ _ h
          exact h.elim
    · have hbk : beginsK m.kind = false := by
        unfold beginsK
        rw [decide_eq_false (show ¬ (m.kind : Int) = 1 by omega), decide_eq_false (show ¬ (m.kind : Int) = 2 by omega), decide_eq_false (show ¬ (m.kind : Int) = 12 by omega), decide_eq_false (show ¬ (m.kind : Int) = 10 by omega)]
        rfl
      have hres : atomF ms ex i = .error i := by unfold atomF; rw [hm]; dsimp only; rw [if_neg (by omega), if_neg (by omega), if_neg (by omega), if_neg (by omega)]
      rw [hres, hbk]
      refine .not rfl rfl (.nil (kthen_n (.condT rfl rfl (.region (.move rfl rfl ?_)))))
      refine GO.callX1 rfl rfl (hfail) (Tks.c Tk.h (Tks.c Tk.h Tks.n)) ?_ ?_
      · rintro _ _ ⟨rfl, rfl⟩
        repeat (first | refine kthen_p ?_ | refine kblock_p ?_ | refine kscope_p ?_)
        refine KFX.p ⟨i, rfl, rfl, rfl⟩ (ImpS.sb ?_)
        exact .c .h (.c .h .r)
      · intro _ _ h
        exact h.elim
  · have hk0 := kAt_none (ms := ms) (i := i) (by omega)
    have hres : atomF ms ex i = .error i := by unfold atomF; rw [List.getElem?_eq_none (by omega)]
    rw [hk0] at hkind
    rw [hres]
    clear hq
    refine FnX.mk Tryz.func176 rfl rfl fun w0 F => ?_
    refine .seq (.region (.assign rfl rfl (.nil (kthen_n (.seq (.seq (.region (.move rfl rfl ?_))))))))
    refine GO.call1 rfl rfl (hkind) (Tks.c Tk.h (Tks.c Tk.h Tks.n)) ?_
    rintro _ _ ⟨rfl, rfl⟩
    skip
    refine GO.call1 rfl rfl (begins_spec 0) Tks.n ?_
    rintro _ _ ⟨rfl, rfl⟩
    rw [show beginsK 0 = false by rfl]
    refine .not rfl rfl (.nil (kthen_n (.condT rfl rfl (.region (.move rfl rfl ?_)))))
    refine GO.callX1 rfl rfl (hfail) (Tks.c Tk.h (Tks.c Tk.h Tks.n)) ?_ ?_
    · rintro _ _ ⟨rfl, rfl⟩
      repeat (first | refine kthen_p ?_ | refine kblock_p ?_ | refine kscope_p ?_)
      refine KFX.p ⟨i, rfl, rfl, rfl⟩ (ImpS.sb ?_)
      exact .c .h (.c .h .r)
    · intro _ _ h
      exact h.elim
end Go.Proofs.YtbconcohpfkncaaGreat
namespace Go.Proofs.YtbconcohpfkncaaGreat
open Go
theorem nodesV_one (l : List NodeD) : ∀ u ∈ nodesV l, u.oneCell' = true := by
  intro u hu
  obtain ⟨m, _, hm⟩ := List.mem_flatMap.1 hu
  simp only [nodeVs, List.mem_cons, List.not_mem_nil, or_false] at hm
  rcases hm with rfl | rfl | rfl <;> rfl
attribute [local irreducible] G GO GR GT Fn FnX FnV pt init exs pur sat own ImpS kAt placeAt
set_option maxHeartbeats 16000000 in
theorem unit_spec (q : HP) (v : Value) (ms : List MarkD) (hq : MarksR q v ms) (br e i : Nat) (hi : i ≤ ms.length) (hms : ¬ 1048576 < ms.length) (ex : Nat → PR) (hg : Goes ms ex) (hex : ∀ j, i < j → j ≤ ms.length → ExOK q br v ms e j (ex j)) :
    FnX Tryz.prog 160 #[ptrV br] [rdP br v e i, q] (ResR q br v e (unitF ms ex i)) (ResE q br v ms e (unitF ms ex i)) := by
  have ha := atom_spec q v ms hq br e i hi hms ex hg hex
  have hko : ∀ k, k ≤ ms.length → Fn Tryz.prog 147 #[ptrV br] [rdP br v e k, q] (fun r Q => r = i64 (kAt ms k : Nat) ∧ Q = [rdP br v e k, q]) := fun k hk => rkind_spec q v ms hq br e k hk
  have hag := atomF_goes hg i
  unfold unitF
  generalize atomF ms ex i = ra at *
  clear hex hg hq
  refine FnX.mk Tryz.func160 rfl rfl fun w0 F => ?_
  refine .seq (.region (.assign rfl rfl (.nil (kthen_n (.seq (.region (.move rfl rfl ?_)))))))
  refine GO.callX1 rfl rfl (ha) (Tks.c Tk.h (Tks.c Tk.h Tks.n)) ?_ ?_
  · rintro _ _ ⟨k, rfl, rfl, rfl⟩
    repeat (first | refine kthen_p ?_ | refine kblock_p ?_ | refine kscope_p ?_)
    refine KFX.p ⟨k, rfl, rfl, rfl⟩ (ImpS.sb ?_)
    exact .c .h (.c .h .r)
  rintro r0 _ ⟨l0, k0, rfl, rfl⟩
  obtain ⟨h1, h2, h3⟩ := hag l0 k0 rfl
  clear hag
  dsimp only
  generalize hfin : postF ms ms.length l0 k0 = fin
  refine .assign rfl rfl (.nil (kthen_n (.block ?_)))
  refine G.loopI (σ := List NodeD × Nat × Value) (fun z => [(0, ptrV br), (3, z.2.2)]) (fun z => own 78 3 z.1.length z.2.2 (nodesV z.1) :: rdP br v e z.2.1 :: q :: F) (fun z => i < z.2.1 ∧ z.2.1 ≤ ms.length ∧ z.1.length + 1 ≤ 2 * (z.2.1 - i) ∧ ∃ f, ms.length - z.2.1 ≤ f ∧ postF ms f z.1 z.2.1 = fin) (fun z => ms.length - z.2.1) (l0, k0, r0) ⟨h1, h2, h3, ms.length, by dsimp only; omega, hfin⟩ ?_ ?_ ?_
  · exact .c rfl rfl (.c rfl rfl .n)
  · refine ImpS.sb ?_
    exact .c .h (.c .h (.c .h .r))
  clear hfin h1 h2 h3
  rintro ⟨l, k, r⟩ ⟨h1, h2, h3, f, hf, hfin⟩
  dsimp only at h1 h2 h3 hf hfin ⊢
  refine .block (.seq (.region (.assign rfl rfl (.nil (kthen_n (.seq (.seq (.region (.move rfl rfl ?_)))))))))
  refine GO.call1 rfl rfl (hko k h2) (Tks.c (Tk.t Tk.h) (Tks.c (Tk.t Tk.h) Tks.n)) ?_
  rintro _ _ ⟨rfl, rfl⟩
  by_cases c7 : kAt ms k = 7
  · have hk := kAt_lt (ms := ms) (i := k) (by omega)
    obtain ⟨f, rfl⟩ : ∃ g, f = g + 1 := ⟨f - 1, by omega⟩
    simp only [postF] at hfin
    rw [if_pos c7] at hfin
    have d7 : decide ((kAt ms k : Int) = 7) = true := decide_eq_true (by omega)
    (refine .nil (kthen_n (.block (.seq (.region (.eqi rfl rfl rfl (.assign rfl rfl (.nil (kthen_n (.condT rfl (by assumption) (.region (.assign rfl rfl (.nil (kblock_n (kthen_n (.seq ?_))))))))))))))); refine .region (.move rfl rfl (.nilCheck rfl rfl (.fieldAddr rfl rfl (.load1 rfl rfl rfl .h rfl (.addi rfl rfl rfl (by omega) (.nilCheck rfl rfl (.fieldAddr rfl rfl (.store1 rfl rfl rfl .h (by simp) (.nil (kthen_n (.region (.move rfl rfl ?_)))))))))))))
    refine GO.buildP2 (built_nodeK 6 1) rfl rfl rfl ?_
    skip
    refine GO.buildSlice1 rfl rfl (by simp; rfl) rfl ⟨by omega, by omega⟩ fun bs => ?_
    refine GO.ownIn (n := 1) (sz := 3) Tk.h rfl (by decide) ?_
    refine GO.ownRd (n := l.length) (xs := nodesV l) (Tk.t (Tk.t (Tk.t Tk.h))) fun q2 hq2 => ?_
    refine .move rfl rfl ?_
    refine GO.appendFrom (n := 1) (m := l.length) (q := q2) rfl rfl rfl (Tk.t Tk.h) Tk.h hq2 (nodesV_one l) ⟨by decide, rfl⟩ (by unfold maxLen; omega) (by omega) fun v' => ?_
    rw [show 1 + l.length = ((⟨6, [], 1⟩ : NodeD) :: l).length by rw [List.length_cons]; omega]
    refine .assign rfl rfl (.nil (kblock_n (kthen_n ?_)))
    refine ⟨(⟨6, [], 1⟩ :: l, k + 1, v'), ⟨by dsimp only; omega, by dsimp only; omega, by dsimp only; rw [List.length_cons]; omega, f, by dsimp only; omega, hfin⟩, by dsimp only; omega, ?_, ImpS.sb ?_⟩
    · exact .c rfl rfl (.c rfl rfl .n)
    · exact .c .h (.c (.t .h) (.c (.t .h) (.s .r)))
  have d7 : decide ((kAt ms k : Int) = 7) = false := decide_eq_false (by omega)
  by_cases c8 : kAt ms k = 8
  · have hk := kAt_lt (ms := ms) (i := k) (by omega)
    obtain ⟨f, rfl⟩ : ∃ g, f = g + 1 := ⟨f - 1, by omega⟩
    simp only [postF] at hfin
    rw [if_neg (by omega), if_pos c8] at hfin
    have d8 : decide ((kAt ms k : Int) = 8) = true := decide_eq_true (by omega)
    (refine .nil (kthen_n (.block (.seq (.region (.eqi rfl rfl rfl (.assign rfl rfl (.nil (kthen_n (.condF rfl (by assumption) (.seq (.region (.eqi rfl rfl rfl (.assign rfl rfl (.nil (kthen_n ?_))))))))))))))); refine .condT rfl (by assumption) (.region (.assign rfl rfl (.nil (kblock_n (kthen_n (.seq (.region (.move rfl rfl (.nilCheck rfl rfl (.fieldAddr rfl rfl (.load1 rfl rfl rfl .h rfl (.addi rfl rfl rfl (by omega) (.nilCheck rfl rfl (.fieldAddr rfl rfl (.store1 rfl rfl rfl .h (by simp) ?_))))))))))))))); refine .nil (kthen_n (.region (.move rfl rfl ?_))))
    refine GO.buildP2 (built_nodeK 7 1) rfl rfl rfl ?_
    skip
    refine GO.buildSlice1 rfl rfl (by simp; rfl) rfl ⟨by omega, by omega⟩ fun bs => ?_
    refine GO.ownIn (n := 1) (sz := 3) Tk.h rfl (by decide) ?_
    refine GO.ownRd (n := l.length) (xs := nodesV l) (Tk.t (Tk.t (Tk.t Tk.h))) fun q2 hq2 => ?_
    refine .move rfl rfl ?_
    refine GO.appendFrom (n := 1) (m := l.length) (q := q2) rfl rfl rfl (Tk.t Tk.h) Tk.h hq2 (nodesV_one l) ⟨by decide, rfl⟩ (by unfold maxLen; omega) (by omega) fun v' => ?_
    rw [show 1 + l.length = ((⟨7, [], 1⟩ : NodeD) :: l).length by rw [List.length_cons]; omega]
    refine .assign rfl rfl (.nil (kblock_n (kthen_n ?_)))
    refine ⟨(⟨7, [], 1⟩ :: l, k + 1, v'), ⟨by dsimp only; omega, by dsimp only; omega, by dsimp only; rw [List.length_cons]; omega, f, by dsimp only; omega, hfin⟩, by dsimp only; omega, ?_, ImpS.sb ?_⟩
    · exact .c rfl rfl (.c rfl rfl .n)
    · exact .c .h (.c (.t .h) (.c (.t .h) (.s .r)))
  have d8 : decide ((kAt ms k : Int) = 8) = false := decide_eq_false (by omega)
  by_cases c9 : kAt ms k = 9
  · have hk := kAt_lt (ms := ms) (i := k) (by omega)
    obtain ⟨f, rfl⟩ : ∃ g, f = g + 1 := ⟨f - 1, by omega⟩
    simp only [postF] at hfin
    rw [if_neg (by omega), if_neg (by omega), if_pos c9] at hfin
    have d9 : decide ((kAt ms k : Int) = 9) = true := decide_eq_true (by omega)
    (refine .nil (kthen_n (.block (.seq (.region (.eqi rfl rfl rfl (.assign rfl rfl (.nil (kthen_n (.condF rfl (by assumption) (.seq (.region (.eqi rfl rfl rfl (.assign rfl rfl (.nil (kthen_n ?_))))))))))))))); refine .condF rfl (by assumption) (.seq (.region (.eqi rfl rfl rfl (.assign rfl rfl (.nil (kthen_n (.condT rfl (by assumption) (.region (.assign rfl rfl (.nil (kblock_n (kthen_n (.seq (.region (.move rfl rfl ?_))))))))))))))); refine .nilCheck rfl rfl (.fieldAddr rfl rfl (.load1 rfl rfl rfl .h rfl (.addi rfl rfl rfl (by omega) (.nilCheck rfl rfl (.fieldAddr rfl rfl (.store1 rfl rfl rfl .h (by simp) (.nil (kthen_n (.region (.move rfl rfl ?_)))))))))))
    refine GO.buildP2 (built_nodeK 8 1) rfl rfl rfl ?_
    skip
    refine GO.buildSlice1 rfl rfl (by simp; rfl) rfl ⟨by omega, by omega⟩ fun bs => ?_
    refine GO.ownIn (n := 1) (sz := 3) Tk.h rfl (by decide) ?_
    refine GO.ownRd (n := l.length) (xs := nodesV l) (Tk.t (Tk.t (Tk.t Tk.h))) fun q2 hq2 => ?_
    refine .move rfl rfl ?_
    refine GO.appendFrom (n := 1) (m := l.length) (q := q2) rfl rfl rfl (Tk.t Tk.h) Tk.h hq2 (nodesV_one l) ⟨by decide, rfl⟩ (by unfold maxLen; omega) (by omega) fun v' => ?_
    rw [show 1 + l.length = ((⟨8, [], 1⟩ : NodeD) :: l).length by rw [List.length_cons]; omega]
    refine .assign rfl rfl (.nil (kblock_n (kthen_n ?_)))
    refine ⟨(⟨8, [], 1⟩ :: l, k + 1, v'), ⟨by dsimp only; omega, by dsimp only; omega, by dsimp only; rw [List.length_cons]; omega, f, by dsimp only; omega, hfin⟩, by dsimp only; omega, ?_, ImpS.sb ?_⟩
    · exact .c rfl rfl (.c rfl rfl .n)
    · exact .c .h (.c (.t .h) (.c (.t .h) (.s .r)))
  have d9 : decide ((kAt ms k : Int) = 9) = false := decide_eq_false (by omega)
  have hend : fin = (l, k) := by
    cases f with
    | zero => exact hfin.symm
    | succ f => simp only [postF] at hfin; rw [if_neg c7, if_neg c8, if_neg c9] at hfin; exact hfin.symm
  subst hend
  (refine .nil (kthen_n (.block (.seq (.region (.eqi rfl rfl rfl (.assign rfl rfl (.nil (kthen_n (.condF rfl (by assumption) (.seq (.region (.eqi rfl rfl rfl (.assign rfl rfl (.nil (kthen_n ?_))))))))))))))); refine .condF rfl (by assumption) (.seq (.region (.eqi rfl rfl rfl (.assign rfl rfl (.nil (kthen_n (.condF rfl (by assumption) (.seq (.region (.move rfl rfl (.assign rfl rfl (.nil (kthen_n (.ret (kblock_r ?_))))))))))))))); refine kthen_r (kblock_r (kthen_r (kblock_r ?_))))
  refine KFX.r1 rfl (RV.t rfl) ⟨l, k, rfl, rfl⟩ (ImpS.sb ?_)
  exact .c (.t (.t .h)) (.c .h (.c .h .r))
end Go.Proofs.YtbconcohpfkncaaGreat
namespace Go.Proofs.YtbconcohpfkncaaGreat
open Go
attribute [local irreducible] G GO GR GT Fn FnX FnV FnXV pt init exs pur sat own ImpS kAt placeAt
set_option maxHeartbeats 16000000 in
theorem many_spec (q X : HP) (v : Value) (ms : List MarkD) (br e i : Nat) (hi : i ≤ ms.length) (hms : ¬ 1048576 < ms.length) (u : Nat → PR) (go : Nat → Option Nat) (hu : Goes ms u) (hg : ∀ i j, go i = some j → i ≤ j ∧ i < ms.length) (y : Value) (kind : Nat)
    (hy : ∀ i', i ≤ i' → i' ≤ ms.length → FnXV Tryz.prog y [] [rdP br v e i', q, X] (fun r Q => (go i' = none ∧ r = .tuple #[.slice none 0 0, .bool false] ∧ Q = [rdP br v e i', q, X]) ∨ (∃ j l k vv, go i' = some j ∧ u j = .ok (l, k) ∧ r = .tuple #[vv, .bool true] ∧ Q = [own 78 3 l.length vv (nodesV l), rdP br v e k, q, X]))
      (fun x Q => ∃ j k, go i' = some j ∧ u j = .error k ∧ x = wrongV (placeAt ms e k) ∧ Q = [rdP br v e k, q, X]))
    (v0 : Value) (l0 : List NodeD) (a : Nat) (ha : a < i) (hl0 : l0.length + 1 ≤ 2 * (i - a)) :
    FnX Tryz.prog 144 #[v0, i64 (kind : Nat), y] [own 78 3 l0.length v0 (nodesV l0), rdP br v e i, q, X]
      (fun r Q => ∃ l k, manyR kind (manyL u go ms.length l0 1 i) = .ok (l, k) ∧ Q = [own 78 3 l.length r (nodesV l), rdP br v e k, q, X])
      (fun x Q => ∃ k, manyR kind (manyL u go ms.length l0 1 i) = .error k ∧ x = wrongV (placeAt ms e k) ∧ Q = [rdP br v e k, q, X]) := by
  refine FnX.mk Tryz.func144 rfl rfl fun w0 F => ?_
  generalize hfin : manyL u go ms.length l0 1 i = fin
  refine .seq (.region (.assign rfl rfl (.nil (kthen_n (.seq (.region (.move rfl rfl (.assign rfl rfl (.assign rfl rfl (.nil (kthen_n (.seq (.block ?_)))))))))))))
  refine G.loopI (σ := List NodeD × Nat × Nat × Value) (fun z => [(0, v0), (1, i64 (kind : Nat)), (2, y), (7, z.2.2.2), (8, i64 (z.2.1 : Nat))]) (fun z => own 78 3 z.1.length z.2.2.2 (nodesV z.1) :: rdP br v e z.2.2.1 :: q :: X :: F)
    (fun z => 1 ≤ z.2.1 ∧ (z.2.1 = 1 → z.1 = l0 ∧ z.2.2.2 = v0) ∧ i ≤ z.2.2.1 ∧ z.2.2.1 ≤ ms.length ∧ z.1.length + z.2.1 ≤ 2 * (z.2.2.1 - a) ∧ ∃ f, ms.length - z.2.2.1 ≤ f ∧ manyL u go f z.1 z.2.1 z.2.2.1 = fin) (fun z => ms.length - z.2.2.1) (l0, 1, i, v0) ⟨Nat.le_refl _, fun _ => ⟨rfl, rfl⟩, Nat.le_refl _, hi, hl0, ms.length, by dsimp only; omega, hfin⟩ ?_ ?_ ?_
  · exact .c rfl rfl (.c rfl rfl (.c rfl rfl (.c rfl rfl (.c rfl rfl .n))))
  · refine ImpS.sb ?_
    exact .c .h (.c .h (.c .h (.c .h .r)))
  clear hfin hl0
  rintro ⟨l, n, k, r⟩ ⟨hn, hn1, h1, h2, h3, f, hf, hfin⟩
  dsimp only at hn hn1 h1 h2 h3 hf hfin ⊢
  refine .block (.seq (.region (.move rfl rfl ?_)))
  refine GO.callXV0 rfl rfl (hy k h1 h2) (Tks.c (Tk.t Tk.h) (Tks.c (Tk.t Tk.h) (Tks.c (Tk.t Tk.h) Tks.n))) ?_ ?_
  · rintro _ _ ⟨j, k', hgo, huj, rfl, rfl⟩
    have := hg _ _ hgo
    obtain ⟨f, rfl⟩ : ∃ g, f = g + 1 := ⟨f - 1, by omega⟩
    simp only [manyL] at hfin
    rw [hgo] at hfin
    dsimp only at hfin
    rw [huj] at hfin
    subst hfin
    repeat (first | refine kthen_p ?_ | refine kblock_p ?_ | refine kscope_p ?_)
    refine KFX.p ⟨k', rfl, rfl, rfl⟩ (ImpS.sb ?_)
    exact .c .h (.c .h (.c .h (.s .r)))
  rintro _ _ (⟨hgo, rfl, rfl⟩ | ⟨j, l', k', vv, hgo, huj, rfl, rfl⟩)
  · have hend : fin = .ok ((l, n), k) := by
      cases f with
      | zero => exact hfin.symm
      | succ f => simp only [manyL] at hfin; rw [hgo] at hfin; exact hfin.symm
    subst hend
    (refine .move rfl rfl (.extract rfl rfl rfl (.extract rfl rfl rfl (.assign rfl rfl (.assign rfl rfl (.nil (kthen_n (.seq (.seq (.region (.move rfl rfl (.not rfl rfl (.nil (kthen_n (.condT rfl rfl (.exit ?_))))))))))))))); refine kthen_x (kblock_o rfl (kthen_x (kblock_x (kthen_n (.seq (.seq (.region (.move rfl rfl (.eqi rfl rfl rfl (.nil (kthen_n ?_))))))))))))
    by_cases c1 : n = 1
    · obtain ⟨rfl, rfl⟩ := hn1 c1
      subst c1
      refine .condT rfl rfl (.seq (.region (.move rfl rfl (.assign rfl rfl (.nil (kthen_n (.ret (kthen_r ?_))))))))
      refine KFX.r1 rfl (RV.t rfl) ⟨l, k, rfl, rfl⟩ (ImpS.sb ?_)
      exact .c (.t (.t (.t .h))) (.c .h (.c .h (.c .h .r)))
    · have d1 : decide ((n : Int) = 1) = false := decide_eq_false (by omega)
      refine .condF rfl (by assumption) (.skip (kthen_n (.seq (.region (.move rfl rfl (.move rfl rfl ?_))))))
      refine GO.buildP2 (built_nodeK kind n) rfl rfl rfl ?_
      skip
      refine GO.buildSlice1 rfl rfl (by simp; rfl) rfl ⟨by omega, by omega⟩ fun bs => ?_
      refine GO.ownIn (n := 1) (sz := 3) Tk.h rfl (by decide) ?_
      refine GO.ownRd (n := l.length) (xs := nodesV l) (Tk.t (Tk.t (Tk.t (Tk.t Tk.h)))) fun q2 hq2 => ?_
      refine .move rfl rfl ?_
      refine GO.appendFrom (n := 1) (m := l.length) (q := q2) rfl rfl rfl (Tk.t Tk.h) Tk.h hq2 (nodesV_one l) ⟨by decide, rfl⟩ (by unfold maxLen; omega) (by omega) fun v' => ?_
      rw [show 1 + l.length = ((⟨kind, [], n⟩ : NodeD) :: l).length by rw [List.length_cons]; omega]
      refine .assign rfl rfl (.nil (kthen_n (.ret ?_)))
      refine KFX.r1 rfl (RV.t rfl) ⟨⟨kind, [], n⟩ :: l, k, by unfold manyR; dsimp only; rw [if_neg c1], rfl⟩ (ImpS.sb ?_)
      exact .c .h (.c (.t .h) (.c (.t .h) (.c (.t .h) (.s .r))))
  · have hlt := hg _ _ hgo
    obtain ⟨g1, g2, g3⟩ := hu _ _ _ huj
    obtain ⟨f, rfl⟩ : ∃ g, f = g + 1 := ⟨f - 1, by omega⟩
    simp only [manyL] at hfin
    rw [hgo] at hfin
    dsimp only at hfin
    rw [huj] at hfin
    dsimp only at hfin
    (refine .move rfl rfl (.extract rfl rfl rfl (.extract rfl rfl rfl (.assign rfl rfl (.assign rfl rfl (.nil (kthen_n (.seq (.seq (.region (.move rfl rfl (.not rfl rfl (.nil (kthen_n (.condF rfl rfl (.skip ?_))))))))))))))); refine kthen_n (.seq (.region (.move rfl rfl (.move rfl rfl ?_)))))
    refine GO.ownRd (n := l'.length) (v := vv) (xs := nodesV l') Tk.h fun q2 hq2 => ?_
    skip
    refine GO.appendFrom (n := l.length) (xs := nodesV l) (m := l'.length) (q := q2) rfl rfl rfl (Tk.t (Tk.t (Tk.t (Tk.t Tk.h)))) Tk.h hq2 (nodesV_one l') ⟨by decide, rfl⟩ (by unfold maxLen; omega) (by omega) fun v' => ?_
    rw [← nodesV_app, ← List.length_append]
    refine .assign rfl rfl (.nil (kthen_n (.region (.move rfl rfl (.addi rfl rfl rfl (by omega) (.assign rfl rfl (.nil (kblock_n (kthen_n ?_)))))))))
    refine ⟨(l ++ l', n + 1, k', v'), ⟨by dsimp only; omega, fun h => by dsimp only at h; omega, by dsimp only; omega, g2, by dsimp only; rw [List.length_append]; omega, f, by dsimp only; omega, hfin⟩, by dsimp only; omega, ?_, ImpS.sb ?_⟩
    · exact .c rfl rfl (.c rfl rfl (.c rfl rfl (.c rfl rfl (.c rfl rfl .n))))
    · exact .c .h (.c (.t .h) (.c (.t .h) (.c (.t .h) (.s .r))))
end Go.Proofs.YtbconcohpfkncaaGreat
namespace Go.Proofs.YtbconcohpfkncaaGreat
open Go
theorem goU_lt {ms : List MarkD} {i j : Nat} (h : goU ms i = some j) : i ≤ j ∧ i < ms.length := by
  refine ⟨goU_le h, ?_⟩
  unfold goU at h
  split at h
  · rename_i hb
    refine kAt_lt fun h0 => ?_
    rw [h0] at hb
    exact absurd hb (by decide)
  · cases h
theorem goA_lt {ms : List MarkD} {i j : Nat} (h : goA ms i = some j) : i ≤ j ∧ i < ms.length := by
  refine ⟨goA_le h, ?_⟩
  unfold goA at h
  split at h
  · exact kAt_lt (by omega)
  · cases h
abbrev bxP (b1 br : Nat) : HP := pt b1 (row [ptrV br] 170)
attribute [local irreducible] G GO GR GT Fn FnX FnV FnXV pt init exs pur sat own ImpS kAt placeAt
set_option maxHeartbeats 16000000 in
theorem part1_spec (q : HP) (v : Value) (ms : List MarkD) (hq : MarksR q v ms) (br b1 e i : Nat) (hi : i ≤ ms.length) (hms : ¬ 1048576 < ms.length) (ex : Nat → PR) (hin : ∀ j, i ≤ j → j ≤ ms.length → FnX Tryz.prog 160 #[ptrV br] [rdP br v e j, q] (ResR q br v e (unitF ms ex j)) (ResE q br v ms e (unitF ms ex j))) :
    FnX Tryz.prog 161 #[ptrV b1] [rdP br v e i, q, bxP b1 br] (fun r Q => (goU ms i = none ∧ r = .tuple #[.slice none 0 0, .bool false] ∧ Q = [rdP br v e i, q, bxP b1 br]) ∨ (∃ j l k vv, goU ms i = some j ∧ unitF ms ex j = .ok (l, k) ∧ r = .tuple #[vv, .bool true] ∧ Q = [own 78 3 l.length vv (nodesV l), rdP br v e k, q, bxP b1 br]))
      (fun x Q => ∃ j k, goU ms i = some j ∧ unitF ms ex j = .error k ∧ x = wrongV (placeAt ms e k) ∧ Q = [rdP br v e k, q, bxP b1 br]) := by
  have hkind := rkind_spec q v ms hq br e i hi
  refine FnX.mk Tryz.func161 rfl rfl fun w0 F => ?_
  refine .seq (.region (.assign rfl rfl (.assign rfl rfl (.nil (kthen_n (.seq (.seq (.region (.load1 rfl rfl rfl (.t (.t .h)) rfl ?_)))))))))
  refine GO.call1 rfl rfl (hkind) (Tks.c Tk.h (Tks.c Tk.h Tks.n)) ?_
  rintro _ _ ⟨rfl, rfl⟩
  skip
  refine GO.call1 rfl rfl (begins_spec (kAt ms i)) Tks.n ?_
  rintro _ _ ⟨rfl, rfl⟩
  by_cases hb : beginsK (kAt ms i) = true
  · have hgo : goU ms i = some i := by unfold goU; rw [if_pos hb]
    have hx := hin i (Nat.le_refl _) hi
    clear hin hkind
    generalize hr : unitF ms ex i = res at *
    rw [hb]
    refine .not rfl rfl (.nil (kthen_n (.condF rfl rfl (.skip (kthen_n (.seq (.region (.load1 rfl rfl rfl (.t (.t .h)) rfl ?_))))))))
    refine GO.callX1 rfl rfl (hx) (Tks.c Tk.h (Tks.c Tk.h Tks.n)) ?_ ?_
    · rintro _ _ ⟨k, rfl, rfl, rfl⟩
      repeat (first | refine kthen_p ?_ | refine kblock_p ?_ | refine kscope_p ?_)
      refine KFX.p ⟨_, k, hgo, hr, rfl, rfl⟩ (ImpS.sb ?_)
      exact .c .h (.c .h (.c .h .r))
    rintro r _ ⟨l, k, rfl, rfl⟩
    refine GO.ownOne Tk.h fun hone => ?_
    refine .assign rfl rfl (.assign rfl rfl (.nil (kthen_n (.ret ?_))))
    refine KFX.r2 rfl (RV.t rfl) (RV.t rfl) (.inr ⟨_, l, k, r, hgo, hr, rfl, rfl⟩) (ImpS.sb ?_)
    exact .c .h (.c .h (.c .h (.c .h .r)))
  · have hgo : goU ms i = none := by unfold goU; rw [if_neg hb]
    have hb2 : beginsK (kAt ms i) = false := by simpa using hb
    rw [hb2]
    refine .not rfl rfl (.nil (kthen_n (.condT rfl rfl (.seq (.region (.assign rfl rfl (.assign rfl rfl (.nil (kthen_n (.ret (kthen_r ?_)))))))))))
    refine KFX.r2 rfl (RV.t rfl) (RV.t rfl) (.inl ⟨hgo, rfl, rfl⟩) (ImpS.sb ?_)
    exact .c .h (.c .h (.c .h .r))
set_option maxHeartbeats 16000000 in
theorem part_spec (q : HP) (v : Value) (ms : List MarkD) (hq : MarksR q v ms) (br e i : Nat) (hi : i ≤ ms.length) (hms : ¬ 1048576 < ms.length) (ex : Nat → PR) (hgo : Goes ms (unitF ms ex)) (hin : ∀ j, i ≤ j → j ≤ ms.length → FnX Tryz.prog 160 #[ptrV br] [rdP br v e j, q] (ResR q br v e (unitF ms ex j)) (ResE q br v ms e (unitF ms ex j))) :
    FnX Tryz.prog 145 #[ptrV br] [rdP br v e i, q] (ResR q br v e (partF ms ex i)) (ResE q br v ms e (partF ms ex i)) := by
  have h0 := hin i (Nat.le_refl _) hi
  have hgi := hgo i
  unfold partF
  generalize hr : unitF ms ex i = ri at h0 hgi ⊢
  refine FnX.mk Tryz.func145 rfl rfl fun w0 F => ?_
  refine .seq (.region (.box rfl rfl rfl fun b1 => .assign rfl rfl (.nil (kthen_n (.seq (.region (.load1 rfl rfl rfl .h rfl ?_)))))))
  refine GO.callX1 rfl rfl (h0) (Tks.c (Tk.t Tk.h) (Tks.c (Tk.t Tk.h) Tks.n)) ?_ ?_
  · rintro _ _ ⟨k, rfl, rfl, rfl⟩
    repeat (first | refine kthen_p ?_ | refine kblock_p ?_ | refine kscope_p ?_)
    refine KFX.p ⟨k, rfl, rfl, rfl⟩ (ImpS.sb ?_)
    exact .c .h (.c .h (.s .r))
  rintro r _ ⟨l, k, rfl, rfl⟩
  obtain ⟨g1, g2, g3⟩ := hgi l k rfl
  have hm := many_spec q (bxP b1 br) v ms br e k g2 hms (unitF ms ex) (goU ms) hgo (fun _ _ => goU_lt) (.func (.func 161) #[] #[ptrV b1]) 4 (fun j hj hj2 => FnXV.of (args := []) (caps := [ptrV b1]) (part1_spec q v ms hq br b1 e j hj2 hms ex fun k' hk hk2 => hin k' (by omega) hk2)) r l i g1 g3
  clear hin hq h0
  dsimp only
  refine .makeFunc1 rfl rfl ?_
  refine GO.callX3 rfl rfl rfl rfl (hm) (Tks.c Tk.h (Tks.c Tk.h (Tks.c Tk.h (Tks.c Tk.h Tks.n)))) ?_ ?_
  · rintro _ _ ⟨k', hr', rfl, rfl⟩
    repeat (first | refine kthen_p ?_ | refine kblock_p ?_ | refine kscope_p ?_)
    refine KFX.p ⟨k', hr', rfl, rfl⟩ (ImpS.sb ?_)
    exact .c .h (.c .h (.s .r))
  rintro r' _ ⟨l', k', hr', rfl⟩
  refine .assign rfl rfl (.nil (kthen_n (.ret ?_)))
  refine KFX.r1 rfl (RV.t rfl) ⟨l', k', hr', rfl⟩ (ImpS.sb ?_)
  exact .c .h (.c .h (.c .h (.s .r)))
set_option maxHeartbeats 16000000 in
theorem expression1_spec (q : HP) (v : Value) (ms : List MarkD) (hq : MarksR q v ms) (br b1 e i : Nat) (hi : i ≤ ms.length) (hms : ¬ 1048576 < ms.length) (ex : Nat → PR) (hin : ∀ j, i ≤ j → j ≤ ms.length → FnX Tryz.prog 145 #[ptrV br] [rdP br v e j, q] (ResR q br v e (partF ms ex j)) (ResE q br v ms e (partF ms ex j))) :
    FnX Tryz.prog 146 #[ptrV b1] [rdP br v e i, q, bxP b1 br] (fun r Q => (goA ms i = none ∧ r = .tuple #[.slice none 0 0, .bool false] ∧ Q = [rdP br v e i, q, bxP b1 br]) ∨ (∃ j l k vv, goA ms i = some j ∧ partF ms ex j = .ok (l, k) ∧ r = .tuple #[vv, .bool true] ∧ Q = [own 78 3 l.length vv (nodesV l), rdP br v e k, q, bxP b1 br]))
      (fun x Q => ∃ j k, goA ms i = some j ∧ partF ms ex j = .error k ∧ x = wrongV (placeAt ms e k) ∧ Q = [rdP br v e k, q, bxP b1 br]) := by
  have hkind := rkind_spec q v ms hq br e i hi
  refine FnX.mk Tryz.func146 rfl rfl fun w0 F => ?_
  refine .seq (.region (.assign rfl rfl (.assign rfl rfl (.nil (kthen_n (.seq (.seq (.region (.load1 rfl rfl rfl (.t (.t .h)) rfl ?_)))))))))
  refine GO.call1 rfl rfl (hkind) (Tks.c Tk.h (Tks.c Tk.h Tks.n)) ?_
  rintro _ _ ⟨rfl, rfl⟩
  by_cases hb : kAt ms i = 6
  · have hgo : goA ms i = some (i + 1) := by unfold goA; rw [if_pos hb]
    have hlt := kAt_lt (ms := ms) (i := i) (by omega)
    have hx := hin (i + 1) (by omega) hlt
    have d6 : decide ((kAt ms i : Int) ≠ 6) = false := decide_eq_false (by omega)
    clear hin hkind
    generalize hr : partF ms ex (i + 1) = res at *
    (refine .nei rfl rfl rfl (.nil (kthen_n (.condF rfl (by assumption) (.skip (kthen_n (.seq (.region (.load1 rfl rfl rfl (.t (.t .h)) rfl (.nilCheck rfl rfl (.fieldAddr rfl rfl (.load1 rfl rfl rfl .h rfl (.addi rfl rfl rfl (by omega) (.nilCheck rfl rfl (.fieldAddr rfl rfl (.store1 rfl rfl rfl .h (by simp) ?_))))))))))))))); refine .nil (kthen_n (.seq (.region (.load1 rfl rfl rfl (.t (.t .h)) rfl ?_)))))
    refine GO.callX1 rfl rfl (hx) (Tks.c Tk.h (Tks.c Tk.h Tks.n)) ?_ ?_
    · rintro _ _ ⟨k, rfl, rfl, rfl⟩
      repeat (first | refine kthen_p ?_ | refine kblock_p ?_ | refine kscope_p ?_)
      refine KFX.p ⟨_, k, hgo, hr, rfl, rfl⟩ (ImpS.sb ?_)
      exact .c .h (.c .h (.c .h .r))
    rintro r _ ⟨l, k, rfl, rfl⟩
    refine GO.ownOne Tk.h fun hone => ?_
    refine .assign rfl rfl (.assign rfl rfl (.nil (kthen_n (.ret ?_))))
    refine KFX.r2 rfl (RV.t rfl) (RV.t rfl) (.inr ⟨_, l, k, r, hgo, hr, rfl, rfl⟩) (ImpS.sb ?_)
    exact .c .h (.c .h (.c .h (.c .h .r)))
  · have hgo : goA ms i = none := by unfold goA; rw [if_neg hb]
    have d6 : decide ((kAt ms i : Int) ≠ 6) = true := decide_eq_true (by omega)
    refine .nei rfl rfl rfl (.nil (kthen_n (.condT rfl (by assumption) (.seq (.region (.assign rfl rfl (.assign rfl rfl (.nil (kthen_n (.ret (kthen_r ?_)))))))))))
    refine KFX.r2 rfl (RV.t rfl) (RV.t rfl) (.inl ⟨hgo, rfl, rfl⟩) (ImpS.sb ?_)
    exact .c .h (.c .h (.c .h .r))
set_option maxHeartbeats 16000000 in
theorem expression_spec (q : HP) (v : Value) (ms : List MarkD) (hq : MarksR q v ms) (br e i : Nat) (hi : i ≤ ms.length) (hms : ¬ 1048576 < ms.length) (ex : Nat → PR) (hgo : Goes ms (partF ms ex)) (hin : ∀ j, i ≤ j → j ≤ ms.length → FnX Tryz.prog 145 #[ptrV br] [rdP br v e j, q] (ResR q br v e (partF ms ex j)) (ResE q br v ms e (partF ms ex j))) :
    FnX Tryz.prog 106 #[ptrV br] [rdP br v e i, q] (ResR q br v e ((match partF ms ex i with | .error j => .error j | .ok (l, j) => manyR 5 (manyL (partF ms ex) (goA ms) ms.length l 1 j)))) (ResE q br v ms e ((match partF ms ex i with | .error j => .error j | .ok (l, j) => manyR 5 (manyL (partF ms ex) (goA ms) ms.length l 1 j)))) := by
  have h0 := hin i (Nat.le_refl _) hi
  have hgi := hgo i
  generalize hr : partF ms ex i = ri at h0 hgi ⊢
  refine FnX.mk Tryz.func106 rfl rfl fun w0 F => ?_
  refine .seq (.region (.box rfl rfl rfl fun b1 => .assign rfl rfl (.nil (kthen_n (.seq (.region (.load1 rfl rfl rfl .h rfl ?_)))))))
  refine GO.callX1 rfl rfl (h0) (Tks.c (Tk.t Tk.h) (Tks.c (Tk.t Tk.h) Tks.n)) ?_ ?_
  · rintro _ _ ⟨k, rfl, rfl, rfl⟩
    repeat (first | refine kthen_p ?_ | refine kblock_p ?_ | refine kscope_p ?_)
    refine KFX.p ⟨k, rfl, rfl, rfl⟩ (ImpS.sb ?_)
    exact .c .h (.c .h (.s .r))
  rintro r _ ⟨l, k, rfl, rfl⟩
  obtain ⟨g1, g2, g3⟩ := hgi l k rfl
  have hm := many_spec q (bxP b1 br) v ms br e k g2 hms (partF ms ex) (goA ms) hgo (fun _ _ => goA_lt) (.func (.func 146) #[] #[ptrV b1]) 5 (fun j hj hj2 => FnXV.of (args := []) (caps := [ptrV b1]) (expression1_spec q v ms hq br b1 e j hj2 hms ex fun k' hk hk2 => hin k' (by omega) hk2)) r l i g1 g3
  clear hin hq h0
  dsimp only
  refine .makeFunc1 rfl rfl ?_
  refine GO.callX3 rfl rfl rfl rfl (hm) (Tks.c Tk.h (Tks.c Tk.h (Tks.c Tk.h (Tks.c Tk.h Tks.n)))) ?_ ?_
  · rintro _ _ ⟨k', hr', rfl, rfl⟩
    repeat (first | refine kthen_p ?_ | refine kblock_p ?_ | refine kscope_p ?_)
    refine KFX.p ⟨k', hr', rfl, rfl⟩ (ImpS.sb ?_)
    exact .c .h (.c .h (.s .r))
  rintro r' _ ⟨l', k', hr', rfl⟩
  refine .assign rfl rfl (.nil (kthen_n (.ret ?_)))
  refine KFX.r1 rfl (RV.t rfl) ⟨l', k', hr', rfl⟩ (ImpS.sb ?_)
  exact .c .h (.c .h (.c .h (.s .r)))
/-- An expression is read as told. -/
theorem expr_ok (q : HP) (v : Value) (ms : List MarkD) (hq : MarksR q v ms) (br e : Nat) (hms : ¬ 1048576 < ms.length) : ∀ (f i : Nat), i ≤ ms.length → ms.length - i < f → ExOK q br v ms e i (exprF ms f i)
  | 0, i, _, h => by omega
  | f + 1, i, hi, h => by
    have ih := expr_ok q v ms hq br e hms f
    have hu : ∀ j, i ≤ j → j ≤ ms.length → FnX Tryz.prog 160 #[ptrV br] [rdP br v e j, q] (ResR q br v e (unitF ms (exprF ms f) j)) (ResE q br v ms e (unitF ms (exprF ms f) j)) := fun j hj hj2 =>
      unit_spec q v ms hq br e j hj2 hms (exprF ms f) (exprF_goes ms f) fun k hk hk2 => ih k hk2 (by omega)
    have hp : ∀ j, i ≤ j → j ≤ ms.length → FnX Tryz.prog 145 #[ptrV br] [rdP br v e j, q] (ResR q br v e (partF ms (exprF ms f) j)) (ResE q br v ms e (partF ms (exprF ms f) j)) := fun j hj hj2 =>
      part_spec q v ms hq br e j hj2 hms (exprF ms f) (unitF_goes (exprF_goes ms f)) fun k hk hk2 => hu k (by omega) hk2
    exact expression_spec q v ms hq br e i hi hms (exprF ms f) (partF_goes (exprF_goes ms f)) hp
end Go.Proofs.YtbconcohpfkncaaGreat
namespace Go.Proofs.YtbconcohpfkncaaGreat
open Go
theorem takeWhile_take {α : Type} (f : α → Bool) : ∀ (l : List α) (n : Nat), (l.take n).takeWhile f = (l.takeWhile f).take n
  | [], n => by simp
  | x :: l, 0 => by simp
  | x :: l, n + 1 => by
    rw [List.take_succ_cons, List.takeWhile_cons, List.takeWhile_cons]
    split
    · rw [List.take_succ_cons, takeWhile_take f l n]
    · rfl
theorem run_cut (f : UInt8 → Bool) (s : List UInt8) {i p : Nat} (h1 : i ≤ p) (h2 : p ≤ s.length) : i + (((s.take p).drop i).takeWhile f).length = min p (i + ((s.drop i).takeWhile f).length) := by
  rw [List.drop_take, takeWhile_take, List.length_take]
  omega
theorem skipN_cut (s : List UInt8) {i p : Nat} (h1 : i ≤ p) (h2 : p ≤ s.length) : skipN (s.take p) i = min p (skipN s i) := run_cut blankB s h1 h2
theorem wordN_cut (s : List UInt8) {i p : Nat} (h1 : i ≤ p) (h2 : p ≤ s.length) : wordN (s.take p) i = min p (wordN s i) := run_cut innerB s h1 h2
theorem nextM_place (s : List UInt8) (i : Nat) : (nextM s i).place = skipN s i := by
  unfold nextM
  cases s[skipN s i]? with
  | none => rfl
  | some b =>
    dsimp only
    split
    · rfl
    · split <;> rfl
/-- Cut ahead of the next mark. -/
theorem nextM_before {s : List UInt8} {i p : Nat} (h1 : i ≤ p) (h2 : p ≤ s.length) (h : p ≤ (nextM s i).place) : nextM (s.take p) i = ⟨0, p, []⟩ := by
  rw [nextM_place] at h
  have e : skipN (s.take p) i = p := by rw [skipN_cut s h1 h2]; omega
  unfold nextM
  rw [e, List.getElem?_eq_none (by rw [List.length_take]; omega)]
theorem nextM_behind {s : List UInt8} {i p : Nat} (h2 : p ≤ s.length) (hk : (nextM s i).kind ≠ 0) (h : (nextM s i).place + (nextM s i).text.length ≤ p) (hi : i ≤ s.length) : nextM (s.take p) i = nextM s i := by
  obtain ⟨g1, g2, g3⟩ := nextM_le hi
  have hp := g3 hk
  rw [nextM_place] at g1 h g2
  have h1 : i ≤ p := Nat.le_trans g1 (by omega)
  have e : skipN (s.take p) i = skipN s i := by rw [skipN_cut s h1 h2]; omega
  unfold nextM at hk h hp ⊢
  rw [e]
  have eg : (s.take p)[skipN s i]? = s[skipN s i]? := by rw [List.getElem?_take, if_pos (by omega)]
  rw [eg]
  cases hb : s[skipN s i]? with
  | none => exact absurd (by rw [hb]) hk
  | some b =>
    rw [hb] at h hp hk
    dsimp only at h hp hk ⊢
    have hlt : skipN s i < s.length := (List.getElem?_eq_some_iff.1 hb).1
    split
    · rfl
    · rename_i hk0
      rw [if_neg hk0] at h hp
      split
      · rename_i hk3
        rw [if_pos hk3] at h hp
        simp only at h hp
        have hw : wordN s (skipN s i + 1) ≤ s.length := wordN_le (by omega)
        rw [List.length_take, List.length_drop] at h
        have hw2 : skipN s i + 1 ≤ wordN s (skipN s i + 1) := by unfold wordN; omega
        rw [wordN_cut s (by omega) h2, show min p (wordN s (skipN s i + 1)) = wordN s (skipN s i + 1) by omega, List.drop_take, List.take_take]
        congr 2
        omega
      · rename_i hk3
        rw [if_neg hk3] at h hp
        rw [List.drop_take, List.take_take]
        simp only [List.length_take, List.length_drop] at h
        congr 2
        omega
theorem scan_ge (s : List UInt8) : ∀ (f i j : Nat), i ≤ s.length → s.length - i < f → i ≤ placeAt (scanL s f i) (scanE s f i) j ∧ placeAt (scanL s f i) (scanE s f i) j ≤ s.length
  | 0, _, _, _, h => by omega
  | f + 1, i, j, hi, hf => by
    obtain ⟨h1, h2, h3⟩ := nextM_le hi
    simp only [scanL, scanE]
    by_cases hk : (nextM s i).kind = 0
    · rw [if_pos hk, if_pos hk]
      show i ≤ (nextM s i).place ∧ (nextM s i).place ≤ s.length
      omega
    · rw [if_neg hk, if_neg hk]
      have := h3 hk
      cases j with
      | zero => show i ≤ (nextM s i).place ∧ (nextM s i).place ≤ s.length; omega
      | succ j =>
        have := scan_ge s f _ j h2 (by omega)
        show i ≤ placeAt (scanL s f _) (scanE s f _) j ∧ placeAt (scanL s f _) (scanE s f _) j ≤ s.length
        omega
theorem scan_stop {s : List UInt8} {i : Nat} (f : Nat) (h : (nextM s i).kind = 0) : scanL s (f + 1) i = [] ∧ scanE s (f + 1) i = (nextM s i).place := by
  simp only [scanL, scanE]
  rw [if_pos h, if_pos h]
  exact ⟨rfl, rfl⟩
theorem scan_go {s : List UInt8} {i : Nat} (f : Nat) (h : (nextM s i).kind ≠ 0) : scanL s (f + 1) i = nextM s i :: scanL s f ((nextM s i).place + (nextM s i).text.length) ∧ scanE s (f + 1) i = scanE s f ((nextM s i).place + (nextM s i).text.length) := by
  simp only [scanL, scanE]
  rw [if_neg h, if_neg h]
  exact ⟨rfl, rfl⟩
theorem scan_before {s : List UInt8} {i p : Nat} (f : Nat) (h1 : i ≤ p) (h2 : p ≤ s.length) (h : p ≤ (nextM s i).place) : scanL (s.take p) (f + 1) i = [] ∧ scanE (s.take p) (f + 1) i = p := by
  have e := nextM_before h1 h2 h
  have := scan_stop (s := s.take p) (i := i) f (by rw [e])
  rw [e] at this
  exact this
/-- The marks of a text that is cut ahead of its j-th mark, or behind its last. -/
theorem scan_cut (s : List UInt8) : ∀ (f i j f' : Nat), i ≤ s.length → s.length - i < f → j ≤ (scanL s f i).length → placeAt (scanL s f i) (scanE s f i) j - i < f' →
    scanL (s.take (placeAt (scanL s f i) (scanE s f i) j)) f' i = (scanL s f i).take j ∧ scanE (s.take (placeAt (scanL s f i) (scanE s f i) j)) f' i = placeAt (scanL s f i) (scanE s f i) j
  | 0, _, _, _, _, h, _, _ => by omega
  | f + 1, i, j, 0, hi, hf, hj, hf' => by omega
  | f + 1, i, j, f' + 1, hi, hf, hj, hf' => by
    obtain ⟨h1, h2, h3⟩ := nextM_le hi
    obtain ⟨g1, g2⟩ := scan_ge s (f + 1) i j hi hf
    by_cases hk : (nextM s i).kind = 0
    · obtain ⟨e1, e2⟩ := scan_stop f hk
      rw [e1, e2] at g1 g2 hf' ⊢
      change i ≤ (nextM s i).place at g1
      change (nextM s i).place ≤ s.length at g2
      change scanL (s.take (nextM s i).place) (f' + 1) i = [].take j ∧ scanE (s.take (nextM s i).place) (f' + 1) i = (nextM s i).place
      rw [List.take_nil]
      exact scan_before f' g1 g2 (Nat.le_refl _)
    · obtain ⟨e1, e2⟩ := scan_go f hk
      rw [e1] at hj
      rw [e1, e2] at g1 g2 hf' ⊢
      have := h3 hk
      cases j with
      | zero => exact scan_before f' g1 g2 (Nat.le_refl _)
      | succ j =>
        have hge := (scan_ge s f ((nextM s i).place + (nextM s i).text.length) j h2 (by omega)).1
        simp only [List.length_cons] at hj
        change placeAt (scanL s f _) (scanE s f _) j ≤ s.length at g2
        change placeAt (scanL s f _) (scanE s f _) j - i < f' + 1 at hf'
        generalize hi2 : (nextM s i).place + (nextM s i).text.length = i2 at *
        change scanL (s.take (placeAt (scanL s f i2) (scanE s f i2) j)) (f' + 1) i = nextM s i :: (scanL s f i2).take j ∧ scanE (s.take (placeAt (scanL s f i2) (scanE s f i2) j)) (f' + 1) i = placeAt (scanL s f i2) (scanE s f i2) j
        have hb := nextM_behind g2 hk (by omega) hi
        obtain ⟨k1, k2⟩ := scan_cut s f i2 j f' h2 (by omega) (by omega) (by omega)
        generalize placeAt (scanL s f i2) (scanE s f i2) j = p at *
        obtain ⟨d1, d2⟩ := scan_go (s := s.take p) (i := i) f' (by rw [hb]; exact hk)
        rw [d1, d2, hb, hi2, k1, k2]
        exact ⟨rfl, rfl⟩
theorem marks_cut (s : List UInt8) {j : Nat} (hj : j ≤ (marksF s).length) : marksF (s.take (placeAt (marksF s) (badF s) j)) = (marksF s).take j ∧ badF (s.take (placeAt (marksF s) (badF s) j)) = placeAt (marksF s) (badF s) j := by
  have hle := (scan_ge s (s.length + 1) 0 j (Nat.zero_le _) (by omega)).2
  have := scan_cut s (s.length + 1) 0 j ((s.take (placeAt (marksF s) (badF s) j)).length + 1) (Nat.zero_le _) (by omega) hj (by
    change _ ≤ _ at hle
    rw [List.length_take]
    unfold marksF badF
    omega)
  exact this
theorem placeAt_le (s : List UInt8) (j : Nat) : placeAt (marksF s) (badF s) j ≤ s.length := (scan_ge s (s.length + 1) 0 j (Nat.zero_le _) (by omega)).2
theorem marks_all (s : List UInt8) : marksF (s.take (badF s)) = marksF s ∧ badF (s.take (badF s)) = badF s := by
  have := marks_cut s (Nat.le_refl (marksF s).length)
  rw [placeAt_none (Nat.le_refl _), List.take_length] at this
  exact this
/-! ## Behind a place -/
/-- From the place of the j-th mark on. -/
theorem nextM_again {s : List UInt8} {i : Nat} (hk : (nextM s i).kind ≠ 0) : nextM s (nextM s i).place = nextM s i := by
  have hs : skipN s (skipN s i) = skipN s i := by
    have : ∃ b, s[skipN s i]? = some b ∧ blankB b = false := by
      unfold nextM at hk
      cases hb : s[skipN s i]? with
      | none => rw [hb] at hk; exact absurd rfl hk
      | some b =>
        refine ⟨b, rfl, ?_⟩
        rw [hb] at hk
        dsimp only at hk
        cases hbl : blankB b with
        | false => rfl
        | true =>
          refine absurd ?_ hk
          have : kindB b = 0 := by
            unfold blankB at hbl
            simp only [Bool.or_eq_true, decide_eq_true_eq] at hbl
            unfold kindB innerB
            rw [if_neg (by omega), if_neg (by omega), if_neg (by omega), if_neg (by omega), if_neg (by omega), if_neg (by omega), if_neg (by omega), if_neg (by omega), if_neg (by omega), if_neg (by omega), if_neg (by omega), if_neg]
            simp only [Bool.or_eq_true, Bool.and_eq_true, decide_eq_true_eq]
            omega
          rw [if_pos this]
    obtain ⟨b, hb, hbl⟩ := this
    exact run_stop hb hbl
  rw [nextM_place]
  unfold nextM
  rw [hs]
theorem scan_fuel (s : List UInt8) : ∀ (f f' i : Nat), i ≤ s.length → s.length - i < f → s.length - i < f' → scanL s f i = scanL s f' i ∧ scanE s f i = scanE s f' i
  | 0, _, _, _, h, _ => by omega
  | _ + 1, 0, _, _, _, h => by omega
  | f + 1, f' + 1, i, hi, hf, hf' => by
    obtain ⟨h1, h2, h3⟩ := nextM_le hi
    by_cases hk : (nextM s i).kind = 0
    · rw [(scan_stop f hk).1, (scan_stop f hk).2, (scan_stop f' hk).1, (scan_stop f' hk).2]
      exact ⟨rfl, rfl⟩
    · have := h3 hk
      obtain ⟨k1, k2⟩ := scan_fuel s f f' _ h2 (by omega) (by omega)
      rw [(scan_go f hk).1, (scan_go f hk).2, (scan_go f' hk).1, (scan_go f' hk).2, k1, k2]
      exact ⟨rfl, rfl⟩
theorem scan_from (s : List UInt8) : ∀ (f i j f' : Nat), i ≤ s.length → s.length - i < f → j < (scanL s f i).length → s.length - placeAt (scanL s f i) (scanE s f i) j < f' →
    scanL s f' (placeAt (scanL s f i) (scanE s f i) j) = (scanL s f i).drop j ∧ scanE s f' (placeAt (scanL s f i) (scanE s f i) j) = scanE s f i
  | 0, _, _, _, _, h, _, _ => by omega
  | _ + 1, _, _, 0, _, _, _, h => by omega
  | f + 1, i, j, f' + 1, hi, hf, hj, hf' => by
    obtain ⟨h1, h2, h3⟩ := nextM_le hi
    by_cases hk : (nextM s i).kind = 0
    · rw [(scan_stop f hk).1] at hj
      simp at hj
    · have := h3 hk
      obtain ⟨e1, e2⟩ := scan_go f hk
      rw [e1] at hj
      rw [e1, e2] at hf' ⊢
      cases j with
      | zero =>
        change s.length - (nextM s i).place < f' + 1 at hf'
        change scanL s (f' + 1) (nextM s i).place = nextM s i :: _ ∧ scanE s (f' + 1) (nextM s i).place = _
        have ha := nextM_again hk
        obtain ⟨d1, d2⟩ := scan_go (s := s) (i := (nextM s i).place) f' (by rw [ha]; exact hk)
        rw [ha] at d1 d2
        obtain ⟨k1, k2⟩ := scan_fuel s f f' ((nextM s i).place + (nextM s i).text.length) h2 (by omega) (by omega)
        rw [d1, d2, k1, k2]
        exact ⟨rfl, rfl⟩
      | succ j =>
        simp only [List.length_cons] at hj
        exact scan_from s f ((nextM s i).place + (nextM s i).text.length) j (f' + 1) h2 (by omega) (by omega) hf'
end Go.Proofs.YtbconcohpfkncaaGreat
