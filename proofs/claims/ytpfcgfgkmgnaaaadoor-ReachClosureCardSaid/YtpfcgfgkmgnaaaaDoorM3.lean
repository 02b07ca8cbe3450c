/-
  Sparse matrices, third part.
-/
import Derived.Test.YtpfcgfgkmgnaaaaDoorM2
import Derived.Test.YtpfcgfgkmgnaaaaDoorNB
import Derived.Test.YtpfcgfgkmgnaaaaDoorE
import Derived.Scope
namespace Go.Proofs.YtpfcgfgkmgnaaaaDoor
open Go
/-- The cells from a place on, row by row. -/
def restX (X : Nat → Nat → Bool) (K : Nat) : List (Nat × Nat) := ((List.range' K (1048576 - K)).filter fun z => X (z / 1024) (z % 1024)).map fun z => (z / 1024, z % 1024)
/-- All cells of a matrix, rising. -/
def cellsX (X : Nat → Nat → Bool) : List (Nat × Nat) := restX X 0
theorem restX_cut (X : Nat → Nat → Bool) {K K' : Nat} (h1 : K ≤ K') (h2 : K' ≤ 1048576) : restX X K = (((List.range' K (K' - K)).filter fun z => X (z / 1024) (z % 1024)).map fun z => (z / 1024, z % 1024)) ++ restX X K' := by
  unfold restX
  rw [show 1048576 - K = (K' - K) + (1048576 - K') by omega, ← List.range'_append_1, List.filter_append, List.map_append, show K + (K' - K) = K' by omega]
theorem restX_skip {X : Nat → Nat → Bool} {K K' : Nat} (h1 : K ≤ K') (h2 : K' ≤ 1048576) (h : ∀ z, K ≤ z → z < K' → X (z / 1024) (z % 1024) = false) : restX X K = restX X K' := by
  rw [restX_cut X h1 h2, List.filter_eq_nil_iff.2, List.map_nil, List.nil_append]
  intro z hz
  have := List.mem_range'_1.1 hz
  rw [h z (by omega) (by omega)]; simp
theorem restX_end (X : Nat → Nat → Bool) : restX X 1048576 = [] := rfl
theorem restX_row (X : Nat → Nat → Bool) {i r j : Nat} (hi : i < 16) (hr : r < 64) (hj : j < 16) : restX X (65536 * i + 1024 * r + 64 * j) = ((rowL 0 (blkAt X i j r)).map fun p => (64 * i + r, 64 * j + p.2)) ++ restX X (65536 * i + 1024 * r + 64 * (j + 1)) := by
  rw [restX_cut X (K' := 65536 * i + 1024 * r + 64 * (j + 1)) (by omega) (by omega), show 65536 * i + 1024 * r + 64 * (j + 1) - (65536 * i + 1024 * r + 64 * j) = 64 by omega]
  congr 1
  unfold rowL
  rw [List.range'_eq_map_range, List.filter_map, List.map_map, List.map_map]
  have hm : ∀ c, c < 64 → (65536 * i + 1024 * r + 64 * j + c) / 1024 = 64 * i + r ∧ (65536 * i + 1024 * r + 64 * j + c) % 1024 = 64 * j + c := fun c hc => by omega
  rw [List.filter_congr (q := fun c => (blkAt X i j r).getLsbD c) (fun c hc => ?_)]
  · refine List.map_congr_left fun c hc => ?_
    have hc' := hm c (by have := (List.mem_filter.1 hc).1; simpa using this)
    show (_, _) = (_, _)
    rw [hc'.1, hc'.2]
  · have hc' : c < 64 := by simpa using hc
    show X _ _ = _
    rw [(hm c hc').1, (hm c hc').2, blkAt_bit _ _ _ _ _ hc']
theorem restX_get {X : Nat → Nat → Bool} {n k K : Nat} {p : Nat × Nat} {l m : List (Nat × Nat)} (h : (cellsX X).drop n = restX X K) (hl : restX X K = l ++ m) (hk : l[k]? = some p) : (cellsX X)[n + k]? = some p := by
  have h1 := congrArg (fun x : List (Nat × Nat) => x[k]?) h
  simp only [List.getElem?_drop] at h1
  rw [h1, hl, List.getElem?_append_left (List.getElem?_eq_some_iff.1 hk).1, hk]
theorem restX_next {X : Nat → Nat → Bool} {n K : Nat} {l m : List (Nat × Nat)} (h : (cellsX X).drop n = restX X K) (hl : restX X K = l ++ m) : (cellsX X).drop (n + l.length) = m := by
  rw [← List.drop_drop, h, hl, List.drop_append_of_le_length (Nat.le_refl _), List.drop_length, List.nil_append]
theorem restX_le {X : Nat → Nat → Bool} {n K : Nat} {l m : List (Nat × Nat)} (h : (cellsX X).drop n = restX X K) (hl : restX X K = l ++ m) (hn : n ≤ (cellsX X).length) : n + l.length ≤ (cellsX X).length := by
  have := congrArg List.length h
  rw [hl, List.length_drop, List.length_append] at this
  omega
/-! ## A rising list, gone through -/
def UpTo (g : List Nat) (m b : Nat) (f : Nat → Nat) : Prop := ∀ (k z : Nat), g[k]? = some z → (k < m ↔ f z < b)
section
variable {g : List Nat} {m b : Nat} {f : Nat → Nat}
theorem UpTo.ge (h : UpTo g m b f) {z : Nat} (hz : g[m]? = some z) : b ≤ f z := by
  have := h m z hz; omega
theorem UpTo.nil (h : ∀ z ∈ g, b ≤ f z) : UpTo g 0 b f := fun k z hz => by have := h z (List.mem_of_getElem? hz); omega
def StrictF (g : List Nat) (f : Nat → Nat) : Prop := ∀ (a c x y : Nat), a < c → g[a]? = some x → g[c]? = some y → f x < f y
def WeakF (g : List Nat) (f : Nat → Nat) : Prop := ∀ (a c x y : Nat), a < c → g[a]? = some x → g[c]? = some y → f x ≤ f y
theorem UpTo.step (hs : StrictF g f) {z : Nat} (hz : g[m]? = some z) : UpTo g (m + 1) (f z + 1) f := fun k y hy => by
  rcases Nat.lt_trichotomy k m with h | h | h
  · have := hs k m y z h hy hz; omega
  · subst h; rw [hz] at hy; obtain rfl : z = y := by simpa using hy
    omega
  · have := hs m k z y h hz hy; omega
theorem UpTo.gap (h : UpTo g m b f) (hs : StrictF g f) {z y : Nat} (hz : g[m]? = some z) (hy : y ∈ g) (hl : f y < f z) : f y < b := by
  obtain ⟨k, hk⟩ := List.mem_iff_getElem?.1 hy
  refine (h k y hk).1 ?_
  apply Classical.byContradiction
  intro hn
  rcases Nat.lt_or_ge m k with h' | h'
  · have := hs m k z y h' hz hk; omega
  · obtain rfl : k = m := by omega
    rw [hz] at hk; obtain rfl : z = y := by simpa using hk
    omega
theorem UpTo.gapW (h : UpTo g m b f) (hs : ∀ (a c x y : Nat), a < c → g[a]? = some x → g[c]? = some y → f x ≤ f y) {z y : Nat} (hz : g[m]? = some z) (hy : y ∈ g) (hl : f y < f z) : f y < b := by
  obtain ⟨k, hk⟩ := List.mem_iff_getElem?.1 hy
  refine (h k y hk).1 ?_
  apply Classical.byContradiction
  intro hn
  rcases Nat.lt_or_ge m k with h' | h'
  · have := hs m k z y h' hz hk; omega
  · obtain rfl : k = m := by omega
    rw [hz] at hk; obtain rfl : z = y := by simpa using hk
    omega
theorem UpTo.all (h : UpTo g m b f) (hm : g.length ≤ m) {y : Nat} (hy : y ∈ g) : f y < b := by
  obtain ⟨k, hk⟩ := List.mem_iff_getElem?.1 hy
  exact (h k y hk).1 (Nat.lt_of_lt_of_le (List.getElem?_eq_some_iff.1 hk).1 hm)
end
theorem strict_of {l : List Nat} (h : l.Pairwise (fun a b => a < b)) : StrictF l id := fun a c x y hac hx hy => by
  obtain ⟨ha, rfl⟩ := List.getElem?_eq_some_iff.1 hx
  obtain ⟨hc, rfl⟩ := List.getElem?_eq_some_iff.1 hy
  exact List.pairwise_iff_getElem.1 h a c ha hc hac
theorem posL_upE {X : Nat → Nat → Bool} : StrictF (posL X) id := strict_of (List.Pairwise.filter _ List.pairwise_lt_range)
theorem posL_weak {X : Nat → Nat → Bool} : WeakF (posL X) (fun z => z / 16) := fun a c x y h hx hy => by
  have : x < y := posL_upE a c x y h hx hy
  show x / 16 ≤ y / 16
  omega
/-- The blocks of one row of blocks. -/
def grp (X : Nat → Nat → Bool) (f t : Nat) : List Nat := ((posL X).take t).drop f
theorem grp_get (X : Nat → Nat → Bool) {f t k : Nat} (h : f + k < t) : (grp X f t)[k]? = (posL X)[f + k]? := by
  unfold grp; rw [List.getElem?_drop, List.getElem?_take, if_pos h]
theorem grp_len {X : Nat → Nat → Bool} {f t : Nat} (h : t ≤ (posL X).length) : (grp X f t).length = t - f := by
  unfold grp; rw [List.length_drop, List.length_take]; omega
structure GrpOK (X : Nat → Nat → Bool) (i : Nat) (g : List Nat) : Prop where
  mem : ∀ z, z ∈ g ↔ z ∈ posL X ∧ z / 16 = i
  up : StrictF g (fun z => z % 16)
theorem grp_ok {X : Nat → Nat → Bool} {i f t : Nat} (ht : t ≤ (posL X).length) (h : ∀ k z, (posL X)[k]? = some z → ((f ≤ k ∧ k < t) ↔ z / 16 = i)) : GrpOK X i (grp X f t) := by
  have gk : ∀ k z, (grp X f t)[k]? = some z → f + k < t := fun k z hk => by
    have := (List.getElem?_eq_some_iff.1 hk).1
    rw [grp_len ht] at this; omega
  refine ⟨fun z => ⟨fun hz => ?_, fun ⟨hz, hi⟩ => ?_⟩, fun a c x y hac hx hy => ?_⟩
  · obtain ⟨k, hk⟩ := List.mem_iff_getElem?.1 hz
    have hlt := gk k z hk
    rw [grp_get X hlt] at hk
    exact ⟨List.mem_of_getElem? hk, (h _ _ hk).1 ⟨by omega, hlt⟩⟩
  · obtain ⟨k, hk⟩ := List.mem_iff_getElem?.1 hz
    have hkk := (h k z hk).2 hi
    refine List.mem_iff_getElem?.2 ⟨k - f, ?_⟩
    rw [grp_get X (by omega), show f + (k - f) = k by omega, hk]
  · have h1 := gk a x hx
    have h2 := gk c y hy
    rw [grp_get X h1] at hx
    rw [grp_get X h2] at hy
    have e1 := (h _ _ hx).1 ⟨by omega, h1⟩
    have e2 := (h _ _ hy).1 ⟨by omega, h2⟩
    have : x < y := posL_upE (f + a) (f + c) x y (by omega) hx hy
    show x % 16 < y % 16
    omega
/-! ## Gaps -/
theorem gap_row {X : Nat → Nat → Bool} {i r j0 j : Nat} {g : List Nat} (hg : GrpOK X i g) (hi : i < 16) (hr : r < 64) (hj : j ≤ 16) (hle : j0 ≤ j) (h : ∀ y ∈ g, y % 16 < j → y % 16 < j0) : restX X (65536 * i + 1024 * r + 64 * j0) = restX X (65536 * i + 1024 * r + 64 * j) := by
  refine restX_skip (by omega) (by omega) fun z h1 h2 => ?_
  cases hx : X (z / 1024) (z % 1024) with
  | false => rfl
  | true =>
    exfalso
    have e1 : z / 1024 = 64 * i + r := by omega
    have hm : 16 * i + z % 1024 / 64 ∈ g := by
      refine (hg.mem _).2 ⟨posL_mem.2 ⟨by omega, ?_⟩, by omega⟩
      rw [show (16 * i + z % 1024 / 64) / 16 = i by omega, show (16 * i + z % 1024 / 64) % 16 = z % 1024 / 64 by omega, hasB_iff]
      exact ⟨r, z % 1024 % 64, hr, Nat.mod_lt _ (by decide), by rw [← e1, Nat.div_add_mod]; exact hx⟩
    have := h _ hm (by omega)
    omega
theorem gap_rows {X : Nat → Nat → Bool} {i0 i : Nat} (hi : i ≤ 16) (hle : i0 ≤ i) (h : ∀ y ∈ posL X, y / 16 < i → y / 16 < i0) : restX X (65536 * i0) = restX X (65536 * i) := by
  refine restX_skip (by omega) (by omega) fun z h1 h2 => ?_
  cases hx : X (z / 1024) (z % 1024) with
  | false => rfl
  | true =>
    exfalso
    have hm : 16 * (z / 1024 / 64) + z % 1024 / 64 ∈ posL X := by
      refine posL_mem.2 ⟨by omega, ?_⟩
      rw [show (16 * (z / 1024 / 64) + z % 1024 / 64) / 16 = z / 1024 / 64 by omega, show (16 * (z / 1024 / 64) + z % 1024 / 64) % 16 = z % 1024 / 64 by omega, hasB_iff]
      exact ⟨z / 1024 % 64, z % 1024 % 64, Nat.mod_lt _ (by decide), Nat.mod_lt _ (by decide), by rw [Nat.div_add_mod, Nat.div_add_mod]; exact hx⟩
    have := h _ hm (by omega)
    omega
/-- A row of a block alone. -/
theorem cellsL_one (x : BitVec 64) : cellsL (updB zeroB 0 x) = rowL 0 x := by
  unfold cellsL
  rw [rowsL_step _ (by decide)]
  have : rowsL (updB zeroB 0 x) 1 = [] := by
    unfold rowsL
    rw [List.flatMap_eq_nil_iff]
    intro i hi
    have h1 := (List.mem_range'_1.1 hi).1
    have : updB zeroB 0 x i = 0#64 := by unfold updB zeroB; rw [if_neg (by omega)]; rfl
    rw [this, rowL_zero]
  rw [this, List.append_nil]
  rfl
end Go.Proofs.YtpfcgfgkmgnaaaaDoor
namespace Go.Proofs.YtpfcgfgkmgnaaaaDoor
open Go
section
variable {P : Program}
/-- A round's contract, the state as one piece. -/
theorem FnV.star1 {y : Value} {u : List Value} {J J' S Sh : List HP} (h : FnV P y u (J ++ Sh) (fun v Q => (v = .bool true ∧ Q = J' ++ Sh) ∨ (v = .bool false ∧ Q = S ++ Sh))) :
    FnV P y u (star J :: Sh) (fun v Q => (v = .bool true ∧ Q = star J' :: Sh) ∨ (v = .bool false ∧ Q = star S :: Sh)) := by
  obtain ⟨fn, caps, hv, h⟩ := h
  refine ⟨fn, caps, hv, fun F w s => ?_⟩
  have s1 : sat ((J ++ Sh) ++ F) w := by rw [List.append_assoc]; exact sat_flat.1 s
  obtain ⟨nx, h1, h2⟩ := h F w s1
  refine ⟨nx, h1, h2.mono fun e w' => ?_⟩
  rintro ⟨v, Q, a, b, x | x, d⟩
  · obtain ⟨rfl, rfl⟩ := x
    rw [List.append_assoc] at d
    exact ⟨_, star J' :: Sh, a, b, .inl ⟨rfl, rfl⟩, sat_flat.2 d⟩
  · obtain ⟨rfl, rfl⟩ := x
    rw [List.append_assoc] at d
    exact ⟨_, star S :: Sh, a, b, .inr ⟨rfl, rfl⟩, sat_flat.2 d⟩
theorem SeqOK.of1 {gf : FuncId} [hc : Cal P gf] {caps : Array Value} {xs : List (List Value)} {Sh Gm : List HP}
    (h : ∀ (y : Value) (J S : Nat → HP), (∀ i u, xs[i]? = some u → FnV P y u (J i :: Sh) (fun v Q => (v = .bool true ∧ Q = J (i + 1) :: Sh) ∨ (v = .bool false ∧ Q = S i :: Sh))) →
      Fn P gf (#[y] ++ caps) (J 0 :: (Sh ++ Gm)) (fun _ Q => Q = J xs.length :: (Sh ++ Gm) ∨ ∃ i, i < xs.length ∧ Q = S i :: (Sh ++ Gm))) : SeqOK P (.func (.func gf) #[] caps) xs Sh Gm :=
  ⟨gf, caps, rfl, hc, fun y J X hy F w s => by
    have s1 : sat ((star (J 0) :: (Sh ++ Gm)) ++ F) w := by
      rw [List.append_assoc] at s
      exact sat_flat.2 s
    refine (h y (fun i => star (J i)) (fun i => star (X i)) (fun i u hu => FnV.star1 (hy i u hu)) F w s1).mono fun e w' => ?_
    rintro ⟨v, Q, a, b, x | ⟨i, hi, x⟩, d⟩
    · subst x
      exact ⟨v, J xs.length ++ (Sh ++ Gm), a, b, .inl rfl, by rw [List.append_assoc]; exact sat_flat.1 d⟩
    · subst x
      exact ⟨v, X i ++ (Sh ++ Gm), a, b, .inr ⟨i, hi, rfl⟩, by rw [List.append_assoc]; exact sat_flat.1 d⟩⟩
theorem FnV.form {y : Value} {u : List Value} {Pre : List HP} {R : Value → List HP → Prop} (h : FnV P y u Pre R) : ∃ fn caps, y = .func fn #[] caps := let ⟨fn, caps, hv, _⟩ := h; ⟨fn, caps, hv⟩
variable {c : Cx} {A : Array Oper} {rest : List Oper} {K : Kont} {L : Env} {H F : List HP} {t : TypeId} {p : String} {e : Array Edge} {d : Nat}
/-- s[l:h]. -/
theorem GO.sliceLH {ty el : TypeId} {sz n cap l h b o : Nat} {kk kh : IntKind} {i j : Int} {x y z : Operand} [hu : UL P ty (.slice el)] [hs : SZ P el sz] (hN : Nat.blt d c.N = true) (hx : evl L x = some (.slice (some ⟨b, o, none⟩) n cap)) (hy : evl L y = some (.int kk i)) (hz : evl L z = some (.int kh j)) (hi : i = (l : Int) ∧ j = (h : Int) ∧ l < h ∧ h ≤ cap)
    (k : GO P c A rest K ((d, .slice (some ⟨b, o + l * sz, none⟩) (h - l) (cap - l)) :: L) H) : GO P c A (⟨some d, .slice ty x (some y) (some z) none, t, p, e, none⟩ :: rest) K L H :=
  GO.val hN rfl (fun a w Y hh _ => by
    obtain ⟨rfl, rfl, h1, h2⟩ := hi
    have hle : (l : Int) ≤ h := by omega
    have hle2 : (h : Int) ≤ cap := by omega
    have hne : ¬ cap = l := by omega
    simp only [execOp, hh.eval hx, Option.map_none, Option.map_some, hh.eval hy, hh.eval hz]
    simp [Instr.sliceAt, Instr.slice, Sem.run_bind, run_underlying hu.out, Instr.sliceBounds, run_sliceBound w _ _ _ _ (Int.natCast_nonneg l) hle, run_sliceBound w _ _ _ _ (Int.natCast_nonneg h) hle2, run_sizeOf_SZ, Result.andThen, hne, add_plain]) k
end
end Go.Proofs.YtpfcgfgkmgnaaaaDoor
namespace Go.Proofs.YtpfcgfgkmgnaaaaDoor
open Go
section
variable {P : Program} {c : Cx} {A : Array Oper} {rest : List Oper} {K : Kont} {L : Env} {H F : List HP} {t : TypeId} {p : String} {e : Array Edge} {d : Nat}
/-- A placed block out of a list of them that can be read. -/
theorem GO.loadQR {b oo o k z : Nat} {X : Nat → Nat → Bool} {l : List Nat} {ty : TypeId} {ds : TypeDesc} {x : Operand} {q : HP} [hu : UL P ty ds] [hs : SZ P ty 66] (hrd : ∀ j u, (allV X l)[j]? = some u → Rd q ⟨b, oo + j, none⟩ u) (hd : ds.isRow = true) (hN : Nat.blt d c.N = true) (hx : evl L x = some (.pointer (some ⟨b, o, none⟩))) (ho : o = oo + k * 66) (hz : l[k]? = some z)
    (tk : Tk q H F) (k : GO P c A rest K ((d, .agg (plV X z).toArray) :: L) H) : GO P c A (⟨some d, .load ty x, t, p, e, none⟩ :: rest) K L H :=
  GO.loadM (vs := plV X z) hd hN hx tk (qV_len _ _ _) (fun j u hj => by
    have hj66 : j < 66 := by have := (List.getElem?_eq_some_iff.1 hj).1; rw [qV_len] at this; exact this
    rw [ho, Nat.add_assoc]
    refine hrd _ _ ?_
    rw [allV_get hz hj66]
    exact hj) k
end
theorem plV_word (X : Nat → Nat → Bool) (z : Nat) {r o : Nat} (hr : r < 64) (ho : o = 2 + r) : (plV X z)[o]? = some (u64 (blkAt X (z / 16) (z % 16) r)) := by
  subst ho
  show (_ :: _ :: cells _)[2 + r]? = _
  rw [show 2 + r = r + 1 + 1 by omega]
  exact cells_get _ hr rfl
theorem allV_grp {X : Nat → Nat → Bool} {f t j : Nat} {u : Value} (h : (allV X (grp X f t))[j]? = some u) : (allV X (posL X))[f * 66 + j]? = some u := by
  have hj := (List.getElem?_eq_some_iff.1 h).1
  rw [allV_len] at hj
  have hk : j / 66 < (grp X f t).length := by omega
  have hft : f + j / 66 < t := by unfold grp at hk; rw [List.length_drop, List.length_take] at hk; omega
  have e : j = j / 66 * 66 + j % 66 := by omega
  obtain ⟨z, hz⟩ : ∃ z, (grp X f t)[j / 66]? = some z := ⟨_, List.getElem?_eq_getElem hk⟩
  have hz2 := hz
  rw [grp_get X hft] at hz2
  rw [e, allV_get hz (Nat.mod_lt _ (by decide))] at h
  rw [e, show f * 66 + (j / 66 * 66 + j % 66) = (f + j / 66) * 66 + j % 66 by omega, allV_get hz2 (Nat.mod_lt _ (by decide))]
  exact h
theorem built_row (w : BitVec 64) : Tryd.prog.built 104 [(0, u64 w)] = some (u64 w :: List.replicate 63 (.int .u64 0)).toArray := by kernel_rfl
theorem one_row (w : BitVec 64) : u64 w :: List.replicate 63 (.int .u64 0) = cells (updB zeroB 0 w) := by
  rw [← cells_set zeroB w (show 0 = 0 from rfl), ← cells_zero]
  rfl
abbrev celV (p : Nat × Nat) : List Value := [i64 (p.1 : Nat), i64 (p.2 : Nat)]
attribute [local irreducible] G GO GR GT Fn FnV pt init exs pur sat own ImpS mat posL allV orL restX cellsX
set_option maxHeartbeats 4000000 in
theorem gcells_spec (q o : HP) (hq : Tab q) (X : Nat → Nat → Bool) (i : Nat) (hi : i < 16) (g : List Nat) (hg : GrpOK X i g) (hgl : ¬ 256 < g.length) (v y : Value) (hyf : ∃ fn caps, y = .func fn #[] caps) (hv : Sl o v g.length 66 (allV X g)) (J S : Nat → HP)
    (hy : ∀ n u, ((cellsX X).map celV)[n]? = some u → FnV Tryd.prog y u [J n, q] (fun v Q => (v = .bool true ∧ Q = [J (n + 1), q]) ∨ (v = .bool false ∧ Q = [S n, q]))) (n0 : Nat) (h0 : (cellsX X).drop n0 = restX X (65536 * i)) (hn0 : n0 ≤ (cellsX X).length) :
    Fn Tryd.prog 97 #[v, y] [J n0, q, o] (fun r Q => (r = .bool true ∧ ∃ n, (cellsX X).drop n = restX X (65536 * (i + 1)) ∧ n ≤ (cellsX X).length ∧ Q = [J n, q, o]) ∨ (r = .bool false ∧ ∃ n, n < (cellsX X).length ∧ Q = [S n, q, o])) := by
  obtain ⟨fn, caps, rfl⟩ := hyf
  obtain ⟨a, cap, rfl, hl, hrd⟩ := hv
  refine Fn.mk2 Tryd.func97 rfl rfl fun w0 F => ?_
  (refine G.seq ?_; refine G.region ?_; refine GO.box rfl rfl rfl fun b3 => ?_; refine GO.alloc rfl fun b4 => ?_; refine GO.nil ?_; refine kthen_n ?_; refine G.seq ?_; refine G.seq ?_; refine G.region ?_; refine GO.move rfl rfl ?_; refine GO.nil ?_; refine kthen_n ?_; refine G.block ?_)
  refine G.loop2 (fun (r : Nat) (n : Nat) => [(0, .slice a g.length cap), (3, .pointer (some ⟨b3, 0, none⟩)), (4, .pointer (some ⟨b4, 0, none⟩)), (9, i64 r)])
    (fun _ n => pt b3 (row [.func fn #[] caps] 92) :: pt b4 (row [.bool false] 4) :: J n :: q :: o :: F) (fun r n => r ≤ 64 ∧ (cellsX X).drop n = restX X (65536 * i + 1024 * r) ∧ n ≤ (cellsX X).length) (fun r _ => 64 - r) 0 n0 ⟨by omega, h0, hn0⟩ ?_ ?_ ?_
  · (refine SubE.c rfl rfl ?_; refine SubE.c rfl rfl ?_; refine SubE.c rfl rfl ?_; refine SubE.c rfl rfl ?_; exact SubE.n)
  · ((refine Sb.c (Tk.t Tk.h) ?_; refine Sb.c Tk.h ?_; refine Sb.c Tk.h ?_; refine Sb.c Tk.h ?_; refine Sb.c Tk.h ?_); (exact Sb.r))
  rintro r n ⟨hr, hd, hnl⟩
  (refine G.seq ?_; refine G.region ?_; refine GO.lti rfl rfl rfl ?_; refine GO.nil ?_; refine kthen_n ?_; refine G.seq ?_)
  refine G.condD rfl (fun hlt => ?_) (fun hge => ?_)
  · have hr64 : r < 64 := by omega
    (refine G.skip ?_; refine kthen_n ?_; refine G.seq ?_; refine G.block ?_; refine G.seq ?_; refine G.region ?_; refine GO.move rfl rfl ?_; refine GO.alloc rfl fun b5 => ?_; refine GO.store1 rfl rfl rfl Tk.h (by decide) ?_; refine GO.nil ?_; refine kthen_n ?_; refine G.seq ?_; refine G.region ?_; refine GO.move rfl rfl ?_; refine GO.lenS rfl rfl ?_; refine GO.move rfl rfl ?_; refine GO.nil ?_; refine kthen_n ?_; refine G.block ?_)
    refine G.loop2 (fun (m : Nat) (n : Nat) => [(0, .slice a g.length cap), (3, .pointer (some ⟨b3, 0, none⟩)), (4, .pointer (some ⟨b4, 0, none⟩)), (5, .pointer (some ⟨b5, 0, none⟩)), (9, i64 r), (12, .slice a g.length cap), (13, i64 g.length), (14, i64 m)])
      (fun _ n => pt b5 (row [i64 r] 3) :: pt b3 (row [.func fn #[] caps] 92) :: pt b4 (row [.bool false] 4) :: J n :: q :: o :: F) (fun m n => m ≤ g.length ∧ ∃ j0, j0 ≤ 16 ∧ UpTo g m j0 (fun z => z % 16) ∧ (cellsX X).drop n = restX X (65536 * i + 1024 * r + 64 * j0) ∧ n ≤ (cellsX X).length) (fun m _ => g.length - m) 0 n ⟨by omega, 0, by omega, UpTo.nil (fun _ _ => Nat.zero_le _), hd, hnl⟩ ?_ ?_ ?_
    · (refine SubE.c rfl rfl ?_; refine SubE.c rfl rfl ?_; refine SubE.c rfl rfl ?_; refine SubE.c rfl rfl ?_; refine SubE.c rfl rfl ?_; refine SubE.c rfl rfl ?_; refine SubE.c rfl rfl ?_; refine SubE.c rfl rfl ?_; exact SubE.n)
    · ((refine Sb.c Tk.h ?_; refine Sb.c Tk.h ?_; refine Sb.c Tk.h ?_; refine Sb.c Tk.h ?_; refine Sb.c Tk.h ?_; refine Sb.c Tk.h ?_); (exact Sb.r))
    rintro m n ⟨hm, j0, hj0, hup, hd, hnl⟩
    (refine G.seq ?_; refine G.region ?_; refine GO.lti rfl rfl rfl ?_; refine GO.nil ?_; refine kthen_n ?_; refine G.seq ?_)
    refine G.condD rfl (fun hlt => ?_) (fun hge => ?_)
    · have hmg : m < g.length := by omega
      obtain ⟨bo, oo, rfl, hr'⟩ := hrd (by omega)
      obtain ⟨z, hz⟩ : ∃ z, g[m]? = some z := ⟨_, List.getElem?_eq_getElem hmg⟩
      have hz1 := ((hg.mem z).1 (List.mem_of_getElem? hz)).2
      have hj : z % 16 < 16 := Nat.mod_lt _ (by decide)
      have hd' := hd.trans (gap_row hg hi hr64 (Nat.le_of_lt hj) (hup.ge hz) (fun y hy h => hup.gap hg.up hz hy h))
      have hrow := restX_row X hi hr64 hj
      have hup' := UpTo.step hg.up hz
      have hgt := fun k p => restX_get (k := k) (p := p) hd' hrow
      have hnx := restX_next hd' hrow
      have hnl' := restX_le hd' hrow hnl
      clear hd hup hrow hmg
      (refine G.skip ?_; refine kthen_n ?_; refine G.seq ?_; refine G.block ?_; refine G.seq ?_; refine G.region ?_)
      refine GO.idxS (j := m) rfl rfl rfl ⟨rfl, by omega⟩ ?_
      refine GO.loadQR hr' rfl rfl rfl rfl hz (Tk.t (Tk.t (Tk.t (Tk.t (Tk.t Tk.h))))) ?_
      (refine GO.alloc rfl fun b7 => ?_; refine GO.storeW rfl rfl Tk.h ⟨qV_len _ _ _, zV_len⟩ (qV_one _ _ _) ?_; refine GO.nil ?_; refine kthen_n ?_; refine G.seq ?_; refine G.region ?_; refine GO.load1 rfl rfl rfl (Tk.t Tk.h) rfl ?_; refine GO.fieldAddr rfl rfl ?_; refine GO.idxA rfl rfl rfl ⟨rfl, by omega⟩ ?_)
      refine GO.load1 rfl rfl rfl Tk.h (plV_word X z hr64 (by omega)) ?_
      generalize hw : blkAt X (z / 16) (z % 16) r = w
      rw [show i = z / 16 from hz1.symm] at hgt hnx
      rw [hw] at hgt hnx
      rw [show i = z / 16 from hz1.symm, hw] at hnl'
      refine GO.buildPart1 (built_row w) rfl rfl ?_
      rw [one_row]
      refine GO.call1 rfl rfl (bcells_spec (updB zeroB 0 w)) Tks.n ?_
      rintro _ _ ⟨bI, rfl, rfl⟩
      (refine GO.nil ?_; refine kthen_n ?_; refine G.block ?_)
      refine G.rangeF (F := o :: F) (psl := [24]) (v := .func (.func 99) #[] #[.pointer (some ⟨bI, 0, none⟩)]) (xs := (cellsL (updB zeroB 0 w)).map fun p => [cellV p]) (Sh := [q]) (Gm := [pt bI (row (cells (updB zeroB 0 w)) 104)])
        (fun k => [J (n + k), pt b7 (row (plV X z) 106), pt b5 (row [i64 r] 3), pt b3 (row [.func fn #[] caps] 92), pt b4 (row [.bool false] 4)])
        (fun k jc => [pur (jc = .ret ∧ n + k < (cellsX X).length), S (n + k), pt b7 (row (plV X z) 106), pt b5 (row [i64 r] 3), pt b3 (row [.func fn #[] caps] 92), pt b4 (row [.bool false] 4)])
        (fun _ h => by cases h) rfl (fun u hu => by obtain ⟨p, _, rfl⟩ := List.mem_map.1 hu; rfl) rfl (cells_seq q hq (updB zeroB 0 w) bI) ?_ (fun lp Lr Lb w1 F1 k u hu => ?_) ?_ ?_
      · (refine Tks.c (Tk.t (Tk.t (Tk.t (Tk.t (Tk.t Tk.h))))) ?_; refine Tks.c (Tk.t Tk.h) ?_; refine Tks.c (Tk.t Tk.h) ?_; refine Tks.c (Tk.t Tk.h) ?_; refine Tks.c (Tk.t Tk.h) ?_; refine Tks.c (Tk.t Tk.h) ?_; exact Tks.n)
      · obtain ⟨p, hp, rfl⟩ : ∃ p, (rowL 0 w)[k]? = some p ∧ u = [cellV p] := by
          rw [cellsL_one, List.getElem?_map] at hu
          cases hc : (rowL 0 w)[k]? with
          | none => simp [hc] at hu
          | some p => simp [hc] at hu; exact ⟨p, rfl, hu.symm⟩
        have hyk := hy (n + k) (celV (64 * (z / 16) + r, 64 * (z % 16) + p.2)) (by rw [List.getElem?_map, hgt k (64 * (z / 16) + r, 64 * (z % 16) + p.2) (by rw [List.getElem?_map, hp]; rfl)]; rfl)
        have hnk : n + k < (cellsX X).length := (List.getElem?_eq_some_iff.1 (hgt k (64 * (z / 16) + r, 64 * (z % 16) + p.2) (by rw [List.getElem?_map, hp]; rfl))).1
        dsimp only [celV] at hyk
        rw [show ((64 * (z / 16) + r : Nat) : Int) = ((z / 16 : Nat) : Int) * 64 + r by omega, show ((64 * (z % 16) + p.2 : Nat) : Int) = ((z % 16 : Nat) : Int) * 64 + (p.2 : Nat) by omega] at hyk
        have hp2 : ¬ 64 ≤ p.2 := by
          have := List.mem_of_getElem? hp
          unfold rowL at this
          obtain ⟨c, hc, rfl⟩ := List.mem_map.1 this
          have := List.mem_range.1 (List.mem_filter.1 hc).1
          show ¬ 64 ≤ c
          omega
        change G _ _ _ _ ((24, cellV p) :: _) (J (n + k) :: pt b7 (row (plV X z) 106) :: pt b5 (row [i64 r] 3) :: pt b3 (row [.func fn #[] caps] 92) :: pt b4 (row [.bool false] 4) :: q :: F1)
        (refine G.region ?_; refine GO.alloc rfl fun b8 => ?_; refine GO.storeW rfl rfl Tk.h ⟨rfl, rfl⟩ (by simp [Value.oneCell']) ?_; refine GO.nil ?_)
        refine kA_n ?_
        (refine G.block ?_; refine G.seq ?_; refine G.region ?_; refine GO.load1 rfl rfl rfl (Tk.t (Tk.t (Tk.t (Tk.t Tk.h)))) rfl ?_; refine GO.fieldAddr rfl rfl ?_; refine GO.fieldAddr rfl rfl ?_; refine GO.load1 rfl rfl rfl (Tk.t (Tk.t Tk.h)) rfl ?_; refine GO.muli rfl rfl rfl (by omega) ?_; refine GO.load1 rfl rfl rfl (Tk.t (Tk.t (Tk.t Tk.h))) rfl ?_; refine GO.addi rfl rfl rfl (by omega) ?_; refine GO.fieldAddr rfl rfl ?_; refine GO.fieldAddr rfl rfl ?_; refine GO.load1 rfl rfl rfl (Tk.t (Tk.t Tk.h)) rfl ?_; refine GO.muli rfl rfl rfl (by omega) ?_; refine GO.fieldAddr rfl rfl ?_; refine GO.load1 rfl rfl rfl Tk.h rfl ?_; refine GO.addi rfl rfl rfl (by omega) ?_)
        refine GO.callV2 rfl rfl rfl rfl (hyk) (Tks.c (Tk.t Tk.h) (Tks.c (Tk.t (Tk.t (Tk.t (Tk.t (Tk.t Tk.h))))) Tks.n)) ?_
        rintro _ _ (⟨rfl, rfl⟩ | ⟨rfl, rfl⟩)
        · (refine GO.not rfl rfl ?_; refine GO.nil ?_; refine kthen_n ?_; refine G.condF rfl rfl ?_; refine G.skip ?_; refine kblock_n ?_)
          refine kB_n (ImpS.sb ?_)
          ((refine Sb.c Tk.h ?_; refine Sb.c (Tk.t (Tk.t Tk.h)) ?_; refine Sb.c (Tk.t (Tk.t Tk.h)) ?_; refine Sb.c (Tk.t (Tk.t Tk.h)) ?_; refine Sb.c (Tk.t (Tk.t Tk.h)) ?_; refine Sb.c Tk.h ?_); (refine Sb.s ?_; exact Sb.r))
        · (refine GO.not rfl rfl ?_; refine GO.nil ?_; refine kthen_n ?_; refine G.condT rfl rfl ?_; refine G.seq ?_; refine G.region ?_; refine GO.store1 rfl rfl rfl (Tk.t (Tk.t (Tk.t (Tk.t (Tk.t (Tk.t Tk.h)))))) (by decide) ?_; refine GO.nil ?_; refine kthen_n ?_; refine G.ret ?_; refine kblock_r ?_)
          refine kB_r (ImpS.pur ⟨rfl, hnk⟩ (ImpS.sb ?_))
          ((refine Sb.c (Tk.t Tk.h) ?_; refine Sb.c (Tk.t (Tk.t (Tk.t Tk.h))) ?_; refine Sb.c (Tk.t (Tk.t (Tk.t Tk.h))) ?_; refine Sb.c (Tk.t (Tk.t (Tk.t Tk.h))) ?_; refine Sb.c Tk.h ?_; refine Sb.c Tk.h ?_); (refine Sb.s ?_; exact Sb.r))
      · rw [List.length_map, cellsL_one]
        change G _ _ _ _ _ (J (n + (rowL 0 w).length) :: pt b7 (row (plV X z) 106) :: pt b5 (row [i64 r] 3) :: pt b3 (row [.func fn #[] caps] 92) :: pt b4 (row [.bool false] 4) :: q :: pt bI (row (cells (updB zeroB 0 w)) 104) :: o :: F)
        (refine G.region ?_; refine GO.addi rfl rfl rfl (by omega) ?_; refine GO.move rfl rfl ?_; refine GO.nil ?_; refine kthen_n ?_)
        rw [List.length_map] at hnx hnl'
        refine ⟨m + 1, n + (rowL 0 w).length, ⟨by omega, z % 16 + 1, by omega, hup', by rw [hnx, hz1], hnl'⟩, by omega, ?_, ?_⟩
        · (refine SubE.c rfl rfl ?_; refine SubE.c rfl rfl ?_; refine SubE.c rfl rfl ?_; refine SubE.c rfl rfl ?_; refine SubE.c rfl rfl ?_; refine SubE.c rfl rfl ?_; refine SubE.c rfl rfl ?_; refine SubE.c rfl rfl ?_; exact SubE.n)
        · ((refine Sb.c (Tk.t (Tk.t Tk.h)) ?_; refine Sb.c (Tk.t (Tk.t Tk.h)) ?_; refine Sb.c (Tk.t (Tk.t Tk.h)) ?_; refine Sb.c Tk.h ?_; refine Sb.c (Tk.t Tk.h) ?_; refine Sb.c (Tk.t (Tk.t Tk.h)) ?_); (refine Sb.s ?_; refine Sb.s ?_; exact Sb.r))
      · intro k jc hk
        change G _ _ _ _ _ (pur (jc = .ret ∧ n + k < (cellsX X).length) :: S (n + k) :: pt b7 (row (plV X z) 106) :: pt b5 (row [i64 r] 3) :: pt b3 (row [.func fn #[] caps] 92) :: pt b4 (row [.bool false] 4) :: q :: pt bI (row (cells (updB zeroB 0 w)) 104) :: o :: F)
        refine G.pur fun h => ?_
        obtain ⟨rfl, hlt⟩ := h
        (refine G.ret ?_; refine kblock_r ?_; refine kblock_r ?_; refine kthen_r ?_; refine kthen_r ?_; refine kblock_r ?_; refine kblock_r ?_; refine kthen_r ?_; refine kthen_r ?_; refine kblock_r ?_; refine kthen_r ?_)
        refine KF2.r1 rfl (RV.c1 rfl rfl (by (exact (Tk.t (Tk.t (Tk.t (Tk.t Tk.h)))))) rfl) (.inr ⟨rfl, n + k, hlt, rfl⟩) (ImpS.sb ?_)
        ((refine Sb.c Tk.h ?_; refine Sb.c (Tk.t (Tk.t (Tk.t (Tk.t Tk.h)))) ?_; refine Sb.c (Tk.t (Tk.t (Tk.t (Tk.t (Tk.t Tk.h))))) ?_); (refine Sb.s ?_; refine Sb.s ?_; refine Sb.s ?_; refine Sb.s ?_; refine Sb.s ?_; exact Sb.r))
    · have hmg : g.length ≤ m := by omega
      have hd' := hd.trans (gap_row hg hi hr64 (Nat.le_refl 16) hj0 (fun y hy _ => hup.all hmg hy))
      rw [show 65536 * i + 1024 * r + 64 * 16 = 65536 * i + 1024 * (r + 1) by omega] at hd'
      (refine G.exit ?_; refine kthen_x ?_; refine kthen_x ?_; refine kblock_x ?_; refine kblock_n ?_; refine kthen_n ?_; refine G.region ?_; refine GO.addi rfl rfl rfl (by omega) ?_; refine GO.move rfl rfl ?_; refine GO.nil ?_; refine kthen_n ?_)
      refine ⟨r + 1, n, ⟨by omega, hd', hnl⟩, by omega, ?_, ?_⟩
      · (refine SubE.c rfl rfl ?_; refine SubE.c rfl rfl ?_; refine SubE.c rfl rfl ?_; refine SubE.c rfl rfl ?_; exact SubE.n)
      · ((refine Sb.c (Tk.t Tk.h) ?_; refine Sb.c (Tk.t Tk.h) ?_; refine Sb.c (Tk.t Tk.h) ?_; refine Sb.c (Tk.t Tk.h) ?_; refine Sb.c (Tk.t Tk.h) ?_); (refine Sb.s ?_; exact Sb.r))
  · obtain rfl : r = 64 := by omega
    (refine G.exit ?_; refine kthen_x ?_; refine kthen_x ?_; refine kblock_x ?_; refine kthen_n ?_; refine G.seq ?_; refine G.region ?_; refine GO.store1 rfl rfl rfl (Tk.t Tk.h) (by decide) ?_; refine GO.nil ?_; refine kthen_n ?_; refine G.ret ?_)
    refine KF2.r1 rfl (RV.c1 rfl rfl (by (exact Tk.h)) rfl) (.inl ⟨rfl, n, by rw [hd]; rfl, hnl, rfl⟩) (ImpS.sb ?_)
    ((refine Sb.c (Tk.t (Tk.t Tk.h)) ?_; refine Sb.c (Tk.t (Tk.t Tk.h)) ?_; refine Sb.c (Tk.t (Tk.t Tk.h)) ?_); (refine Sb.s ?_; refine Sb.s ?_; exact Sb.r))
end Go.Proofs.YtpfcgfgkmgnaaaaDoor
namespace Go.Proofs.YtpfcgfgkmgnaaaaDoor
open Go
theorem cellsX_pos {side : Nat} {X : Nat → Nat → Bool} (hs : side ≤ 1024) (hin : ∀ r c, X r c = true → r < side ∧ c < side) {r c : Nat} (h : X r c = true) : (r, c) ∈ cellsX X := by
  have := hin r c h
  unfold cellsX restX
  refine List.mem_map.2 ⟨1024 * r + c, List.mem_filter.2 ⟨List.mem_range'_1.2 ⟨by omega, by omega⟩, ?_⟩, ?_⟩
  · show X ((1024 * r + c) / 1024) ((1024 * r + c) % 1024) = true
    rw [show (1024 * r + c) / 1024 = r by omega, show (1024 * r + c) % 1024 = c by omega]
    exact h
  · show ((1024 * r + c) / 1024, (1024 * r + c) % 1024) = (r, c)
    rw [show (1024 * r + c) / 1024 = r by omega, show (1024 * r + c) % 1024 = c by omega]
theorem cellsX_true {X : Nat → Nat → Bool} {p : Nat × Nat} (h : p ∈ cellsX X) : X p.1 p.2 = true := by
  unfold cellsX restX at h
  obtain ⟨z, hz, rfl⟩ := List.mem_map.1 h
  exact (List.mem_filter.1 hz).2
theorem cellsX_some {X : Nat → Nat → Bool} {z : Nat} (hz : z ∈ posL X) : ∃ u, ((cellsX X).map celV)[0]? = some u := by
  have h0 : restX X 0 ≠ [] := fun h => by
    obtain ⟨hz1, hz2⟩ := posL_mem.1 hz
    obtain ⟨r, c, hr, hc, hx⟩ := hasB_iff.1 hz2
    have hm : (64 * (z / 16) + r, 64 * (z % 16) + c) ∈ restX X 0 := by
      unfold restX
      refine List.mem_map.2 ⟨1024 * (64 * (z / 16) + r) + (64 * (z % 16) + c), List.mem_filter.2 ⟨List.mem_range'_1.2 ⟨by omega, by omega⟩, ?_⟩, ?_⟩
      · show X ((1024 * (64 * (z / 16) + r) + (64 * (z % 16) + c)) / 1024) ((1024 * (64 * (z / 16) + r) + (64 * (z % 16) + c)) % 1024) = true
        rw [show (1024 * (64 * (z / 16) + r) + (64 * (z % 16) + c)) / 1024 = 64 * (z / 16) + r by omega, show (1024 * (64 * (z / 16) + r) + (64 * (z % 16) + c)) % 1024 = 64 * (z % 16) + c by omega]
        exact hx
      · show ((1024 * (64 * (z / 16) + r) + (64 * (z % 16) + c)) / 1024, (1024 * (64 * (z / 16) + r) + (64 * (z % 16) + c)) % 1024) = _
        rw [show (1024 * (64 * (z / 16) + r) + (64 * (z % 16) + c)) / 1024 = 64 * (z / 16) + r by omega, show (1024 * (64 * (z / 16) + r) + (64 * (z % 16) + c)) % 1024 = 64 * (z % 16) + c by omega]
    rw [h] at hm
    cases hm
  show ∃ u, ((restX X 0).map celV)[0]? = some u
  cases hl : restX X 0 with
  | nil => exact absurd hl h0
  | cons p l => exact ⟨celV p, rfl⟩
theorem plV_row (X : Nat → Nat → Bool) (z : Nat) : (plV X z)[0]? = some (i64 ((z / 16 : Nat) : Int)) := rfl
attribute [local irreducible] G GO GR GT Fn FnV pt init exs pur sat own ImpS mat posL allV orL restX cellsX
/-- Where the rows of blocks that have come end. -/
theorem rows_end {X : Nat → Nat → Bool} {f t z : Nat} {i0 : Nat} (hup : UpTo (posL X) f i0 (fun z => z / 16)) (hz : (posL X)[f]? = some z) (hft : f < t) (hin : ∀ k y, (posL X)[k]? = some y → f ≤ k → k < t → y / 16 = z / 16) (hout : ∀ y, (posL X)[t]? = some y → y / 16 ≠ z / 16) :
    (∀ k y, (posL X)[k]? = some y → ((f ≤ k ∧ k < t) ↔ y / 16 = z / 16)) ∧ UpTo (posL X) t (z / 16 + 1) (fun z => z / 16) := by
  have hge : i0 ≤ z / 16 := hup.ge hz
  have hlate : ∀ k y, (posL X)[k]? = some y → t ≤ k → z / 16 < y / 16 := fun k y hy htk => by
    obtain ⟨x, hx⟩ : ∃ x, (posL X)[t]? = some x := ⟨_, List.getElem?_eq_getElem (Nat.lt_of_le_of_lt htk (List.getElem?_eq_some_iff.1 hy).1)⟩
    have h1 := hout x hx
    have h2 : z / 16 ≤ x / 16 := posL_weak f t z x hft hz hx
    rcases Nat.lt_or_ge t k with h | h
    · have h3 : x / 16 ≤ y / 16 := posL_weak t k x y h hx hy
      omega
    · obtain rfl : t = k := by omega
      rw [hx] at hy; obtain rfl : x = y := by simpa using hy
      omega
  have hearly : ∀ k y, (posL X)[k]? = some y → k < f → y / 16 < z / 16 := fun k y hy hk => by
    have : y / 16 < i0 := (hup k y hy).1 hk
    omega
  constructor
  · intro k y hy
    constructor
    · rintro ⟨h1, h2⟩; exact hin k y hy h1 h2
    · intro e
      refine ⟨?_, ?_⟩
      · apply Classical.byContradiction; intro h; have := hearly k y hy (by omega); omega
      · apply Classical.byContradiction; intro h; have := hlate k y hy (by omega); omega
  · intro k y hy
    show k < t ↔ y / 16 < z / 16 + 1
    constructor
    · intro h
      rcases Nat.lt_or_ge k f with h' | h'
      · have := hearly k y hy h'; omega
      · have := hin k y hy h' h; omega
    · intro h
      apply Classical.byContradiction; intro hn
      have := hlate k y hy (by omega); omega
set_option maxHeartbeats 4000000 in
theorem cells1_spec (q : HP) (hq : Tab q) (X : Nat → Nat → Bool) (bx : Nat) (v y : Value) (J S : Nat → HP)
    (hy : ∀ n u, ((cellsX X).map celV)[n]? = some u → FnV Tryd.prog y u [J n, q] (fun v Q => (v = .bool true ∧ Q = [J (n + 1), q]) ∨ (v = .bool false ∧ Q = [S n, q]))) :
    Fn Tryd.prog 96 #[y, .pointer (some ⟨bx, 0, none⟩)] [J 0, q, bkM X bx v] (fun _ Q => Q = [J (cellsX X).length, q, bkM X bx v] ∨ ∃ n, n < (cellsX X).length ∧ Q = [S n, q, bkM X bx v]) := by
  have hpl : ¬ 256 < (posL X).length := by have := posL_len X; omega
  refine Fn.mk2 Tryd.func96 rfl rfl fun w0 F => ?_
  refine G.take (Tk.t (Tk.t Tk.h)) (G.flat ?_)
  (refine G.seq ?_; refine G.region ?_; refine GO.assign rfl rfl ?_; refine GO.nil ?_; refine kthen_n ?_; refine G.block ?_)
  refine G.loop2 (fun (f : Nat) (_ : Nat) => [(0, y), (1, .pointer (some ⟨bx, 0, none⟩)), (3, i64 f)])
    (fun _ n => pt bx (row [v] 101) :: own 106 66 (posL X).length v (allV X (posL X)) :: J n :: q :: F)
    (fun f n => f ≤ (posL X).length ∧ ∃ i0, i0 ≤ 16 ∧ UpTo (posL X) f i0 (fun z => z / 16) ∧ (cellsX X).drop n = restX X (65536 * i0) ∧ n ≤ (cellsX X).length) (fun f _ => (posL X).length - f) 0 0 ⟨by omega, 0, by omega, UpTo.nil (fun _ _ => Nat.zero_le _), by rw [List.drop_zero]; unfold cellsX; rfl, Nat.zero_le _⟩ ?_ ?_ ?_
  · (refine SubE.c rfl rfl ?_; refine SubE.c rfl rfl ?_; refine SubE.c rfl rfl ?_; exact SubE.n)
  · ((refine Sb.c Tk.h ?_; refine Sb.c Tk.h ?_; refine Sb.c Tk.h ?_; refine Sb.c Tk.h ?_); (exact Sb.r))
  rintro f n ⟨hf, i0, hi0, hup, hd, hn⟩
  (refine G.seq ?_; refine G.seq ?_; refine G.region ?_; refine GO.move rfl rfl ?_; refine GO.load1 rfl rfl rfl Tk.h rfl ?_; refine GO.lenOwn rfl rfl (Tk.t Tk.h) ?_; refine GO.lti rfl rfl rfl ?_; refine GO.nil ?_; refine kthen_n ?_)
  refine G.condD rfl (fun hlt => ?_) (fun hge => ?_)
  · have hlt' : f < (posL X).length := by omega
    obtain ⟨z, hz⟩ : ∃ z, (posL X)[f]? = some z := ⟨_, List.getElem?_eq_getElem hlt'⟩
    have hyf : ∃ fn caps, y = .func fn #[] caps := by
      obtain ⟨u, hu⟩ := cellsX_some (List.mem_of_getElem? hz)
      exact (hy 0 u hu).form
    refine G.ownForm (by omega) (Tk.t Tk.h) fun bl capl e2 hd1 hd2 hd3 => ?_
    subst e2
    have hz16 : z / 16 < 16 := by have := (posL_mem.1 (List.mem_of_getElem? hz)).1; omega
    have rd : ∀ k x, (posL X)[k]? = some x → Rd (own 106 66 (posL X).length (.slice (some ⟨bl, 0, none⟩) (posL X).length capl) (allV X (posL X))) ⟨bl, 0 + k * 66, none⟩ (i64 ((x / 16 : Nat) : Int)) := fun k x hx => by
      rw [Nat.zero_add]
      refine Rd.own ?_
      have := allV_get (X := X) (j := 0) hx (by decide)
      rw [Nat.add_zero] at this
      rw [this, plV_row]
    have rdf := rd f z hz
    (refine G.skip ?_; refine kthen_n ?_; refine G.block ?_; refine G.seq ?_; refine G.region ?_; refine GO.move rfl rfl ?_; refine GO.assign rfl rfl ?_; refine GO.nil ?_; refine kthen_n ?_; refine G.seq ?_; refine G.block ?_)
    refine G.loop (fun t : Nat => [(0, y), (1, .pointer (some ⟨bx, 0, none⟩)), (3, i64 f), (4, i64 t)])
      (fun _ => pt bx (row [.slice (some ⟨bl, 0, none⟩) (posL X).length capl] 101) :: own 106 66 (posL X).length (.slice (some ⟨bl, 0, none⟩) (posL X).length capl) (allV X (posL X)) :: J n :: q :: F)
      (fun t => f ≤ t ∧ t ≤ (posL X).length ∧ ∀ k x, (posL X)[k]? = some x → f ≤ k → k < t → x / 16 = z / 16) (fun t => (posL X).length - t) f ⟨by omega, by omega, fun k x _ h1 h2 => by omega⟩ ?_ ?_ ?_
    · (refine SubE.c rfl rfl ?_; refine SubE.c rfl rfl ?_; refine SubE.c rfl rfl ?_; refine SubE.c rfl rfl ?_; exact SubE.n)
    · ((refine Sb.c Tk.h ?_; refine Sb.c Tk.h ?_; refine Sb.c Tk.h ?_; refine Sb.c Tk.h ?_); (exact Sb.r))
    rintro t ⟨ht1, ht2, hin⟩
    (refine G.seq ?_; refine G.seq ?_)
    cases h4 : decide ((t : Int) < ((posL X).length : Int)) with
    | true =>
      have ht3 : t < (posL X).length := by have := of_decide_eq_true h4; omega
      obtain ⟨x, hx⟩ : ∃ x, (posL X)[t]? = some x := ⟨_, List.getElem?_eq_getElem ht3⟩
      have rdt := rd t x hx
      refine G.draw 19 (by kernel_rfl) ?_
      ((apply GQ.step; focus (intro Z; refine GO.move rfl rfl ?_; exact KQ.z)); (apply GQ.step; focus (intro Z; refine GO.load1 rfl rfl rfl Tk.h rfl ?_; exact KQ.z)); (apply GQ.step; focus (intro Z; refine GO.lenS rfl rfl ?_; exact KQ.z)); (apply GQ.step; focus (intro Z; refine GO.lti rfl rfl rfl ?_; exact KQ.z)); (apply GQ.step; focus (intro Z; refine GO.move rfl rfl ?_; exact KQ.z)); (apply GQ.step; focus (intro Z; refine GO.gT rfl rfl (by assumption) ?_; refine GO.load1 rfl rfl rfl Tk.h rfl ?_; exact KQ.z)); (apply GQ.step; focus (intro Z; refine GO.gT rfl rfl (by assumption) ?_; refine GO.move rfl rfl ?_; exact KQ.z)); (apply GQ.step; focus (intro Z; refine GO.gT rfl rfl (by assumption) ?_; refine GO.idxS rfl rfl rfl ⟨rfl, by omega⟩ ?_; exact KQ.z)); (apply GQ.step; focus (intro Z; refine GO.gT rfl rfl (by assumption) ?_; refine GO.fieldAddr rfl rfl ?_; exact KQ.z)); (apply GQ.step; focus (intro Z; refine GO.gT rfl rfl (by assumption) ?_; refine GO.fieldAddr rfl rfl ?_; exact KQ.z)); (apply GQ.step; focus (intro Z; refine GO.gT rfl rfl (by assumption) ?_; refine GO.loadQ rfl rfl rfl (Tk.t Tk.h) (by assumption) ?_; exact KQ.z)); (apply GQ.step; focus (intro Z; refine GO.gT rfl rfl (by assumption) ?_; refine GO.load1 rfl rfl rfl Tk.h rfl ?_; exact KQ.z)); (apply GQ.step; focus (intro Z; refine GO.gT rfl rfl (by assumption) ?_; refine GO.move rfl rfl ?_; exact KQ.z)); (apply GQ.step; focus (intro Z; refine GO.gT rfl rfl (by assumption) ?_; refine GO.idxS rfl rfl rfl ⟨rfl, by omega⟩ ?_; exact KQ.z)); (apply GQ.step; focus (intro Z; refine GO.gT rfl rfl (by assumption) ?_; refine GO.fieldAddr rfl rfl ?_; exact KQ.z)); (apply GQ.step; focus (intro Z; refine GO.gT rfl rfl (by assumption) ?_; refine GO.fieldAddr rfl rfl ?_; exact KQ.z)); (apply GQ.step; focus (intro Z; refine GO.gT rfl rfl (by assumption) ?_; refine GO.loadQ rfl rfl rfl (Tk.t Tk.h) (by assumption) ?_; exact KQ.z)); (apply GQ.step; focus (intro Z; refine GO.gT rfl rfl (by assumption) ?_; refine GO.eqi rfl rfl rfl ?_; exact KQ.z)); (apply GQ.step; focus (intro Z; refine GO.pickTa rfl rfl (by assumption) rfl ?_; exact KQ.z)); refine GQ.nil ?_)
      (refine GO.nil ?_; refine kthen_n ?_)
      refine G.condD rfl (fun hxe => ?_) (fun hxe => ?_)
      · have hxe' : x / 16 = z / 16 := by omega
        (refine G.skip ?_; refine kthen_n ?_; refine G.block ?_; refine G.region ?_; refine GO.move rfl rfl ?_; refine GO.addi rfl rfl rfl (by omega) ?_; refine GO.assign rfl rfl ?_; refine GO.nil ?_; refine kblock_n ?_; refine kthen_n ?_)
        refine ⟨t + 1, ⟨by omega, by omega, fun k u hu h1 h2 => ?_⟩, by omega, ?_, ?_⟩
        · rcases Nat.lt_or_ge k t with h | h
          · exact hin k u hu h1 h
          · obtain rfl : k = t := by omega
            rw [hx] at hu; obtain rfl : x = u := by simpa using hu
            exact hxe'
        · (refine SubE.c rfl rfl ?_; refine SubE.c rfl rfl ?_; refine SubE.c rfl rfl ?_; refine SubE.c rfl rfl ?_; exact SubE.n)
        · ((refine Sb.c Tk.h ?_; refine Sb.c Tk.h ?_; refine Sb.c Tk.h ?_; refine Sb.c Tk.h ?_); (exact Sb.r))
      · have hxe' : ¬ x / 16 = z / 16 := by omega
        have hft : f < t := by
          rcases Nat.lt_or_ge f t with h | h
          · exact h
          · obtain rfl : f = t := by omega
            rw [hz] at hx; obtain rfl : z = x := by simpa using hx
            exact absurd rfl hxe'
        have hout : ∀ y, (posL X)[t]? = some y → y / 16 ≠ z / 16 := fun u hu => by
          rw [hx] at hu; obtain rfl : x = u := by simpa using hu
          exact hxe'
        (refine G.exit ?_; refine kthen_x ?_; refine kthen_x ?_; refine kblock_x ?_; refine kthen_n ?_; refine G.seq ?_; refine G.seq ?_; refine G.region ?_; refine GO.load1 rfl rfl rfl Tk.h rfl ?_; refine GO.move rfl rfl ?_; refine GO.move rfl rfl ?_)
        obtain ⟨hend, hup'⟩ := rows_end hup hz hft hin hout
        have hgl := grp_len (X := X) (f := f) ht2
        have hgo := grp_ok (X := X) ht2 hend
        have hd' := hd.trans (gap_rows (Nat.le_of_lt hz16) (hup.ge hz) (fun y hy h => hup.gapW posL_weak hz hy h))
        have hsl : Sl (own 106 66 (posL X).length (.slice (some ⟨bl, 0, none⟩) (posL X).length capl) (allV X (posL X))) (.slice (some ⟨bl, 0 + f * 66, none⟩) (t - f) (capl - f)) (grp X f t).length 66 (allV X (grp X f t)) := ⟨_, _, by rw [hgl], allV_len X _, fun _ => ⟨bl, 0 + f * 66, rfl, fun j u hj => by rw [Nat.zero_add]; exact Rd.own (allV_grp hj)⟩⟩
        refine GO.sliceLH (l := f) (h := t) rfl rfl rfl rfl ⟨rfl, rfl, hft, by omega⟩ ?_
        (refine GO.move rfl rfl ?_)
        refine GO.call2 rfl rfl rfl (gcells_spec q (own 106 66 (posL X).length (.slice (some ⟨bl, 0, none⟩) (posL X).length capl) (allV X (posL X))) hq X (z / 16) hz16 (grp X f t) hgo (by rw [hgl]; omega) (.slice (some ⟨bl, 0 + f * 66, none⟩) (t - f) (capl - f)) y hyf hsl J S hy n hd' hn) (Tks.c (Tk.t (Tk.t Tk.h)) (Tks.c (Tk.t (Tk.t Tk.h)) (Tks.c (Tk.t Tk.h) Tks.n))) ?_
        rintro _ _ (⟨rfl, n', hn', hn2, rfl⟩ | ⟨rfl, n', hn', rfl⟩)
        · (refine GO.not rfl rfl ?_; refine GO.nil ?_; refine kthen_n ?_; refine G.condF rfl rfl ?_; refine G.skip ?_; refine kthen_n ?_; refine G.region ?_; refine GO.move rfl rfl ?_; refine GO.assign rfl rfl ?_; refine GO.nil ?_; refine kblock_n ?_; refine kthen_n ?_)
          refine ⟨t, n', ⟨ht2, z / 16 + 1, by omega, hup', hn', hn2⟩, by omega, ?_, ?_⟩
          · (refine SubE.c rfl rfl ?_; refine SubE.c rfl rfl ?_; refine SubE.c rfl rfl ?_; exact SubE.n)
          · ((refine Sb.c (Tk.t (Tk.t (Tk.t Tk.h))) ?_; refine Sb.c (Tk.t (Tk.t Tk.h)) ?_; refine Sb.c Tk.h ?_; refine Sb.c Tk.h ?_); (exact Sb.r))
        · (refine GO.not rfl rfl ?_; refine GO.nil ?_; refine kthen_n ?_; refine G.condT rfl rfl ?_; refine G.ret ?_; refine kthen_r ?_; refine kblock_r ?_; refine kthen_r ?_; refine kblock_r ?_)
          refine KF2.r0 rfl (.inr ⟨n', hn', rfl⟩) ?_
          exact ImpS.cons Tk.h (ImpS.cons Tk.h (ImpS.flat (k := [pt bx (row [.slice (some ⟨bl, 0, none⟩) (posL X).length capl] 101), own 106 66 (posL X).length (.slice (some ⟨bl, 0, none⟩) (posL X).length capl) (allV X (posL X))]) (M := F) (ImpS.sb (by ((refine Sb.c (Tk.t Tk.h) ?_; refine Sb.c Tk.h ?_); (exact Sb.r))))))
    | false =>
      have ht3 : ¬ t < (posL X).length := by have := of_decide_eq_false h4; omega
      have hft : f < t := by omega
      have hout : ∀ y, (posL X)[t]? = some y → y / 16 ≠ z / 16 := fun u hu => absurd (List.getElem?_eq_some_iff.1 hu).1 ht3
      refine G.draw 19 (by kernel_rfl) ?_
      ((apply GQ.step; focus (intro Z; refine GO.move rfl rfl ?_; exact KQ.z)); (apply GQ.step; focus (intro Z; refine GO.load1 rfl rfl rfl Tk.h rfl ?_; exact KQ.z)); (apply GQ.step; focus (intro Z; refine GO.lenS rfl rfl ?_; exact KQ.z)); (apply GQ.step; focus (intro Z; refine GO.lti rfl rfl rfl ?_; exact KQ.z)); (apply GQ.step; focus (intro Z; refine GO.move rfl rfl ?_; exact KQ.z)); (apply GQ.step; focus (intro Z; refine GO.gF rfl rfl rfl (by assumption) ?_; exact KQ.z)); (apply GQ.step; focus (intro Z; refine GO.gF rfl rfl rfl (by assumption) ?_; exact KQ.z)); (apply GQ.step; focus (intro Z; refine GO.gF rfl rfl rfl (by assumption) ?_; exact KQ.z)); (apply GQ.step; focus (intro Z; refine GO.gF rfl rfl rfl (by assumption) ?_; exact KQ.z)); (apply GQ.step; focus (intro Z; refine GO.gF rfl rfl rfl (by assumption) ?_; exact KQ.z)); (apply GQ.step; focus (intro Z; refine GO.gF rfl rfl rfl (by assumption) ?_; exact KQ.z)); (apply GQ.step; focus (intro Z; refine GO.gF rfl rfl rfl (by assumption) ?_; exact KQ.z)); (apply GQ.step; focus (intro Z; refine GO.gF rfl rfl rfl (by assumption) ?_; exact KQ.z)); (apply GQ.step; focus (intro Z; refine GO.gF rfl rfl rfl (by assumption) ?_; exact KQ.z)); (apply GQ.step; focus (intro Z; refine GO.gF rfl rfl rfl (by assumption) ?_; exact KQ.z)); (apply GQ.step; focus (intro Z; refine GO.gF rfl rfl rfl (by assumption) ?_; exact KQ.z)); (apply GQ.step; focus (intro Z; refine GO.gF rfl rfl rfl (by assumption) ?_; exact KQ.z)); (apply GQ.step; focus (intro Z; refine GO.gF rfl rfl rfl (by assumption) ?_; exact KQ.z)); (apply GQ.step; focus (intro Z; refine GO.pickFa rfl rfl (by assumption) rfl ?_; exact KQ.z)); refine GQ.nil ?_)
      (refine GO.nil ?_; refine kthen_n ?_; refine G.condF rfl rfl ?_; refine G.exit ?_; refine kthen_x ?_; refine kthen_x ?_; refine kblock_x ?_; refine kthen_n ?_; refine G.seq ?_; refine G.seq ?_; refine G.region ?_; refine GO.load1 rfl rfl rfl Tk.h rfl ?_; refine GO.move rfl rfl ?_; refine GO.move rfl rfl ?_)
      obtain ⟨hend, hup'⟩ := rows_end hup hz hft hin hout
      have hgl := grp_len (X := X) (f := f) ht2
      have hgo := grp_ok (X := X) ht2 hend
      have hd' := hd.trans (gap_rows (Nat.le_of_lt hz16) (hup.ge hz) (fun y hy h => hup.gapW posL_weak hz hy h))
      have hsl : Sl (own 106 66 (posL X).length (.slice (some ⟨bl, 0, none⟩) (posL X).length capl) (allV X (posL X))) (.slice (some ⟨bl, 0 + f * 66, none⟩) (t - f) (capl - f)) (grp X f t).length 66 (allV X (grp X f t)) := ⟨_, _, by rw [hgl], allV_len X _, fun _ => ⟨bl, 0 + f * 66, rfl, fun j u hj => by rw [Nat.zero_add]; exact Rd.own (allV_grp hj)⟩⟩
      refine GO.sliceLH (l := f) (h := t) rfl rfl rfl rfl ⟨rfl, rfl, hft, by omega⟩ ?_
      (refine GO.move rfl rfl ?_)
      refine GO.call2 rfl rfl rfl (gcells_spec q (own 106 66 (posL X).length (.slice (some ⟨bl, 0, none⟩) (posL X).length capl) (allV X (posL X))) hq X (z / 16) hz16 (grp X f t) hgo (by rw [hgl]; omega) (.slice (some ⟨bl, 0 + f * 66, none⟩) (t - f) (capl - f)) y hyf hsl J S hy n hd' hn) (Tks.c (Tk.t (Tk.t Tk.h)) (Tks.c (Tk.t (Tk.t Tk.h)) (Tks.c (Tk.t Tk.h) Tks.n))) ?_
      rintro _ _ (⟨rfl, n', hn', hn2, rfl⟩ | ⟨rfl, n', hn', rfl⟩)
      · (refine GO.not rfl rfl ?_; refine GO.nil ?_; refine kthen_n ?_; refine G.condF rfl rfl ?_; refine G.skip ?_; refine kthen_n ?_; refine G.region ?_; refine GO.move rfl rfl ?_; refine GO.assign rfl rfl ?_; refine GO.nil ?_; refine kblock_n ?_; refine kthen_n ?_)
        refine ⟨t, n', ⟨ht2, z / 16 + 1, by omega, hup', hn', hn2⟩, by omega, ?_, ?_⟩
        · (refine SubE.c rfl rfl ?_; refine SubE.c rfl rfl ?_; refine SubE.c rfl rfl ?_; exact SubE.n)
        · ((refine Sb.c (Tk.t (Tk.t (Tk.t Tk.h))) ?_; refine Sb.c (Tk.t (Tk.t Tk.h)) ?_; refine Sb.c Tk.h ?_; refine Sb.c Tk.h ?_); (exact Sb.r))
      · (refine GO.not rfl rfl ?_; refine GO.nil ?_; refine kthen_n ?_; refine G.condT rfl rfl ?_; refine G.ret ?_; refine kthen_r ?_; refine kblock_r ?_; refine kthen_r ?_; refine kblock_r ?_)
        refine KF2.r0 rfl (.inr ⟨n', hn', rfl⟩) ?_
        exact ImpS.cons Tk.h (ImpS.cons Tk.h (ImpS.flat (k := [pt bx (row [.slice (some ⟨bl, 0, none⟩) (posL X).length capl] 101), own 106 66 (posL X).length (.slice (some ⟨bl, 0, none⟩) (posL X).length capl) (allV X (posL X))]) (M := F) (ImpS.sb (by ((refine Sb.c (Tk.t Tk.h) ?_; refine Sb.c Tk.h ?_); (exact Sb.r))))))
  · have hfl : (posL X).length ≤ f := by omega
    have hdz : (cellsX X).drop n = [] := by
      rw [hd, gap_rows (Nat.le_refl 16) hi0 (fun y hy _ => hup.all hfl hy)]
      exact restX_end X
    have hnl : n = (cellsX X).length := by
      have := congrArg List.length hdz
      rw [List.length_drop, List.length_nil] at this
      omega
    subst hnl
    (refine G.exit ?_; refine kthen_x ?_; refine kthen_x ?_; refine kblock_x ?_)
    refine KF2.n0 rfl (.inl rfl) ?_
    exact ImpS.cons (Tk.t (Tk.t Tk.h)) (ImpS.cons (Tk.t (Tk.t Tk.h)) (ImpS.flat (k := [pt bx (row [v] 101), own 106 66 (posL X).length v (allV X (posL X))]) (M := F) ImpS.refl))
end Go.Proofs.YtpfcgfgkmgnaaaaDoor
namespace Go.Proofs.YtpfcgfgkmgnaaaaDoor
open Go
attribute [local irreducible] G GO GR GT Fn FnV pt init exs pur sat own ImpS mat posL allV orL restX cellsX
theorem mcells_seq (q : HP) (hq : Tab q) (X : Nat → Nat → Bool) (bx : Nat) (v : Value) : SeqOK Tryd.prog (.func (.func 96) #[] #[.pointer (some ⟨bx, 0, none⟩)]) ((cellsX X).map celV) [q] [bkM X bx v] :=
  SeqOK.of1 (caps := #[.pointer (some ⟨bx, 0, none⟩)]) fun y J S hy => by rw [List.length_map]; exact cells1_spec q hq X bx v y J S hy
theorem mcells_mat (side b : Nat) (X : Nat → Nat → Bool) : Fn Tryd.prog 65 #[.pointer (some ⟨b, 0, none⟩)] [mat side X b] (fun r Q => ∃ b3 v, r = .func (.func 96) #[] #[.pointer (some ⟨b3, 0, none⟩)] ∧ Q = [bkM X b3 v, mat side X b]) := by
  refine Fn.mk2 Tryd.func65 rfl rfl fun w0 F => ?_
  (refine G.seq ?_; refine G.region ?_; refine GO.assign rfl rfl ?_; refine GO.nil ?_; refine kthen_n ?_; refine G.seq ?_; refine G.region ?_; refine GO.move rfl rfl ?_)
  refine GO.call1 rfl rfl (all_mat side b X) (Tks.c Tk.h Tks.n) ?_
  rintro v5 _ rfl
  refine GO.ownOne Tk.h fun hone => ?_
  (refine GO.alloc rfl fun b3 => ?_; refine GO.store1 rfl rfl (by assumption) Tk.h (by decide) ?_; refine GO.nil ?_; refine kthen_n ?_; refine G.seq ?_; refine G.region ?_; refine GO.makeFunc1 rfl rfl ?_; refine GO.assign rfl rfl ?_; refine GO.nil ?_; refine kthen_n ?_; refine G.ret ?_)
  refine KF2.r1 rfl (RV.t rfl) ⟨_, v5, rfl, rfl⟩ ?_
  refine ImpS.trans (ImpS.sb (M := pt b3 (row [v5] 101) :: own 106 66 (posL X).length v5 (allV X (posL X)) :: mat side X b :: F) ?_) ?_
  · ((refine Sb.c Tk.h ?_; refine Sb.c Tk.h ?_; refine Sb.c Tk.h ?_); (exact Sb.r))
  · exact ImpS.flat (k := [pt b3 (row [v5] 101), own 106 66 (posL X).length v5 (allV X (posL X))]) (M := mat side X b :: F) ImpS.refl
end Go.Proofs.YtpfcgfgkmgnaaaaDoor
namespace Go.Proofs.YtpfcgfgkmgnaaaaDoor
open Go
/-- One's cells and the other's. -/
def uniX (X Y : Nat → Nat → Bool) : Nat → Nat → Bool := fun r c => X r c || Y r c
theorem uni_fold {side : Nat} {Y : Nat → Nat → Bool} (X : Nat → Nat → Bool) (hs : side ≤ 1024) (hin : ∀ r c, Y r c = true → r < side ∧ c < side) : orL (fun z => z / 16) (fun z => z % 16) (fun z => blkAt Y (z / 16) (z % 16)) X (posL Y) = uniX X Y := by
  funext r c
  have h := congrFun (congrFun (part_fold hs hin) r) c
  rw [orL_at] at h ⊢
  rw [show noX r c = false from rfl, Bool.false_or] at h
  rw [h]
  rfl
/-- How many cells there are, when k blocks have come. -/
theorem cnt_step {X W : Nat → Nat → Bool} {z : Nat} (b : Blk) (hz : z < 256) (h : cntX X ≤ cntX W) : cntX X ≤ cntX (orX W (z / 16) (z % 16) b) ∧ decide (cntX X < cntX (orX W (z / 16) (z % 16) b)) = (decide (cntX X < cntX W) || decide (0 < lenB (lessB b (blkAt W (z / 16) (z % 16))) 64)) := by
  rw [cntX_or W (by omega) (Nat.mod_lt _ (by decide))]
  refine ⟨by omega, ?_⟩
  rw [Bool.eq_iff_iff, Bool.or_eq_true, decide_eq_true_iff, decide_eq_true_iff, decide_eq_true_iff]
  omega
theorem own_or {X : Nat → Nat → Bool} (i j : Nat) : orX X i j (blkAt X i j) = X := by
  funext r c
  unfold orX
  cases hX : X r c with
  | true => rfl
  | false =>
    rw [Bool.false_or]
    cases h : (decide (r / 64 = i) && (decide (c / 64 = j) && (blkAt X i j (r % 64)).getLsbD (c % 64))) with
    | false => rfl
    | true =>
      simp only [Bool.and_eq_true, decide_eq_true_eq] at h
      obtain ⟨h1, h2, h3⟩ := h
      rw [blkAt_bit _ _ _ _ _ (Nat.mod_lt _ (by decide)), ← h1, ← h2, blk_part, blk_part, hX] at h3
      exact h3.symm
theorem own_none (X : Nat → Nat → Bool) (i j : Nat) : decide (0 < lenB (lessB (blkAt X i j) (blkAt X i j)) 64) = false := by
  rw [decide_eq_false_iff_not, lenB_none (fun r c hr hc => ?_)]
  · exact Nat.lt_irrefl 0
  · rw [less_bit _ _ _ _ _ _ hc, blkAt_bit _ _ _ _ _ hc]
    cases X (64 * i + r) (64 * j + c) <;> rfl
attribute [local irreducible] G GO GR GT Fn FnV pt init exs pur sat own ImpS mat posL allV orL orX putX cntX
def joinR (s s2 : Nat) (X Y : Nat → Nat → Bool) (b bo : Nat) (r : Value) (Q : List HP) : Prop :=
  (s = s2 ∧ r = .tuple #[.bool (decide (cntX X < cntX (uniX X Y))), i64 0] ∧ Q = [mat s (uniX X Y) b, mat s2 Y bo]) ∨ (s ≠ s2 ∧ r = .tuple #[.bool false, i64 5] ∧ Q = [mat s X b, mat s2 Y bo])
set_option maxHeartbeats 4000000 in
theorem join_mat (s s2 b bo : Nat) (X Y : Nat → Nat → Bool) : Fn Tryd.prog 22 #[.pointer (some ⟨b, 0, none⟩), .pointer (some ⟨bo, 0, none⟩)] [mat s X b, mat s2 Y bo] (joinR s s2 X Y b bo) := by
  refine Fn.mk2 Tryd.func22 rfl rfl fun w0 F => ?_
  refine G.matFact (Tk.t Tk.h) fun hsd hin => ?_
  have hpl : ¬ 256 < (posL Y).length := by have := posL_len Y; omega
  have hfold := uni_fold X hsd.2 hin
  have rs := mat_side (side := s) (b := b) (X := X)
  have rs2 := mat_side (side := s2) (b := bo) (X := Y)
  (refine G.seq ?_; refine G.region ?_; refine GO.assign rfl rfl ?_; refine GO.assign rfl rfl ?_; refine GO.nil ?_; refine kthen_n ?_; refine G.seq ?_; refine G.block ?_; refine G.seq ?_; refine G.region ?_; refine GO.move rfl rfl ?_)
  refine GO.call1 rfl rfl (is_mat s b X) (Tks.c Tk.h Tks.n) ?_
  rintro _ _ ⟨rfl, rfl⟩
  (refine GO.not rfl rfl ?_; refine GO.move rfl rfl ?_; refine GO.gT rfl rfl rfl ?_; refine GO.move rfl rfl ?_; refine GO.gT rfl rfl rfl ?_)
  refine GO.call1 rfl rfl (is_mat s2 bo Y) (Tks.c (Tk.t Tk.h) Tks.n) ?_
  rintro _ _ ⟨rfl, rfl⟩
  (refine GO.gT rfl rfl rfl ?_; refine GO.not rfl rfl ?_; refine GO.pickF rfl rfl rfl ?_; refine GO.assign rfl rfl ?_; refine GO.nil ?_; refine kthen_n ?_; refine G.condF rfl rfl ?_; refine G.seq ?_)
  refine G.draw 10 (by kernel_rfl) ?_
  ((apply GQ.step; focus (intro Z; refine GO.move rfl rfl ?_; exact KQ.z)); (apply GQ.step; focus (intro Z; refine GO.nilCheck rfl rfl ?_; exact KQ.z)); (apply GQ.step; focus (intro Z; refine GO.fieldAddr rfl rfl ?_; exact KQ.z)); (apply GQ.step; focus (intro Z; refine GO.loadQ rfl rfl rfl (Tk.t Tk.h) (by assumption) ?_; exact KQ.z)); (apply GQ.step; focus (intro Z; refine GO.move rfl rfl ?_; exact KQ.z)); (apply GQ.step; focus (intro Z; refine GO.nilCheck rfl rfl ?_; exact KQ.z)); (apply GQ.step; focus (intro Z; refine GO.fieldAddr rfl rfl ?_; exact KQ.z)); (apply GQ.step; focus (intro Z; refine GO.loadQ rfl rfl rfl Tk.h (by assumption) ?_; exact KQ.z)); (apply GQ.step; focus (intro Z; refine GO.nei rfl rfl rfl ?_; exact KQ.z)); (apply GQ.step; focus (intro Z; refine GO.assign rfl rfl ?_; exact KQ.z)); refine GQ.nil ?_)
  (refine GO.nil ?_; refine kthen_n ?_)
  refine G.condD rfl (fun h1 => ?_) (fun h1 => ?_)
  · (refine G.seq ?_; refine G.region ?_; refine GO.assign rfl rfl ?_; refine GO.assign rfl rfl ?_; refine GO.nil ?_; refine kthen_n ?_; refine G.ret ?_; refine kblock_r ?_; refine kthen_r ?_)
    refine KF2.r2 rfl (RV.t rfl) (RV.t rfl) (.inr ⟨by omega, rfl, rfl⟩) (ImpS.sb ?_)
    ((refine Sb.c (Tk.t Tk.h) ?_; refine Sb.c Tk.h ?_); (exact Sb.r))
  · obtain rfl : s = s2 := by omega
    clear rs rs2 h1
    (refine G.skip ?_; refine kblock_n ?_; refine kthen_n ?_; refine G.seq ?_; refine G.region ?_; refine GO.assign rfl rfl ?_; refine GO.nil ?_; refine kthen_n ?_; refine G.seq ?_; refine G.seq ?_; refine G.region ?_; refine GO.move rfl rfl ?_)
    refine GO.call1 rfl rfl (all_mat s bo Y) (Tks.c Tk.h Tks.n) ?_
    rintro v29 _ rfl
    (refine GO.lenOwn rfl rfl Tk.h ?_; refine GO.move rfl rfl ?_; refine GO.nil ?_; refine kthen_n ?_; refine G.block ?_)
    refine G.loop (fun k : Nat => [(0, .pointer (some ⟨b, 0, none⟩)), (6, .bool (decide (cntX X < cntX (orL (fun z => z / 16) (fun z => z % 16) (fun z => blkAt Y (z / 16) (z % 16)) X ((posL Y).take k))))), (29, v29), (30, i64 (posL Y).length), (31, i64 k)])
      (fun k => own 106 66 (posL Y).length v29 (allV Y (posL Y)) :: mat s Y bo :: mat s (orL (fun z => z / 16) (fun z => z % 16) (fun z => blkAt Y (z / 16) (z % 16)) X ((posL Y).take k)) b :: F) (fun k => k ≤ (posL Y).length ∧ cntX X ≤ cntX (orL (fun z => z / 16) (fun z => z % 16) (fun z => blkAt Y (z / 16) (z % 16)) X ((posL Y).take k))) (fun k => (posL Y).length - k) 0 ⟨by omega, by rw [orL_nil]; exact Nat.le_refl _⟩ ?_ ?_ ?_
    · rw [orL_nil, decide_eq_false (Nat.lt_irrefl _)]
      (refine SubE.c rfl rfl ?_; refine SubE.c rfl rfl ?_; refine SubE.c rfl rfl ?_; refine SubE.c rfl rfl ?_; refine SubE.c rfl rfl ?_; exact SubE.n)
    · rw [orL_nil]
      ((refine Sb.c Tk.h ?_; refine Sb.c Tk.h ?_; refine Sb.c Tk.h ?_); (exact Sb.r))
    rintro k ⟨hk, hle⟩
    (refine G.seq ?_; refine G.region ?_; refine GO.lti rfl rfl rfl ?_; refine GO.nil ?_; refine kthen_n ?_; refine G.seq ?_)
    refine G.condD rfl (fun hlt => ?_) (fun hge => ?_)
    · have hlt' : k < (posL Y).length := by omega
      obtain ⟨z, hz⟩ : ∃ z, (posL Y)[k]? = some z := ⟨(posL Y)[k], by simp [hlt']⟩
      refine G.ownForm (by omega) Tk.h fun bl capl e2 hd1 hd2 hd3 => ?_
      subst e2
      have hzm := List.mem_of_getElem? hz
      have hz256 := (posL_mem.1 hzm).1
      have hfit := part_fit (z := z) hin
      clear hlt' hd1 hd2 hd3
      (refine G.skip ?_; refine kthen_n ?_; refine G.seq ?_; refine G.block ?_; refine G.seq ?_; refine G.region ?_)
      refine GO.idxS (j := k) rfl rfl rfl ⟨rfl, by omega⟩ ?_
      refine GO.loadQV rfl rfl rfl rfl hz Tk.h ?_
      obtain ⟨hle', hdec⟩ := cnt_step (blkAt Y (z / 16) (z % 16)) hz256 hle
      rw [← orL_succ (fi := fun z => z / 16) (fj := fun z => z % 16) (fb := fun z => blkAt Y (z / 16) (z % 16)) hz] at hle' hdec
      (refine GO.alloc rfl fun b8 => ?_; refine GO.storeW rfl rfl Tk.h ⟨qV_len _ _ _, zV_len⟩ (qV_one _ _ _) ?_; refine GO.nil ?_; refine kthen_n ?_; refine G.seq ?_; refine G.region ?_; refine GO.move rfl rfl ?_; refine GO.fieldAddr rfl rfl ?_; refine GO.fieldAddr rfl rfl ?_; refine GO.load1 rfl rfl rfl Tk.h rfl ?_; refine GO.fieldAddr rfl rfl ?_; refine GO.fieldAddr rfl rfl ?_; refine GO.load1 rfl rfl rfl Tk.h rfl ?_; refine GO.fieldAddr rfl rfl ?_; refine GO.loadB2 rfl rfl rfl rfl Tk.h ?_)
      refine GO.call4 rfl rfl rfl rfl rfl (or_mat s b (z / 16) (z % 16) (orL (fun z => z / 16) (fun z => z % 16) (fun z => blkAt Y (z / 16) (z % 16)) X ((posL Y).take k)) (blkAt Y (z / 16) (z % 16)) (by omega) (by omega) hfit) (Tks.c (Tk.t (Tk.t (Tk.t Tk.h))) Tks.n) ?_
      rintro _ _ ⟨rfl, rfl⟩
      cases hm : decide (0 < lenB (lessB (blkAt Y (z / 16) (z % 16)) (blkAt (orL (fun z => z / 16) (fun z => z % 16) (fun z => blkAt Y (z / 16) (z % 16)) X ((posL Y).take k)) (z / 16) (z % 16))) 64) with
      | true =>
        rw [hm, Bool.or_true] at hdec
        (refine GO.nil ?_; refine kthen_n ?_; refine G.condT rfl rfl ?_; refine G.region ?_; refine GO.assign rfl rfl ?_; refine GO.nil ?_; refine kblock_n ?_; refine kthen_n ?_; refine G.region ?_; refine GO.addi rfl rfl rfl (by omega) ?_; refine GO.move rfl rfl ?_; refine GO.nil ?_; refine kthen_n ?_)
        refine ⟨k + 1, ⟨by omega, hle'⟩, by omega, ?_, ?_⟩
        · rw [hdec]
          (refine SubE.c rfl rfl ?_; refine SubE.c rfl rfl ?_; refine SubE.c rfl rfl ?_; refine SubE.c rfl rfl ?_; refine SubE.c rfl rfl ?_; exact SubE.n)
        · rw [orL_succ hz]
          ((refine Sb.c (Tk.t (Tk.t Tk.h)) ?_; refine Sb.c (Tk.t (Tk.t Tk.h)) ?_; refine Sb.c Tk.h ?_); (refine Sb.s ?_; exact Sb.r))
      | false =>
        rw [hm, Bool.or_false] at hdec
        (refine GO.nil ?_; refine kthen_n ?_; refine G.condF rfl rfl ?_; refine G.skip ?_; refine kblock_n ?_; refine kthen_n ?_; refine G.region ?_; refine GO.addi rfl rfl rfl (by omega) ?_; refine GO.move rfl rfl ?_; refine GO.nil ?_; refine kthen_n ?_)
        refine ⟨k + 1, ⟨by omega, hle'⟩, by omega, ?_, ?_⟩
        · rw [hdec]
          (refine SubE.c rfl rfl ?_; refine SubE.c rfl rfl ?_; refine SubE.c rfl rfl ?_; refine SubE.c rfl rfl ?_; refine SubE.c rfl rfl ?_; exact SubE.n)
        · rw [orL_succ hz]
          ((refine Sb.c (Tk.t (Tk.t Tk.h)) ?_; refine Sb.c (Tk.t (Tk.t Tk.h)) ?_; refine Sb.c Tk.h ?_); (refine Sb.s ?_; exact Sb.r))
    · obtain rfl : k = (posL Y).length := by omega
      rw [List.take_length, hfold]
      (refine G.exit ?_; refine kthen_x ?_; refine kthen_x ?_; refine kblock_x ?_; refine kthen_n ?_; refine G.seq ?_; refine G.region ?_; refine GO.move rfl rfl ?_; refine GO.assign rfl rfl ?_; refine GO.assign rfl rfl ?_; refine GO.nil ?_; refine kthen_n ?_; refine G.ret ?_)
      refine KF2.r2 rfl (RV.t rfl) (RV.t rfl) (.inl ⟨rfl, rfl, rfl⟩) (ImpS.sb ?_)
      ((refine Sb.c (Tk.t (Tk.t Tk.h)) ?_; refine Sb.c (Tk.t Tk.h) ?_); (refine Sb.s ?_; exact Sb.r))
/-- .. with itself. -/
theorem join_self (s b : Nat) (X : Nat → Nat → Bool) : Fn Tryd.prog 22 #[.pointer (some ⟨b, 0, none⟩), .pointer (some ⟨b, 0, none⟩)] [mat s X b] (fun r Q => r = .tuple #[.bool false, i64 0] ∧ Q = [mat s X b]) := by
  refine Fn.mk2 Tryd.func22 rfl rfl fun w0 F => ?_
  refine G.matFact Tk.h fun hsd hin => ?_
  have hpl : ¬ 256 < (posL X).length := by have := posL_len X; omega
  have rs := mat_side (side := s) (b := b) (X := X)
  (refine G.seq ?_; refine G.region ?_; refine GO.assign rfl rfl ?_; refine GO.assign rfl rfl ?_; refine GO.nil ?_; refine kthen_n ?_; refine G.seq ?_; refine G.block ?_; refine G.seq ?_; refine G.region ?_; refine GO.move rfl rfl ?_)
  refine GO.call1 rfl rfl (is_mat s b X) (Tks.c Tk.h Tks.n) ?_
  rintro _ _ ⟨rfl, rfl⟩
  (refine GO.not rfl rfl ?_; refine GO.move rfl rfl ?_; refine GO.gT rfl rfl rfl ?_; refine GO.move rfl rfl ?_; refine GO.gT rfl rfl rfl ?_)
  refine GO.call1 rfl rfl (is_mat s b X) (Tks.c Tk.h Tks.n) ?_
  rintro _ _ ⟨rfl, rfl⟩
  (refine GO.gT rfl rfl rfl ?_; refine GO.not rfl rfl ?_; refine GO.pickF rfl rfl rfl ?_; refine GO.assign rfl rfl ?_; refine GO.nil ?_; refine kthen_n ?_; refine G.condF rfl rfl ?_; refine G.seq ?_)
  refine G.draw 10 (by kernel_rfl) ?_
  ((apply GQ.step; focus (intro Z; refine GO.move rfl rfl ?_; exact KQ.z)); (apply GQ.step; focus (intro Z; refine GO.nilCheck rfl rfl ?_; exact KQ.z)); (apply GQ.step; focus (intro Z; refine GO.fieldAddr rfl rfl ?_; exact KQ.z)); (apply GQ.step; focus (intro Z; refine GO.loadQ rfl rfl rfl Tk.h (by assumption) ?_; exact KQ.z)); (apply GQ.step; focus (intro Z; refine GO.move rfl rfl ?_; exact KQ.z)); (apply GQ.step; focus (intro Z; refine GO.nilCheck rfl rfl ?_; exact KQ.z)); (apply GQ.step; focus (intro Z; refine GO.fieldAddr rfl rfl ?_; exact KQ.z)); (apply GQ.step; focus (intro Z; refine GO.loadQ rfl rfl rfl Tk.h (by assumption) ?_; exact KQ.z)); (apply GQ.step; focus (intro Z; refine GO.neF rfl rfl rfl rfl ?_; exact KQ.z)); (apply GQ.step; focus (intro Z; refine GO.assign rfl rfl ?_; exact KQ.z)); refine GQ.nil ?_)
  (refine GO.nil ?_; refine kthen_n ?_; refine G.condF rfl rfl ?_; refine G.skip ?_; refine kblock_n ?_; refine kthen_n ?_; refine G.seq ?_; refine G.region ?_; refine GO.assign rfl rfl ?_; refine GO.nil ?_; refine kthen_n ?_; refine G.seq ?_; refine G.seq ?_; refine G.region ?_; refine GO.move rfl rfl ?_)
  clear rs
  skip
  refine GO.call1 rfl rfl (all_mat s b X) (Tks.c Tk.h Tks.n) ?_
  rintro v29 _ rfl
  (refine GO.lenOwn rfl rfl Tk.h ?_; refine GO.move rfl rfl ?_; refine GO.nil ?_; refine kthen_n ?_; refine G.block ?_)
  refine G.loop (fun k : Nat => [(0, .pointer (some ⟨b, 0, none⟩)), (6, .bool false), (29, v29), (30, i64 (posL X).length), (31, i64 k)])
    (fun _ => own 106 66 (posL X).length v29 (allV X (posL X)) :: mat s X b :: F) (fun k => k ≤ (posL X).length) (fun k => (posL X).length - k) 0 (by omega) ?_ ?_ ?_
  · (refine SubE.c rfl rfl ?_; refine SubE.c rfl rfl ?_; refine SubE.c rfl rfl ?_; refine SubE.c rfl rfl ?_; refine SubE.c rfl rfl ?_; exact SubE.n)
  · ((refine Sb.c Tk.h ?_; refine Sb.c Tk.h ?_); (exact Sb.r))
  rintro k hk
  (refine G.seq ?_; refine G.region ?_; refine GO.lti rfl rfl rfl ?_; refine GO.nil ?_; refine kthen_n ?_; refine G.seq ?_)
  refine G.condD rfl (fun hlt => ?_) (fun hge => ?_)
  · have hlt' : k < (posL X).length := by omega
    obtain ⟨z, hz⟩ : ∃ z, (posL X)[k]? = some z := ⟨(posL X)[k], by simp [hlt']⟩
    refine G.ownForm (by omega) Tk.h fun bl capl e2 hd1 hd2 hd3 => ?_
    subst e2
    have hzm := List.mem_of_getElem? hz
    have hz256 := (posL_mem.1 hzm).1
    have hfit := part_fit (z := z) hin
    clear hlt' hd1 hd2 hd3
    (refine G.skip ?_; refine kthen_n ?_; refine G.seq ?_; refine G.block ?_; refine G.seq ?_; refine G.region ?_)
    refine GO.idxS (j := k) rfl rfl rfl ⟨rfl, by omega⟩ ?_
    refine GO.loadQV rfl rfl rfl rfl hz Tk.h ?_
    (refine GO.alloc rfl fun b8 => ?_; refine GO.storeW rfl rfl Tk.h ⟨qV_len _ _ _, zV_len⟩ (qV_one _ _ _) ?_; refine GO.nil ?_; refine kthen_n ?_; refine G.seq ?_; refine G.region ?_; refine GO.move rfl rfl ?_; refine GO.fieldAddr rfl rfl ?_; refine GO.fieldAddr rfl rfl ?_; refine GO.load1 rfl rfl rfl Tk.h rfl ?_; refine GO.fieldAddr rfl rfl ?_; refine GO.fieldAddr rfl rfl ?_; refine GO.load1 rfl rfl rfl Tk.h rfl ?_; refine GO.fieldAddr rfl rfl ?_; refine GO.loadB2 rfl rfl rfl rfl Tk.h ?_)
    refine GO.call4 rfl rfl rfl rfl rfl (or_mat s b (z / 16) (z % 16) X (blkAt X (z / 16) (z % 16)) (by omega) (by omega) hfit) (Tks.c (Tk.t (Tk.t Tk.h)) Tks.n) ?_
    rintro _ _ ⟨rfl, rfl⟩
    rw [own_none, own_or]
    (refine GO.nil ?_; refine kthen_n ?_; refine G.condF rfl rfl ?_; refine G.skip ?_; refine kblock_n ?_; refine kthen_n ?_; refine G.region ?_; refine GO.addi rfl rfl rfl (by omega) ?_; refine GO.move rfl rfl ?_; refine GO.nil ?_; refine kthen_n ?_)
    refine ⟨k + 1, by omega, by omega, ?_, ?_⟩
    · (refine SubE.c rfl rfl ?_; refine SubE.c rfl rfl ?_; refine SubE.c rfl rfl ?_; refine SubE.c rfl rfl ?_; refine SubE.c rfl rfl ?_; exact SubE.n)
    · ((refine Sb.c (Tk.t (Tk.t Tk.h)) ?_; refine Sb.c Tk.h ?_); (refine Sb.s ?_; exact Sb.r))
  · obtain rfl : k = (posL X).length := by omega
    (refine G.exit ?_; refine kthen_x ?_; refine kthen_x ?_; refine kblock_x ?_; refine kthen_n ?_; refine G.seq ?_; refine G.region ?_; refine GO.move rfl rfl ?_; refine GO.assign rfl rfl ?_; refine GO.assign rfl rfl ?_; refine GO.nil ?_; refine kthen_n ?_; refine G.ret ?_)
    refine KF2.r2 rfl (RV.t rfl) (RV.t rfl) ⟨rfl, rfl⟩ (ImpS.sb ?_)
    ((refine Sb.c (Tk.t Tk.h) ?_); (refine Sb.s ?_; exact Sb.r))
end Go.Proofs.YtpfcgfgkmgnaaaaDoor
namespace Go.Proofs.YtpfcgfgkmgnaaaaDoor
open Go
theorem flip_add (X : Nat → Nat → Bool) (i j : Nat) : flipX (addX X i j) = addX (flipX X) j i := by
  funext r c
  unfold flipX addX
  rw [Bool.and_comm]
theorem cnt_flip {l : List (Int × Int)} (h : ∀ p ∈ l, p.1 < 1024 ∧ p.2 < 1024) : ∀ k, k ≤ l.length → cntX (flipX (setL noX (l.take k))) = cntX (setL noX (l.take k))
  | 0, _ => rfl
  | k + 1, hk => by
    have ih := cnt_flip h k (by omega)
    obtain ⟨p, hp⟩ : ∃ p, l[k]? = some p := ⟨l[k], by simp⟩
    have hp1 := h p (List.mem_of_getElem? hp)
    rw [setL_succ hp, flip_add]
    cases hx : setL noX (l.take k) p.1.toNat p.2.toNat with
    | true => rw [addX_has hx, addX_has (show flipX (setL noX (l.take k)) p.2.toNat p.1.toNat = true from hx)]; exact ih
    | false => rw [cntX_add (by omega) (by omega) hx, cntX_add (by omega) (by omega) (show flipX (setL noX (l.take k)) p.2.toNat p.1.toNat = false from hx), ih]
theorem put_flip {side : Nat} (hs : 1 ≤ side ∧ side ≤ 1024) (l : List (Int × Int)) : cntX (flipX (putX side l)) = cntX (putX side l) := by
  have h := cnt_flip (l := takeL side l) (fun p hp => ?_) _ (Nat.le_refl _)
  · rw [List.take_length] at h; exact h
  obtain ⟨u, _, rfl⟩ := List.mem_map.1 hp
  have h1 := Int.emod_lt_of_pos (u.1 % 1024) (show (0 : Int) < side by omega)
  have h2 := Int.emod_lt_of_pos (u.2 % 1024) (show (0 : Int) < side by omega)
  exact ⟨by show u.1 % 1024 % side < 1024; omega, by show u.2 % 1024 % side < 1024; omega⟩
theorem diff_no (X : Nat → Nat → Bool) : diffX X noX = X := by
  funext r c
  unfold diffX noX
  simp
theorem add_eq {X : Nat → Nat → Bool} {i j : Nat} : X = addX X i j ↔ X i j = true := by
  constructor
  · intro h
    have := congrFun (congrFun h i) j
    rw [this]; unfold addX; simp
  · intro h; rw [addX_has h]
attribute [local irreducible] G GO GR GT Fn FnV pt init exs pur sat own ImpS mat posL allV orL exX putX cntX
end Go.Proofs.YtpfcgfgkmgnaaaaDoor
namespace Go.Proofs.YtpfcgfgkmgnaaaaDoor
open Go
theorem cellsX_get {X : Nat → Nat → Bool} {k : Nat} {u : List Value} (h : ((cellsX X).map celV)[k]? = some u) : ∃ r c, X r c = true ∧ u = [i64 (r : Nat), i64 (c : Nat)] := by
  rw [List.getElem?_map] at h
  cases hc : (cellsX X)[k]? with
  | none => simp [hc] at h
  | some p =>
    simp [hc] at h
    exact ⟨p.1, p.2, cellsX_true (List.mem_of_getElem? hc), h.symm⟩
theorem getM_at {X : Nat → Nat → Bool} {side r c : Nat} (hr : r < side) (hc : c < side) : getM X side r c = .tuple #[.bool (X r c), i64 0] := by
  unfold getM
  rw [inM_nat hr hc, if_pos rfl]
  rfl
attribute [local irreducible] G GO GR GT Fn FnV pt init exs pur sat own ImpS mat posL allV orL exX putX cntX restX cellsX
end Go.Proofs.YtpfcgfgkmgnaaaaDoor
namespace Go.Proofs.YtpfcgfgkmgnaaaaDoor
open Go
theorem uni_comm (X Y : Nat → Nat → Bool) : uniX X Y = uniX Y X := by
  funext r c
  exact Bool.or_comm _ _
theorem uni_again (X Y : Nat → Nat → Bool) : uniX (uniX X Y) Y = uniX X Y := by
  funext r c
  unfold uniX
  cases X r c <;> cases Y r c <;> rfl
theorem diff_all (X Y : Nat → Nat → Bool) : diffX X (uniX X Y) = noX := by
  funext r c
  unfold diffX uniX noX
  cases X r c <;> cases Y r c <;> rfl
theorem sumTo_zero {f : Nat → Nat} (h : ∀ i, f i = 0) : ∀ n, sumTo f n = 0
  | 0 => rfl
  | n + 1 => by simp only [sumTo]; rw [sumTo_zero h n, h n]
theorem cnt_no : cntX noX = 0 := by
  unfold cntX
  exact sumTo_zero (fun i => sumTo_zero (fun j => lenB_none fun r c hr hc => by rw [blkAt_bit _ _ _ _ _ hc]; rfl) 16) 16
theorem sumTo_add (f g : Nat → Nat) : ∀ n, sumTo (fun i => f i + g i) n = sumTo f n + sumTo g n
  | 0 => rfl
  | n + 1 => by simp only [sumTo]; rw [sumTo_add f g n]; omega
theorem cnt_sub {Y Z : Nat → Nat → Bool} (h : ∀ r c, Y r c = true → Z r c = true) : cntX (diffX Z Y) + cntX Y = cntX Z := by
  have hb : ∀ i j, lenB (blkAt Z i j) 64 = lenB (blkAt (diffX Z Y) i j) 64 + lenB (blkAt Y i j) 64 := fun i j => by
    have e1 : lenB (blkAt Z i j) 64 = lenB (orB (blkAt Y i j) (blkAt Z i j)) 64 := lenB_congr fun r hr => eq_of_bits fun c hc => by
      unfold orB
      rw [BitVec.getLsbD_or, blkAt_bit _ _ _ _ _ hc, blkAt_bit _ _ _ _ _ hc]
      cases hy : Y (64 * i + r) (64 * j + c) with
      | true => rw [h _ _ hy]; rfl
      | false => rfl
    have e2 : lenB (lessB (blkAt Z i j) (blkAt Y i j)) 64 = lenB (blkAt (diffX Z Y) i j) 64 := lenB_congr fun r hr => eq_of_bits fun c hc => by
      rw [less_bit _ _ _ _ _ _ hc, blkAt_bit _ _ _ _ _ hc, blkAt_bit _ _ _ _ _ hc]
      rfl
    rw [e1, lenB_or, e2, Nat.add_comm]
  unfold cntX
  rw [← sumTo_add]
  refine sumTo_congr fun i _ => ?_
  rw [← sumTo_add]
  exact sumTo_congr fun j _ => (hb i j).symm
theorem lenB_max (B : Blk) : ∀ n, lenB B n ≤ n * 64
  | 0 => Nat.zero_le _
  | n + 1 => by
    have h1 := lenB_max B n
    have h2 : ∀ (x : BitVec 64) m, cnt x m ≤ m := fun x m => by
      induction m with
      | zero => exact Nat.le_refl _
      | succ m ih => simp only [cnt]; cases x.getLsbD m <;> simp <;> omega
    have h3 := h2 (B n) 64
    simp only [lenB]
    rw [ones_cnt]
    omega
theorem cnt_max (X : Nat → Nat → Bool) : ¬ 1048576 < cntX X := by
  have h := sumTo_le (f := fun i => sumTo (fun j => lenB (blkAt X i j) 64) 16) (m := 65536) (fun i => by
    have := sumTo_le (f := fun j => lenB (blkAt X i j) 64) (m := 4096) (fun j => lenB_max _ 64) 16
    omega) 16
  unfold cntX
  omega
theorem uni_right {X Y : Nat → Nat → Bool} (r c : Nat) (h : Y r c = true) : uniX X Y r c = true := by
  show (X r c || Y r c) = true
  rw [h, Bool.or_true]
theorem uni_diff {X Y : Nat → Nat → Bool} (r c : Nat) (h : diffX (uniX X Y) Y r c = true) : X r c = true ∧ Y r c = false := by
  have h : ((X r c || Y r c) && !Y r c) = true := h
  cases hy : Y r c with
  | true => rw [hy] at h; simp at h
  | false => rw [hy] at h; simp at h; exact ⟨h, rfl⟩
theorem same_more (x y : Nat) : (!(decide (x < y) == decide ((x : Int) < (y : Int)))) = false := by
  have : decide (x < y) = decide ((x : Int) < (y : Int)) := by rw [decide_eq_decide]; omega
  rw [this, beq_self_eq_true]; rfl
attribute [local irreducible] G GO GR GT Fn FnV pt init exs pur sat own ImpS mat posL allV orL exX putX cntX restX cellsX uniX diffX
end Go.Proofs.YtpfcgfgkmgnaaaaDoor
namespace Go.Proofs.YtpfcgfgkmgnaaaaDoor
open Go
theorem telescope {f g : Nat → Nat} : ∀ {n : Nat}, (∀ j, j < n → g j = f j + g (j + 1)) → g 0 = sumTo f n + g n
  | 0, _ => by simp [sumTo]
  | n + 1, h => by
    have h1 := telescope (n := n) (fun j hj => h j (by omega))
    have h2 := h n (by omega)
    simp only [sumTo]
    omega
theorem sumTo_swap (f : Nat → Nat → Nat) (m : Nat) : ∀ n, sumTo (fun i => sumTo (fun j => f i j) m) n = sumTo (fun j => sumTo (fun i => f i j) n) m
  | 0 => (sumTo_zero (fun _ => rfl) m).symm
  | n + 1 => by
    simp only [sumTo]
    rw [sumTo_swap f m n, sumTo_add]
theorem lenB_sum (B : Blk) : ∀ n, lenB B n = sumTo (fun r => cnt (B r) 64) n
  | 0 => rfl
  | n + 1 => by simp only [lenB, sumTo]; rw [lenB_sum B n, ones_cnt]
attribute [local irreducible] sumTo restX
theorem cellsX_len (X : Nat → Nat → Bool) : (cellsX X).length = cntX X := by
  have h1 : ∀ i r, i < 16 → r < 64 → (restX X (65536 * i + 1024 * r)).length = sumTo (fun j => cnt (blkAt X i j r) 64) 16 + (restX X (65536 * i + 1024 * (r + 1))).length := fun i r hi hr => by
    have h : (restX X (65536 * i + 1024 * r + 64 * 0)).length = sumTo (fun j => cnt (blkAt X i j r) 64) 16 + (restX X (65536 * i + 1024 * r + 64 * 16)).length := telescope (f := fun j => cnt (blkAt X i j r) 64) (g := fun j => (restX X (65536 * i + 1024 * r + 64 * j)).length) (n := 16) (fun j hj => by
      show (restX X (65536 * i + 1024 * r + 64 * j)).length = _
      rw [restX_row X hi hr hj, List.length_append, List.length_map, rowL_len])
    rw [show 65536 * i + 1024 * r + 64 * 0 = 65536 * i + 1024 * r by omega, show 65536 * i + 1024 * r + 64 * 16 = 65536 * i + 1024 * (r + 1) by omega] at h
    exact h
  have h2 : ∀ i, i < 16 → (restX X (65536 * i)).length = sumTo (fun j => lenB (blkAt X i j) 64) 16 + (restX X (65536 * (i + 1))).length := fun i hi => by
    have h : (restX X (65536 * i + 1024 * 0)).length = sumTo (fun r => sumTo (fun j => cnt (blkAt X i j r) 64) 16) 64 + (restX X (65536 * i + 1024 * 64)).length := telescope (f := fun r => sumTo (fun j => cnt (blkAt X i j r) 64) 16) (g := fun r => (restX X (65536 * i + 1024 * r)).length) (n := 64) (fun r hr => h1 i r hi hr)
    have e : sumTo (fun j => lenB (blkAt X i j) 64) 16 = sumTo (fun j => sumTo (fun r => cnt (blkAt X i j r) 64) 64) 16 := sumTo_congr fun j _ => lenB_sum _ _
    rw [sumTo_swap, ← e, show 65536 * i + 1024 * 0 = 65536 * i by omega, show 65536 * i + 1024 * 64 = 65536 * (i + 1) by omega] at h
    exact h
  have h3 : (restX X (65536 * 0)).length = sumTo (fun i => sumTo (fun j => lenB (blkAt X i j) 64) 16) 16 + (restX X (65536 * 16)).length := telescope (f := fun i => sumTo (fun j => lenB (blkAt X i j) 64) 16) (g := fun i => (restX X (65536 * i)).length) (n := 16) h2
  have e0 : (restX X (65536 * 16)).length = 0 := by rw [show 65536 * 16 = 1048576 by omega, restX_end, List.length_nil]
  rw [e0, Nat.mul_zero, Nat.add_zero] at h3
  have e1 : cntX X = sumTo (fun i => sumTo (fun j => lenB (blkAt X i j) 64) 16) 16 := by unfold cntX; rfl
  have e2 : cellsX X = restX X 0 := by unfold cellsX; rfl
  rw [e1, e2]
  exact h3
attribute [local semireducible] sumTo restX
/-- A row's cells. -/
def rowX (X : Nat → Nat → Bool) (i : Nat) : List Nat := (List.range 1024).filter fun c => X i c
theorem restX_line (X : Nat → Nat → Bool) {i : Nat} (hi : i < 1024) : restX X (1024 * i) = ((rowX X i).map fun c => (i, c)) ++ restX X (1024 * (i + 1)) := by
  rw [restX_cut X (K' := 1024 * (i + 1)) (by omega) (by omega), show 1024 * (i + 1) - 1024 * i = 1024 by omega]
  refine congrArg (fun l => l ++ restX X (1024 * (i + 1))) ?_
  unfold rowX
  rw [List.range'_eq_map_range, List.filter_map, List.map_map]
  have hm : ∀ c, c < 1024 → (1024 * i + c) / 1024 = i ∧ (1024 * i + c) % 1024 = c := fun c hc => by omega
  rw [List.filter_congr (q := fun c => X i c) (fun c hc => ?_)]
  · refine List.map_congr_left fun c hc => ?_
    have hc' := hm c (by have := (List.mem_filter.1 hc).1; simpa using this)
    show (_, _) = (_, _)
    rw [hc'.1, hc'.2]
  · have hc' : c < 1024 := by simpa using hc
    show X _ _ = _
    rw [(hm c hc').1, (hm c hc').2]
def lines (X : Nat → Nat → Bool) (i : Nat) : List (Nat × Nat) := (List.range i).flatMap fun r => (rowX X r).map fun c => (r, c)
theorem lines_succ (X : Nat → Nat → Bool) (i : Nat) : lines X (i + 1) = lines X i ++ (rowX X i).map fun c => (i, c) := by
  unfold lines; rw [List.range_succ, List.flatMap_append]; simp
theorem lines_rest (X : Nat → Nat → Bool) : ∀ {i : Nat}, i ≤ 1024 → cellsX X = lines X i ++ restX X (1024 * i)
  | 0, _ => rfl
  | i + 1, h => by rw [lines_rest X (i := i) (by omega), restX_line X (by omega), lines_succ, List.append_assoc]
theorem lines_all {side : Nat} {X : Nat → Nat → Bool} (hs : side ≤ 1024) (hin : ∀ r c, X r c = true → r < side ∧ c < side) : lines X side = cellsX X := by
  rw [lines_rest X hs, restX_skip (K' := 1048576) (by omega) (Nat.le_refl _) (fun z h1 h2 => ?_), restX_end, List.append_nil]
  cases hx : X (z / 1024) (z % 1024) with
  | false => rfl
  | true => have := hin _ _ hx; omega
theorem rowX_len {side : Nat} {X : Nat → Nat → Bool} (i : Nat) : ¬ 1024 < (rowX X i).length := by
  have := List.length_filter_le (fun c => X i c) (List.range 1024)
  rw [List.length_range] at this
  unfold rowX; omega
theorem setL_at (r c : Nat) : ∀ (l : List (Nat × Nat)) (Y : Nat → Nat → Bool), setL Y (castL l) r c = (Y r c || l.any fun p => decide (r = p.1) && decide (c = p.2))
  | [], Y => by simp [setL, castL]
  | p :: l, Y => by
    show setL (addX Y ((p.1 : Int)).toNat ((p.2 : Int)).toNat) (castL l) r c = _
    rw [setL_at r c l, List.any_cons, ← Bool.or_assoc]
    rfl
theorem set_all {side : Nat} {X : Nat → Nat → Bool} (hs : side ≤ 1024) (hin : ∀ r c, X r c = true → r < side ∧ c < side) : setL noX (castL (cellsX X)) = X := by
  funext r c
  rw [setL_at, show noX r c = false from rfl, Bool.false_or, Bool.eq_iff_iff, List.any_eq_true]
  constructor
  · rintro ⟨p, hp, h⟩
    simp only [Bool.and_eq_true, decide_eq_true_eq] at h
    rw [h.1, h.2]; exact cellsX_true hp
  · intro h
    exact ⟨(r, c), cellsX_pos hs hin h, by simp⟩
theorem inL_all {side : Nat} {X : Nat → Nat → Bool} (hin : ∀ r c, X r c = true → r < side ∧ c < side) : inL side (castL (cellsX X)) = true := by
  unfold inL castL
  rw [List.all_eq_true]
  intro p hp
  obtain ⟨u, hu, rfl⟩ := List.mem_map.1 hp
  have := hin _ _ (cellsX_true hu)
  exact inM_nat this.1 this.2
/-- The cells by one number each. -/
def keysX (s : Nat) (X : Nat → Nat → Bool) : List Nat := (cellsX X).map fun p => p.1 * s + p.2
theorem keys_up {s : Nat} {X : Nat → Nat → Bool} (hin : ∀ r c, X r c = true → r < s ∧ c < s) : (keysX s X).Pairwise (fun a b => a < b) := by
  unfold keysX cellsX restX
  rw [List.map_map, List.pairwise_map]
  refine List.Pairwise.imp_of_mem ?_ (List.Pairwise.filter _ (List.pairwise_lt_range' (s := 0) (n := 1048576 - 0) 1))
  intro a b ha hb hab
  have h1 := hin _ _ (List.mem_filter.1 ha).2
  have h2 := hin _ _ (List.mem_filter.1 hb).2
  show a / 1024 * s + a % 1024 < b / 1024 * s + b % 1024
  by_cases h : a / 1024 = b / 1024
  · rw [h]; omega
  · have h3 : a / 1024 + 1 ≤ b / 1024 := by omega
    have h4 := Nat.mul_le_mul_right s h3
    rw [Nat.add_mul] at h4
    omega
theorem keys_get {s : Nat} {X : Nat → Nat → Bool} {k : Nat} {p : Nat × Nat} (h : (cellsX X)[k]? = some p) : (keysX s X)[k]? = some (p.1 * s + p.2) := by
  unfold keysX; rw [List.getElem?_map, h]; rfl
/-! ## A row, block by block -/
def rowTo (X : Nat → Nat → Bool) (i n : Nat) : List Nat := (List.range n).filter fun c => X i c
theorem rowTo_step (X : Nat → Nat → Bool) (i j : Nat) : rowTo X i (64 * (j + 1)) = rowTo X i (64 * j) ++ ((rowL 0 (blkAt X (i / 64) j (i % 64))).map fun p => 64 * j + p.2) := by
  unfold rowTo rowL
  rw [show 64 * (j + 1) = 64 * j + 64 by omega, List.range_add, List.filter_append, List.filter_map, List.map_map]
  congr 1
  rw [List.filter_congr (q := fun c => (blkAt X (i / 64) j (i % 64)).getLsbD c) (fun c hc => ?_)]
  · rfl
  · have hc' : c < 64 := by simpa using hc
    show X i (64 * j + c) = _
    rw [blkAt_bit _ _ _ _ _ hc', blk_part]
theorem rowTo_none (X : Nat → Nat → Bool) {i j : Nat} (h : ∀ c, c < 64 → X i (64 * j + c) = false) : rowTo X i (64 * (j + 1)) = rowTo X i (64 * j) := by
  unfold rowTo
  rw [show 64 * (j + 1) = 64 * j + 64 by omega, List.range_add, List.filter_append, (List.filter_eq_nil_iff (l := (List.range 64).map (64 * j + ·))).2, List.append_nil]
  intro c hc
  obtain ⟨d, hd, rfl⟩ := List.mem_map.1 hc
  rw [h d (by simpa using hd)]; simp
theorem rowTo_end {side : Nat} {X : Nat → Nat → Bool} (hin : ∀ r c, X r c = true → r < side ∧ c < side) {i n : Nat} (h1 : side ≤ n) (h2 : n ≤ 1024) : rowTo X i n = rowX X i := by
  unfold rowTo rowX
  have e : List.range 1024 = List.range n ++ (List.range (1024 - n)).map (n + ·) := by rw [← List.range_add]; congr 1; omega
  rw [e, List.filter_append, (List.filter_eq_nil_iff (l := (List.range (1024 - n)).map (n + ·))).2, List.append_nil]
  intro c hc
  obtain ⟨d, hd, rfl⟩ := List.mem_map.1 hc
  cases hx : X i (n + d) with
  | false => simp
  | true => have := hin _ _ hx; omega
theorem rowTo_len (X : Nat → Nat → Bool) (i n : Nat) : (rowTo X i n).length ≤ n := by
  have := List.length_filter_le (fun c => X i c) (List.range n)
  rw [List.length_range] at this
  exact this
end Go.Proofs.YtpfcgfgkmgnaaaaDoor
namespace Go.Proofs.YtpfcgfgkmgnaaaaDoor
open Go
/-- Numbers as cells. -/
def natsV (l : List Nat) : List Value := l.map fun c => i64 (c : Nat)
theorem natsV_len (l : List Nat) : (natsV l).length = l.length := by simp [natsV]
theorem natsV_one (l : List Nat) (c : Nat) : natsV l ++ [i64 (c : Nat)] = natsV (l ++ [c]) := by simp [natsV]
theorem natsV_get {l : List Nat} {k c : Nat} (h : l[k]? = some c) : (natsV l)[k]? = some (i64 (c : Nat)) := by simp [natsV, h]
theorem rowOf_t (B : Blk) {r : Nat} (h : r < 64) : rowOf B (r : Nat) = .tuple #[u64 (B r), i64 0] := by
  unfold rowOf
  rw [if_pos ⟨by omega, by omega⟩]
  rfl
def rowK (X : Nat → Nat → Bool) (m j : Nat) (w : BitVec 64) (k : Nat) : List Nat := rowTo X m (64 * j) ++ ((rowL 0 w).take k).map fun p => 64 * j + p.2
theorem rowK_succ (X : Nat → Nat → Bool) (m j : Nat) {w : BitVec 64} {k : Nat} {p : Nat × Nat} (h : (rowL 0 w)[k]? = some p) : rowK X m j w (k + 1) = rowK X m j w k ++ [64 * j + p.2] := by
  unfold rowK
  rw [List.take_add_one, h, List.map_append, List.append_assoc]
  rfl
theorem rowK_nil (X : Nat → Nat → Bool) (m j : Nat) (w : BitVec 64) : rowK X m j w 0 = rowTo X m (64 * j) := by
  unfold rowK
  rw [List.take_zero, List.map_nil, List.append_nil]
theorem rowK_end (X : Nat → Nat → Bool) (m j : Nat) {w : BitVec 64} (hw : blkAt X (m / 64) j (m % 64) = w) : rowK X m j w (rowL 0 w).length = rowTo X m (64 * (j + 1)) := by
  unfold rowK
  rw [List.take_length, rowTo_step, hw]
theorem rowK_len (X : Nat → Nat → Bool) (m j : Nat) (w : BitVec 64) (k : Nat) : (rowK X m j w k).length ≤ 64 * j + 64 := by
  have h1 := rowTo_len X m (64 * j)
  have h2 : ((rowL 0 w).take k).length ≤ 64 := by
    rw [List.length_take, rowL_len]
    have := cnt_le w 64
    omega
  unfold rowK
  rw [List.length_append, List.length_map]
  omega
def rowR (side b : Nat) (X : Nat → Nat → Bool) (q : HP) (i : Int) (r : Value) (Q : List HP) : Prop :=
  (∃ m : Nat, i = m ∧ m < side ∧ ∃ v, r = .tuple #[v, i64 0] ∧ Q = [own 3 1 (rowX X m).length v (natsV (rowX X m)), mat side X b, q]) ∨ (¬ (0 ≤ i ∧ i < side) ∧ r = .tuple #[.slice none 0 0, i64 2] ∧ Q = [mat side X b, q])
attribute [local irreducible] G GO GR GT Fn FnV pt init exs pur sat own ImpS mat posL allV orL restX cellsX natsV rowTo rowX rowK
set_option maxHeartbeats 4000000 in
theorem mrow_mat (q : HP) (hq : Tab q) (side b : Nat) (X : Nat → Nat → Bool) (i : Int) : Fn Tryd.prog 37 #[.pointer (some ⟨b, 0, none⟩), i64 i] [mat side X b, q] (rowR side b X q i) := by
  refine Fn.mk2 Tryd.func37 rfl rfl fun w0 F => ?_
  refine G.matFact Tk.h fun hsd hin => ?_
  refine G.matOpen Tk.h fun g hg => ?_
  (refine G.seq ?_; refine G.region ?_; refine GO.assign rfl rfl ?_; refine GO.assign rfl rfl ?_; refine GO.nil ?_; refine kthen_n ?_; refine G.seq ?_; refine G.block ?_; refine G.seq ?_; refine G.region ?_; refine GO.move rfl rfl ?_)
  refine GO.call1 rfl rfl (is_pcs g hg) (Tks.c Tk.h (Tks.c Tk.h (Tks.c Tk.h Tks.n))) ?_
  rintro _ _ ⟨rfl, rfl⟩
  (refine GO.not rfl rfl ?_; refine GO.assign rfl rfl ?_; refine GO.nil ?_; refine kthen_n ?_; refine G.condF rfl rfl ?_; refine G.seq ?_; refine G.region ?_; refine GO.move rfl rfl ?_; refine GO.move rfl rfl ?_)
  refine GO.call2 rfl rfl rfl (in_pcs g i) (Tks.c Tk.h (Tks.c Tk.h (Tks.c Tk.h Tks.n))) ?_
  rintro _ _ ⟨rfl, rfl⟩
  cases h1 : decide (0 ≤ i ∧ i < side) with
  | false =>
    (refine GO.not rfl rfl ?_; refine GO.assign rfl rfl ?_; refine GO.nil ?_; refine kthen_n ?_; refine G.condT rfl rfl ?_; refine G.seq ?_; refine G.region ?_; refine GO.assign rfl rfl ?_; refine GO.assign rfl rfl ?_; refine GO.nil ?_; refine kthen_n ?_; refine G.ret ?_; refine kblock_r ?_; refine kthen_r ?_)
    refine KF2.r2 rfl (RV.t rfl) (RV.t rfl) (.inr ⟨of_decide_eq_false h1, rfl, rfl⟩) (ImpS.mat g hg (ImpS.sb Sb.r))
  | true =>
    have h3 := of_decide_eq_true h1
    obtain ⟨m, rfl⟩ := Int.eq_ofNat_of_zero_le h3.1
    have hms : m < side := by omega
    have hg0 := hg
    obtain ⟨D, np, nl, P, B, cn, vp, vl⟩ := g
    have hok : MatOK side X D np nl P B cn := hg0
    obtain ⟨ow, low, T⟩ := hok.tree
    obtain ⟨hD1, hD2, hD3⟩ := hok.dp
    have hbd := hok.pow
    have hi := hok.inb (i := m) (by omega)
    refine GO.mem (H' := matP b side D cn vp vl :: parP np vp P :: leaP nl vl B :: q :: F) Sb.r ?_
    refine GO.ownForm T.some (Tk.t Tk.h) fun bp cap e1 _ _ _ => ?_
    subst e1
    refine GO.ownNil (T := 3) (sz := 1) ?_
    (refine GO.not rfl rfl ?_; refine GO.assign rfl rfl ?_; refine GO.nil ?_; refine kthen_n ?_; refine G.condF rfl rfl ?_; refine G.skip ?_; refine kblock_n ?_; refine kthen_n ?_; refine G.seq ?_; refine G.region ?_; refine GO.alloc rfl fun b6 => ?_; refine GO.nil ?_; refine kthen_n ?_; refine G.seq ?_; refine G.seq ?_; refine G.region ?_; refine GO.alloc rfl fun b7 => ?_; refine GO.store1 rfl rfl rfl Tk.h (by decide) ?_; refine GO.nil ?_; refine kthen_n ?_; refine G.block ?_)
    refine G.loop3 (fun (j : Nat) (b7 : Nat) (_ : Value) => [(0, .pointer (some ⟨b, 0, none⟩)), (1, i64 m), (6, .pointer (some ⟨b6, 0, none⟩)), (7, .pointer (some ⟨b7, 0, none⟩))])
      (fun j b7 v => pt b7 (row [i64 j] 3) :: pt b6 (row [v] 67) :: own 3 1 (rowTo X m (64 * j)).length v (natsV (rowTo X m (64 * j))) :: matP b side D cn (.slice (some ⟨bp, 0, none⟩) np cap) vl :: parP np (.slice (some ⟨bp, 0, none⟩) np cap) P :: leaP nl vl B :: q :: F)
      (fun j _ _ => ¬ 16 < j) (fun j _ _ => 16 - j) 0 b7 (.slice none 0 0) (by omega) ?_ ?_ ?_
    · (refine SubE.c rfl rfl ?_; refine SubE.c rfl rfl ?_; refine SubE.c rfl rfl ?_; refine SubE.c rfl rfl ?_; exact SubE.n)
    · rw [show rowTo X m (64 * 0) = [] by unfold rowTo; rfl, show natsV [] = [] by unfold natsV; rfl]
      ((refine Sb.c Tk.h ?_; refine Sb.c Tk.h ?_; refine Sb.c Tk.h ?_; refine Sb.c Tk.h ?_; refine Sb.c Tk.h ?_; refine Sb.c Tk.h ?_; refine Sb.c Tk.h ?_); (exact Sb.r))
    rintro j b7 v hj
    (refine G.seq ?_; refine G.seq ?_)
    refine G.draw 7 (by kernel_rfl) ?_
    ((apply GQ.step; focus (intro Z; refine GO.load1 rfl rfl rfl Tk.h rfl ?_; exact KQ.z)); (apply GQ.step; focus (intro Z; refine GO.muli rfl rfl rfl (by omega) ?_; exact KQ.z)); (apply GQ.step; focus (intro Z; refine GO.move rfl rfl ?_; exact KQ.z)); (apply GQ.step; focus (intro Z; refine GO.nilCheck rfl rfl ?_; exact KQ.z)); (apply GQ.step; focus (intro Z; refine GO.fieldAddr rfl rfl ?_; exact KQ.z)); (apply GQ.step; focus (intro Z; refine GO.load1 rfl rfl rfl (Tk.t (Tk.t (Tk.t Tk.h))) rfl ?_; exact KQ.z)); (apply GQ.step; focus (intro Z; refine GO.lti rfl rfl rfl ?_; exact KQ.z)); refine GQ.nil ?_)
    (refine GO.nil ?_; refine kthen_n ?_)
    refine G.condD rfl (fun hlt => ?_) (fun hge => ?_)
    · have hj16 : j < 16 := by omega
      refine G.skip ?_
      refine kthen_n ?_
      refine G.seq ?_
      refine G.block ?_
      refine G.midB [(0, .pointer (some ⟨b, 0, none⟩)), (1, i64 m), (6, .pointer (some ⟨b6, 0, none⟩)), (7, .pointer (some ⟨b7, 0, none⟩))]
        ((exs fun v => star [pt b6 (row [v] 67), own 3 1 (rowTo X m (64 * (j + 1))).length v (natsV (rowTo X m (64 * (j + 1))))]) :: pt b7 (row [i64 j] 3) :: matP b side D cn (.slice (some ⟨bp, 0, none⟩) np cap) vl :: parP np (.slice (some ⟨bp, 0, none⟩) np cap) P :: leaP nl vl B :: q :: F) ?_ ?_
      · have hj2 : j < 2 ^ D := by omega
        (refine G.seq ?_; refine G.region ?_; refine GO.move rfl rfl ?_; refine GO.move rfl rfl ?_; refine GO.quoi rfl rfl rfl (by omega) ?_; refine GO.load1 rfl rfl rfl Tk.h rfl ?_)
        refine GO.call3 rfl rfl rfl rfl (leaf_spec T side cn b bp cap vl (m / 64) j (by omega) (by omega) (by omega)) (Tks.c (Tk.t (Tk.t (Tk.t Tk.h))) (Tks.c (Tk.t (Tk.t (Tk.t Tk.h))) Tks.n)) ?_
        rintro _ _ ⟨rfl, rfl⟩
        (refine GO.assign rfl rfl ?_; refine GO.nil ?_; refine kthen_n ?_; refine G.seq ?_; refine G.seq ?_; refine G.region ?_; refine GO.move rfl rfl ?_; refine GO.eqi rfl rfl rfl ?_; refine GO.nil ?_; refine kthen_n ?_)
        refine G.condD rfl (fun h5 => ?_) (fun h5 => ?_)
        · have hn : rowTo X m (64 * (j + 1)) = rowTo X m (64 * j) := rowTo_none X fun c hc => by
            have := hok.non (m / 64) j hi hj2 (by omega) (m % 64) c (Nat.mod_lt _ (by decide)) hc
            rw [blk_part] at this
            exact this
          (refine G.exit ?_; refine kthen_x ?_; refine kblock_x ?_; refine kthen_n ?_)
          rw [hn]
          refine ⟨?_, ?_⟩
          · (refine SubE.c rfl rfl ?_; refine SubE.c rfl rfl ?_; refine SubE.c rfl rfl ?_; refine SubE.c rfl rfl ?_; exact SubE.n)
          · refine ImpS.exs v (ImpS.flat (ImpS.sb ?_))
            ((refine Sb.c (Tk.t (Tk.t (Tk.t Tk.h))) ?_; refine Sb.c (Tk.t (Tk.t (Tk.t Tk.h))) ?_; refine Sb.c (Tk.t (Tk.t Tk.h)) ?_; refine Sb.c Tk.h ?_; refine Sb.c Tk.h ?_; refine Sb.c Tk.h ?_; refine Sb.c Tk.h ?_); (exact Sb.r))
        · obtain ⟨q0, hq0⟩ : ∃ q0, fnd P (m / 64) j (D - 1) 0 = q0 + 1 := ⟨fnd P (m / 64) j (D - 1) 0 - 1, by omega⟩
          rw [hq0]
          obtain ⟨hl1, _⟩ := hok.lea (m / 64) j q0 hi hj2 hq0
          have hql := hok.lt hi hj2 hq0
          have hm64 : m % 64 < 64 := Nat.mod_lt _ (by decide)
          have hw1 := hl1 _ hm64
          refine G.ownForm (el := 104) (n' := nl) (by omega) (Tk.t (Tk.t (Tk.t (Tk.t (Tk.t Tk.h))))) fun bl capl e1 _ _ _ => ?_
          subst e1
          (refine G.skip ?_; refine kthen_n ?_; refine G.seq ?_; refine G.region ?_; refine GO.move rfl rfl ?_; refine GO.nilCheck rfl rfl ?_; refine GO.fieldAddr rfl rfl ?_; refine GO.load1 rfl rfl rfl Tk.h rfl ?_; refine GO.move rfl rfl ?_; refine GO.subi rfl rfl rfl (by omega) ?_)
          refine GO.chg (i64 (q0 : Nat)) (by congr 1; omega) ?_
          (refine GO.idxS rfl rfl rfl ⟨rfl, by omega⟩ ?_; refine GO.loadLeaf rfl rfl rfl rfl (by assumption) (Tk.t (Tk.t (Tk.t (Tk.t (Tk.t Tk.h))))) ?_; refine GO.move rfl rfl ?_; refine GO.remi rfl rfl rfl (by omega) ?_)
          refine GO.call2 rfl rfl rfl (row_spec (B q0) ((m % 64 : Nat) : Int)) Tks.n ?_
          rintro _ _ ⟨rfl, rfl⟩
          rw [rowOf_t (B q0) hm64, hw1]
          generalize hw : blkAt X (m / 64) j (m % 64) = w
          (refine GO.move rfl rfl ?_; refine GO.extract rfl rfl rfl ?_; refine GO.extract rfl rfl rfl ?_; refine GO.assign rfl rfl ?_; refine GO.assign rfl rfl ?_; refine GO.nil ?_; refine kthen_n ?_; refine G.seq ?_; refine G.region ?_; refine GO.move rfl rfl ?_)
          refine GO.buildPart1 (built_row w) rfl rfl ?_
          rw [one_row]
          refine GO.call1 rfl rfl (bcells_spec (updB zeroB 0 w)) Tks.n ?_
          rintro _ _ ⟨bI, rfl, rfl⟩
          (refine GO.nil ?_; refine kthen_n ?_; refine G.block ?_)
          rw [← rowK_nil X m j w]
          refine G.impS (H' := (exs fun v => star [pt b6 (row [v] 67), own 3 1 (rowK X m j w 0).length v (natsV (rowK X m j w 0))]) :: pt b7 (row [i64 j] 3) :: q :: pt bI (row (cells (updB zeroB 0 w)) 104) :: matP b side D cn (.slice (some ⟨bp, 0, none⟩) np cap) (.slice (some ⟨bl, 0, none⟩) nl capl) :: parP np (.slice (some ⟨bp, 0, none⟩) np cap) P :: leaP nl (.slice (some ⟨bl, 0, none⟩) nl capl) B :: F) (ImpS.exs v (ImpS.flat (ImpS.sb (by ((refine Sb.c (Tk.t (Tk.t (Tk.t (Tk.t Tk.h)))) ?_; refine Sb.c (Tk.t (Tk.t (Tk.t (Tk.t Tk.h)))) ?_; refine Sb.c (Tk.t (Tk.t (Tk.t Tk.h))) ?_; refine Sb.c (Tk.t (Tk.t (Tk.t (Tk.t Tk.h)))) ?_; refine Sb.c Tk.h ?_; refine Sb.c Tk.h ?_; refine Sb.c Tk.h ?_; refine Sb.c Tk.h ?_); (exact Sb.r)))))) ?_
          refine G.rangeF (F := matP b side D cn (.slice (some ⟨bp, 0, none⟩) np cap) (.slice (some ⟨bl, 0, none⟩) nl capl) :: parP np (.slice (some ⟨bp, 0, none⟩) np cap) P :: leaP nl (.slice (some ⟨bl, 0, none⟩) nl capl) B :: F) (psl := [54]) (v := .func (.func 99) #[] #[.pointer (some ⟨bI, 0, none⟩)]) (xs := (cellsL (updB zeroB 0 w)).map fun p => [cellV p]) (Sh := [q]) (Gm := [pt bI (row (cells (updB zeroB 0 w)) 104)])
            (fun k => [exs fun v => star [pt b6 (row [v] 67), own 3 1 (rowK X m j w k).length v (natsV (rowK X m j w k))], pt b7 (row [i64 j] 3)])
            (fun _ _ => [pur False])
            (fun _ h => by cases h) rfl (fun u hu => by obtain ⟨p, _, rfl⟩ := List.mem_map.1 hu; rfl) rfl (cells_seq q hq (updB zeroB 0 w) bI) ?_ (fun lp Lr Lb w1 F1 k u hu => ?_) ?_ ?_
          · (exact Tks.n)
          · obtain ⟨p, hp, rfl⟩ : ∃ p, (rowL 0 w)[k]? = some p ∧ u = [cellV p] := by
              rw [cellsL_one, List.getElem?_map] at hu
              cases hc : (rowL 0 w)[k]? with
              | none => simp [hc] at hu
              | some p => simp [hc] at hu; exact ⟨p, rfl, hu.symm⟩
            have hp2 : ¬ 64 ≤ p.2 := by
              have := List.mem_of_getElem? hp
              unfold rowL at this
              obtain ⟨c, hc, rfl⟩ := List.mem_map.1 this
              have := List.mem_range.1 (List.mem_filter.1 hc).1
              show ¬ 64 ≤ c
              omega
            have hlk := rowK_len X m j w k
            have hsuc := rowK_succ X m j hp
            change G _ _ _ _ ((54, cellV p) :: _) ((exs fun v => star [pt b6 (row [v] 67), own 3 1 (rowK X m j w k).length v (natsV (rowK X m j w k))]) :: pt b7 (row [i64 j] 3) :: q :: F1)
            refine G.exs fun v3 => G.flat ?_
            (refine G.region ?_; refine GO.alloc rfl fun b11 => ?_; refine GO.storeW rfl rfl Tk.h ⟨rfl, rfl⟩ (by simp [Value.oneCell']) ?_; refine GO.nil ?_)
            refine kA_n ?_
            (refine G.block ?_; refine G.region ?_; refine GO.load1 rfl rfl rfl (Tk.t Tk.h) rfl ?_; refine GO.load1 rfl rfl rfl (Tk.t (Tk.t (Tk.t Tk.h))) rfl ?_; refine GO.muli rfl rfl rfl (by omega) ?_; refine GO.fieldAddr rfl rfl ?_; refine GO.load1 rfl rfl rfl Tk.h rfl ?_; refine GO.addi rfl rfl rfl (by omega) ?_)
            refine GO.buildSlice1 rfl rfl (by simp; rfl) rfl ⟨by omega, by omega⟩ fun b61 => ?_
            refine GO.appendOwn (m := 1) (news := [i64 ((j : Int) * 64 + (p.2 : Nat))]) rfl rfl rfl (Tk.t (Tk.t (Tk.t Tk.h))) Tk.h rfl (by simp [Value.oneCell']) ⟨by decide, rfl⟩ Nat.one_pos (by unfold maxLen; omega) (by omega) fun v4 => ?_
            rw [show ((j : Int) * 64 + (p.2 : Nat)) = ((64 * j + p.2 : Nat) : Int) by omega, natsV_one, ← hsuc, show (rowK X m j w k).length + 1 = (rowK X m j w (k + 1)).length by rw [hsuc, List.length_append]; rfl]
            refine GO.ownOne Tk.h fun hone => ?_
            (refine GO.store1 rfl rfl (by assumption) (Tk.t (Tk.t (Tk.t Tk.h))) (by simp) ?_; refine GO.nil ?_; refine kblock_n ?_)
            refine kB_n (ImpS.exs v4 (ImpS.flat (ImpS.sb ?_)))
            ((refine Sb.c Tk.h ?_; refine Sb.c Tk.h ?_; refine Sb.c (Tk.t (Tk.t Tk.h)) ?_; refine Sb.c (Tk.t (Tk.t Tk.h)) ?_); (refine Sb.s ?_; refine Sb.s ?_; exact Sb.r))
          · rw [List.length_map, cellsL_one, rowK_end X m j hw]
            (refine kblock_n ?_; refine kblock_n ?_; refine kthen_n ?_)
            refine ⟨?_, ImpS.sb ?_⟩
            · (refine SubE.c rfl rfl ?_; refine SubE.c rfl rfl ?_; refine SubE.c rfl rfl ?_; refine SubE.c rfl rfl ?_; exact SubE.n)
            · simp only [List.cons_append, List.nil_append]
              ((refine Sb.c Tk.h ?_; refine Sb.c Tk.h ?_; refine Sb.c (Tk.t (Tk.t Tk.h)) ?_; refine Sb.c (Tk.t (Tk.t Tk.h)) ?_; refine Sb.c (Tk.t (Tk.t Tk.h)) ?_; refine Sb.c Tk.h ?_); (refine Sb.s ?_; exact Sb.r))
          · intro k jc hk
            exact G.pur fun h => h.elim
      · refine G.exs fun v2 => G.flat ?_
        (refine G.seq ?_; refine G.seq ?_; refine G.region ?_; refine GO.load1 rfl rfl rfl (Tk.t (Tk.t Tk.h)) rfl ?_; refine GO.nil ?_; refine kthen_n ?_; refine G.region ?_; refine GO.alloc rfl fun b7 => ?_; refine GO.store1 rfl rfl rfl Tk.h (by decide) ?_; refine GO.nil ?_; refine kthen_n ?_; refine G.region ?_; refine GO.load1 rfl rfl rfl Tk.h rfl ?_; refine GO.addi rfl rfl rfl (by omega) ?_; refine GO.store1 rfl rfl rfl Tk.h (by simp) ?_; refine GO.nil ?_; refine kthen_n ?_)
        refine ⟨j + 1, b7, v2, by omega, by omega, ?_, ?_⟩
        · (refine SubE.c rfl rfl ?_; refine SubE.c rfl rfl ?_; refine SubE.c rfl rfl ?_; refine SubE.c rfl rfl ?_; exact SubE.n)
        · ((refine Sb.c Tk.h ?_; refine Sb.c Tk.h ?_; refine Sb.c Tk.h ?_; refine Sb.c (Tk.t Tk.h) ?_; refine Sb.c (Tk.t Tk.h) ?_; refine Sb.c (Tk.t Tk.h) ?_; refine Sb.c (Tk.t Tk.h) ?_); (refine Sb.s ?_; exact Sb.r))
    · rw [rowTo_end hin (by omega) (by omega)]
      (refine G.exit ?_; refine kthen_x ?_; refine kthen_x ?_; refine kblock_x ?_; refine kthen_n ?_; refine G.seq ?_; refine G.region ?_; refine GO.load1 rfl rfl rfl (Tk.t Tk.h) rfl ?_; refine GO.assign rfl rfl ?_; refine GO.assign rfl rfl ?_; refine GO.nil ?_; refine kthen_n ?_; refine G.ret ?_)
      refine KF2.r2 rfl (RV.t rfl) (RV.t rfl) (.inl ⟨m, rfl, hms, v, rfl, rfl⟩) ?_
      exact ImpS.cons (Tk.t (Tk.t Tk.h)) (ImpS.mat ⟨D, np, nl, P, B, cn, .slice (some ⟨bp, 0, none⟩) np cap, vl⟩ hg (ImpS.sb (by ((refine Sb.c (Tk.t (Tk.t Tk.h)) ?_; refine Sb.c (Tk.t (Tk.t Tk.h)) ?_; refine Sb.c (Tk.t (Tk.t Tk.h)) ?_; refine Sb.c (Tk.t (Tk.t Tk.h)) ?_); (refine Sb.s ?_; refine Sb.s ?_; exact Sb.r)))))
end Go.Proofs.YtpfcgfgkmgnaaaaDoor
namespace Go.Proofs.YtpfcgfgkmgnaaaaDoor
open Go
/-- N slices of our own: the i-th is vs i, of ln i elements, its cells xs i. -/
def fam (T : TypeId) (sz N : Nat) (vs : Nat → Value) (ln : Nat → Nat) (xs : Nat → List Value) : HP := star ((List.range N).map fun i => own T sz (ln i) (vs i) (xs i))
/-- .. without the i-th. -/
def famW (T : TypeId) (sz N : Nat) (vs : Nat → Value) (ln : Nat → Nat) (xs : Nat → List Value) (i : Nat) : HP := star (((List.range N).erase i).map fun i => own T sz (ln i) (vs i) (xs i))
attribute [local irreducible] own
theorem fam_perm {T : TypeId} {sz N : Nat} {vs : Nat → Value} {ln : Nat → Nat} {xs : Nat → List Value} {i : Nat} (hi : i < N) :
    ((List.range N).map fun i => own T sz (ln i) (vs i) (xs i)).Perm (own T sz (ln i) (vs i) (xs i) :: ((List.range N).erase i).map fun i => own T sz (ln i) (vs i) (xs i)) := by
  have := (List.perm_cons_erase (List.mem_range.2 hi)).map fun i => own T sz (ln i) (vs i) (xs i)
  simpa using this
theorem fam_out {T : TypeId} {sz N : Nat} {vs : Nat → Value} {ln : Nat → Nat} {xs : Nat → List Value} {i : Nat} {H F : List HP} (hi : i < N) (tk : Tk (fam T sz N vs ln xs) H F) :
    ImpS H (own T sz (ln i) (vs i) (xs i) :: famW T sz N vs ln xs i :: F) := fun l w s => by
  have s1 : sat (fam T sz N vs ln xs :: (F ++ l)) w := sat_perm (List.Perm.append_right l tk) s
  have s2 := sat_flat.1 s1
  have s3 : sat (own T sz (ln i) (vs i) (xs i) :: ((((List.range N).erase i).map fun i => own T sz (ln i) (vs i) (xs i)) ++ (F ++ l))) w := sat_perm ((fam_perm (T := T) (sz := sz) (vs := vs) (ln := ln) (xs := xs) hi).append_right _) s2
  have s4 : sat ((((List.range N).erase i).map fun i => own T sz (ln i) (vs i) (xs i)) ++ (own T sz (ln i) (vs i) (xs i) :: (F ++ l))) w := sat_perm List.perm_middle.symm s3
  have s5 : sat (famW T sz N vs ln xs i :: own T sz (ln i) (vs i) (xs i) :: (F ++ l)) w := sat_flat.2 s4
  exact sat_perm (List.Perm.swap _ _ _) s5
theorem fam_in {T : TypeId} {sz N : Nat} {vs vs' : Nat → Value} {ln ln' : Nat → Nat} {xs xs' : Nat → List Value} {i : Nat} {H F : List HP} (hi : i < N) (he : ∀ j, j ≠ i → vs' j = vs j ∧ ln' j = ln j ∧ xs' j = xs j)
    (h : ImpS H (own T sz (ln' i) (vs' i) (xs' i) :: famW T sz N vs ln xs i :: F)) : ImpS H (fam T sz N vs' ln' xs' :: F) := fun l w s => by
  have s5 := sat_perm (List.Perm.swap _ _ _) (h l w s)
  have s4 := sat_flat.1 s5
  have e : (((List.range N).erase i).map fun i => own T sz (ln i) (vs i) (xs i)) = (((List.range N).erase i).map fun i => own T sz (ln' i) (vs' i) (xs' i)) := by
    refine List.map_congr_left fun j hj => ?_
    obtain ⟨h1, h2, h3⟩ := he j ((List.nodup_range.mem_erase_iff.1 hj).1)
    rw [h1, h2, h3]
  rw [e] at s4
  have s3 := sat_perm List.perm_middle s4
  exact sat_flat.2 (sat_perm ((fam_perm (T := T) (sz := sz) (vs := vs') (ln := ln') (xs := xs') hi).symm.append_right _) s3)
theorem fam_nil {T : TypeId} {sz : Nat} : ∀ {N : Nat} {F : List HP}, ImpS F (fam T sz N (fun _ => .slice none 0 0) (fun _ => 0) (fun _ => []) :: F)
  | 0, F => fun l w s => sat_flat.2 s
  | N + 1, F => fun l w s => by
    have s1 := fam_nil (T := T) (sz := sz) (N := N) (F := F) l w s
    have s2 := sat_flat.1 s1
    have s3 := own_nil (el := T) (sz := sz) s2
    refine sat_flat.2 (sat_perm ?_ s3)
    rw [List.range_succ, List.map_append, List.append_assoc]
    exact List.perm_middle.symm
attribute [irreducible] fam famW
section
variable {P : Program} {c : Cx} {A : Array Oper} {os : List Oper} {K : Kont} {L : Env} {H F : List HP} {C : Code} {T : TypeId} {sz N i : Nat} {vs : Nat → Value} {ln : Nat → Nat} {xs : Nat → List Value}
theorem G.famOut (hi : i < N) (tk : Tk (fam T sz N vs ln xs) H F) (k : G P c C K L (own T sz (ln i) (vs i) (xs i) :: famW T sz N vs ln xs i :: F)) : G P c C K L H := G.imp (fam_out hi tk) k
theorem GO.famOut (hi : i < N) (tk : Tk (fam T sz N vs ln xs) H F) (k : GO P c A os K L (own T sz (ln i) (vs i) (xs i) :: famW T sz N vs ln xs i :: F)) : GO P c A os K L H := GO.imp (fam_out hi tk) k
theorem GO.famNil (k : GO P c A os K L (fam T sz N (fun _ => .slice none 0 0) (fun _ => 0) (fun _ => []) :: H)) : GO P c A os K L H := GO.imp fam_nil k
end
end Go.Proofs.YtpfcgfgkmgnaaaaDoor
namespace Go.Proofs.YtpfcgfgkmgnaaaaDoor
open Go
/-- The Boolean product. -/
def mulX (X Y : Nat → Nat → Bool) : Nat → Nat → Bool := fun r c => (List.range 1024).any fun k => X r k && Y k c
theorem mulX_iff {X Y : Nat → Nat → Bool} {r c : Nat} : mulX X Y r c = true ↔ ∃ k, k < 1024 ∧ X r k = true ∧ Y k c = true := by
  unfold mulX
  simp only [List.any_eq_true, List.mem_range, Bool.and_eq_true]
attribute [irreducible] mulX
/-- The blocks of a row of blocks. -/
def colL (Y : Nat → Nat → Bool) (i : Nat) : List Nat := (posL Y).filter fun y => decide (y / 16 = i)
theorem colL_mem {Y : Nat → Nat → Bool} {i y : Nat} : y ∈ colL Y i ↔ y ∈ posL Y ∧ y / 16 = i := by simp [colL]
abbrev mulA (X Y : Nat → Nat → Bool) (z y : Nat) : Blk := mulB (blkAt X (z / 16) (z % 16)) (blkAt Y (y / 16) (y % 16))
def innerL (X Y : Nat → Nat → Bool) (z : Nat) (W : Nat → Nat → Bool) (l : List Nat) : Nat → Nat → Bool := orL (fun _ => z / 16) (fun y => y % 16) (fun y => mulA X Y z y) W l
def outerL (X Y : Nat → Nat → Bool) (W : Nat → Nat → Bool) (l : List Nat) : Nat → Nat → Bool := l.foldl (fun W z => innerL X Y z W (colL Y (z % 16))) W
theorem innerL_nil (X Y : Nat → Nat → Bool) (z : Nat) (W : Nat → Nat → Bool) (l : List Nat) : innerL X Y z W (l.take 0) = W := rfl
theorem innerL_succ {X Y : Nat → Nat → Bool} {z : Nat} {W : Nat → Nat → Bool} {l : List Nat} {k y : Nat} (h : l[k]? = some y) : innerL X Y z W (l.take (k + 1)) = orX (innerL X Y z W (l.take k)) (z / 16) (y % 16) (mulA X Y z y) := orL_succ h
theorem outerL_nil (X Y : Nat → Nat → Bool) (W : Nat → Nat → Bool) (l : List Nat) : outerL X Y W (l.take 0) = W := rfl
theorem outerL_succ {X Y : Nat → Nat → Bool} {W : Nat → Nat → Bool} {l : List Nat} {k z : Nat} (h : l[k]? = some z) : outerL X Y W (l.take (k + 1)) = innerL X Y z (outerL X Y W (l.take k)) (colL Y (z % 16)) := by
  unfold outerL; rw [List.take_add_one, h, List.foldl_append]; rfl
theorem outerL_at (X Y : Nat → Nat → Bool) (r c : Nat) : ∀ (l : List Nat) (W : Nat → Nat → Bool), outerL X Y W l r c = (W r c || l.any fun z => (colL Y (z % 16)).any fun y => decide (r / 64 = z / 16) && (decide (c / 64 = y % 16) && (mulA X Y z y (r % 64)).getLsbD (c % 64)))
  | [], W => by simp [outerL]
  | z :: l, W => by
    show outerL X Y (innerL X Y z W (colL Y (z % 16))) l r c = _
    rw [outerL_at X Y r c l, List.any_cons, ← Bool.or_assoc]
    unfold innerL
    rw [orL_at]
theorem mul_fold {s s2 : Nat} {X Y : Nat → Nat → Bool} (hs : s ≤ 1024) (hs2 : s2 ≤ 1024) (hx : ∀ r c, X r c = true → r < s ∧ c < s) (hy : ∀ r c, Y r c = true → r < s2 ∧ c < s2) : outerL X Y noX (posL X) = mulX X Y := by
  funext r c
  rw [outerL_at, show noX r c = false from rfl, Bool.false_or, Bool.eq_iff_iff, mulX_iff, List.any_eq_true]
  constructor
  · rintro ⟨z, hz, h⟩
    rw [List.any_eq_true] at h
    obtain ⟨y, hyl, h⟩ := h
    simp only [Bool.and_eq_true, decide_eq_true_eq] at h
    obtain ⟨e1, e2, h⟩ := h
    obtain ⟨k, hk, h1, h2⟩ := (mulB_bit _ _ _ _).1 h
    obtain ⟨hy1, hy2⟩ := colL_mem.1 hyl
    rw [blkAt_bit _ _ _ _ _ hk, ← e1, blk_part] at h1
    rw [blkAt_bit _ _ _ _ _ (Nat.mod_lt _ (by decide)), ← e2, blk_part, hy2] at h2
    exact ⟨64 * (z % 16) + k, by have := Nat.mod_lt z (show 0 < 16 by decide); omega, h1, h2⟩
  · rintro ⟨k, hk, h1, h2⟩
    obtain ⟨p1, p2, p3⟩ := posL_of hs hx h1
    obtain ⟨q1, q2, q3⟩ := posL_of hs2 hy h2
    refine ⟨_, p1, ?_⟩
    rw [List.any_eq_true]
    refine ⟨16 * (k / 64) + c / 64, colL_mem.2 ⟨q1, by rw [p3, q2]⟩, ?_⟩
    simp only [Bool.and_eq_true, decide_eq_true_eq]
    refine ⟨p2.symm, q3.symm, (mulB_bit _ _ _ _).2 ⟨k % 64, Nat.mod_lt _ (by decide), ?_, ?_⟩⟩
    · rw [p2, p3, blkAt_bit _ _ _ _ _ (Nat.mod_lt _ (by decide)), blk_part, blk_part]; exact h1
    · rw [q2, q3, blkAt_bit _ _ _ _ _ (Nat.mod_lt _ (by decide)), blk_part, blk_part]; exact h2
theorem mul_fit {s : Nat} {X Y : Nat → Nat → Bool} {z y : Nat} (hx : ∀ r c, X r c = true → r < s ∧ c < s) (hy : ∀ r c, Y r c = true → r < s ∧ c < s) : FitB s (z / 16) (y % 16) (mulA X Y z y) := fun r c hr hc hb => by
  obtain ⟨k, hk, h1, h2⟩ := (mulB_bit _ _ _ _).1 hb
  rw [blkAt_bit _ _ _ _ _ hk] at h1
  rw [blkAt_bit _ _ _ _ _ hc] at h2
  exact ⟨(hx _ _ h1).1, (hy _ _ h2).2⟩
theorem mulX_in {s : Nat} {X Y : Nat → Nat → Bool} (hx : ∀ r c, X r c = true → r < s ∧ c < s) (hy : ∀ r c, Y r c = true → r < s ∧ c < s) : ∀ r c, mulX X Y r c = true → r < s ∧ c < s := fun r c h => by
  obtain ⟨k, _, h1, h2⟩ := mulX_iff.1 h
  exact ⟨(hx _ _ h1).1, (hy _ _ h2).2⟩
theorem mulX_assoc (X Y Z : Nat → Nat → Bool) : mulX (mulX X Y) Z = mulX X (mulX Y Z) := by
  funext r c
  rw [Bool.eq_iff_iff, mulX_iff, mulX_iff]
  constructor
  · rintro ⟨k, hk, h1, h2⟩
    obtain ⟨j, hj, h3, h4⟩ := mulX_iff.1 h1
    exact ⟨j, hj, h3, mulX_iff.2 ⟨k, hk, h4, h2⟩⟩
  · rintro ⟨j, hj, h1, h2⟩
    obtain ⟨k, hk, h3, h4⟩ := mulX_iff.1 h2
    exact ⟨k, hk, mulX_iff.2 ⟨j, hj, h1, h3⟩, h4⟩
theorem mulX_uni (X Y Z : Nat → Nat → Bool) : mulX X (uniX Y Z) = uniX (mulX X Y) (mulX X Z) := by
  funext r c
  show _ = (mulX X Y r c || mulX X Z r c)
  rw [Bool.eq_iff_iff, Bool.or_eq_true, mulX_iff, mulX_iff, mulX_iff]
  constructor
  · rintro ⟨k, hk, h1, h2⟩
    have h2 : (Y k c || Z k c) = true := h2
    rcases Bool.or_eq_true _ _ ▸ h2 with h | h
    · exact .inl ⟨k, hk, h1, h⟩
    · exact .inr ⟨k, hk, h1, h⟩
  · rintro (⟨k, hk, h1, h2⟩ | ⟨k, hk, h1, h2⟩)
    · exact ⟨k, hk, h1, by show (Y k c || Z k c) = true; rw [h2]; rfl⟩
    · exact ⟨k, hk, h1, by show (Y k c || Z k c) = true; rw [h2, Bool.or_true]⟩
theorem mulX_flip (X Y : Nat → Nat → Bool) : flipX (mulX X Y) = mulX (flipX Y) (flipX X) := by
  funext r c
  show mulX X Y c r = _
  rw [Bool.eq_iff_iff, mulX_iff, mulX_iff]
  constructor
  · rintro ⟨k, hk, h1, h2⟩; exact ⟨k, hk, h2, h1⟩
  · rintro ⟨k, hk, h1, h2⟩; exact ⟨k, hk, h2, h1⟩
/-- The unit of a side. -/
def oneX (s : Nat) : Nat → Nat → Bool := fun r c => decide (r = c ∧ r < s)
theorem mulX_one {s : Nat} {X : Nat → Nat → Bool} (hs : s ≤ 1024) (hx : ∀ r c, X r c = true → r < s ∧ c < s) : mulX X (oneX s) = X := by
  funext r c
  rw [Bool.eq_iff_iff, mulX_iff]
  constructor
  · rintro ⟨k, hk, h1, h2⟩
    obtain ⟨rfl, _⟩ := of_decide_eq_true h2
    exact h1
  · intro h
    have := hx r c h
    exact ⟨c, by omega, h, decide_eq_true ⟨rfl, this.2⟩⟩
theorem mulX_one' {s : Nat} {X : Nat → Nat → Bool} (hs : s ≤ 1024) (hx : ∀ r c, X r c = true → r < s ∧ c < s) : mulX (oneX s) X = X := by
  funext r c
  rw [Bool.eq_iff_iff, mulX_iff]
  constructor
  · rintro ⟨k, hk, h1, h2⟩
    obtain ⟨rfl, _⟩ := of_decide_eq_true h1
    exact h2
  · intro h
    have := hx r c h
    exact ⟨r, by omega, decide_eq_true ⟨rfl, this.1⟩, h⟩
/-! ## The blocks, row by row -/
def rowD (Y : Nat → Nat → Bool) (k i : Nat) : List Nat := ((posL Y).take k).filter fun y => decide (y / 16 = i)
theorem rowD_nil (Y : Nat → Nat → Bool) (i : Nat) : rowD Y 0 i = [] := rfl
theorem rowD_end (Y : Nat → Nat → Bool) (i : Nat) : rowD Y (posL Y).length i = colL Y i := by unfold rowD colL; rw [List.take_length]
theorem rowD_at {Y : Nat → Nat → Bool} {k z : Nat} (h : (posL Y)[k]? = some z) : rowD Y (k + 1) (z / 16) = rowD Y k (z / 16) ++ [z] := by
  unfold rowD; rw [List.take_add_one, h, List.filter_append]; simp
theorem rowD_ne {Y : Nat → Nat → Bool} {k z i : Nat} (h : (posL Y)[k]? = some z) (hi : i ≠ z / 16) : rowD Y (k + 1) i = rowD Y k i := by
  unfold rowD; rw [List.take_add_one, h, List.filter_append]; simp; omega
theorem rowD_len (Y : Nat → Nat → Bool) (k i : Nat) : (rowD Y k i).length ≤ 256 := by
  have h1 := List.length_filter_le (fun y => decide (y / 16 = i)) ((posL Y).take k)
  have h2 := posL_len Y
  rw [List.length_take] at h1
  unfold rowD
  omega
/-- A block with its column. -/
def pcV (Y : Nat → Nat → Bool) (y : Nat) : List Value := i64 ((y % 16 : Nat) : Int) :: cells (blkAt Y (y / 16) (y % 16))
theorem pcV_len (Y : Nat → Nat → Bool) (y : Nat) : (pcV Y y).length = 65 := by simp [pcV, cells_len]
theorem pcV_one (Y : Nat → Nat → Bool) (y : Nat) : ∀ u ∈ pcV Y y, u.oneCell' = true := by
  intro u hu
  rcases List.mem_cons.1 hu with rfl | hu
  · rfl
  · exact cells_one _ u hu
def pcL (Y : Nat → Nat → Bool) (l : List Nat) : List Value := l.flatMap (pcV Y)
theorem pcL_len (Y : Nat → Nat → Bool) : ∀ l : List Nat, (pcL Y l).length = l.length * 65
  | [] => rfl
  | y :: l => by
    have ih := pcL_len Y l
    unfold pcL at ih ⊢
    rw [List.flatMap_cons, List.length_append, ih, pcV_len, List.length_cons]; omega
theorem pcL_get {Y : Nat → Nat → Bool} {l : List Nat} {k y j : Nat} (h : l[k]? = some y) (hj : j < 65) : (pcL Y l)[k * 65 + j]? = (pcV Y y)[j]? := by
  have := flat_get (enc := pcV Y) (k := 65) (fun y => pcV_len _ _) hj l k
  rw [h] at this
  exact this
theorem pcL_app (Y : Nat → Nat → Bool) (l : List Nat) (y : Nat) : pcL Y (l ++ [y]) = pcL Y l ++ pcV Y y := by simp [pcL]
end Go.Proofs.YtpfcgfgkmgnaaaaDoor
namespace Go.Proofs.YtpfcgfgkmgnaaaaDoor
open Go
attribute [local irreducible] G GO GR GT Fn FnV pt init exs pur own ImpS mat posL allV orL restX cellsX
/-- Within a piece of two. -/
theorem Fn.left {P : Program} {f : FuncId} {args : Array Value} {A B : HP} {S : Value → List HP → Prop} (h : Fn P f args [A] (fun r Q => ∃ N, S r N ∧ Q = N ++ [A])) : Fn P f args [star [A, B]] (fun r Q => ∃ N, S r N ∧ Q = N ++ [star [A, B]]) := by
  unfold Fn at *
  intro F w s
  have s1 : sat ([A] ++ (B :: F)) w := (sat_flat (l := [A, B]) (l' := F)).1 s
  refine (h (B :: F) w s1).mono ?_
  rintro e w' ⟨v, Q, a, b, ⟨N, hS, rfl⟩, d⟩
  refine ⟨v, N ++ [star [A, B]], a, b, ⟨N, hS, rfl⟩, ?_⟩
  rw [List.append_assoc] at d ⊢
  have d2 : sat ([A, B] ++ (F ++ N)) w' := by
    refine sat_perm ?_ d
    exact (List.perm_append_comm (l₁ := N) (l₂ := [A] ++ (B :: F))).trans (by simp)
  exact sat_perm (List.perm_append_comm (l₁ := [star [A, B]] ++ F) (l₂ := N)) (sat_flat.2 d2)
theorem sat_swap2 {A B : HP} {l : List HP} {w : World} (s : sat (star [A, B] :: l) w) : sat (star [B, A] :: l) w := sat_flat.2 (sat_perm (List.Perm.swap _ _ _) (sat_flat.1 s))
theorem Fn.right {P : Program} {f : FuncId} {args : Array Value} {A B : HP} {S : Value → List HP → Prop} (h : Fn P f args [B] (fun r Q => ∃ N, S r N ∧ Q = N ++ [B])) : Fn P f args [star [A, B]] (fun r Q => ∃ N, S r N ∧ Q = N ++ [star [A, B]]) := by
  have h1 := Fn.left (B := A) h
  unfold Fn at *
  intro F w s
  refine (h1 F w (sat_swap2 s)).mono ?_
  rintro e w' ⟨v, Q, a, b, ⟨N, hS, rfl⟩, d⟩
  refine ⟨v, N ++ [star [A, B]], a, b, ⟨N, hS, rfl⟩, ?_⟩
  rw [List.append_assoc] at d ⊢
  have d1 := sat_perm (List.perm_middle (a := star [B, A]) (l₁ := N) (l₂ := F)) d
  exact sat_perm (List.perm_middle (a := star [A, B]) (l₁ := N) (l₂ := F)).symm (sat_swap2 d1)
/-- v is a matrix of side s with the cells X, that the piece R holds. -/
structure HasM (R : HP) (v : Value) (s : Nat) (X : Nat → Nat → Bool) : Prop where
  side : Fn Tryd.prog 23 #[v] [R] (fun r Q => r = i64 s ∧ Q = [R])
  blocks : Fn Tryd.prog 81 #[v] [R] (fun r Q => ∃ b3 v', r = .func (.func 104) #[] #[.pointer (some ⟨b3, 0, none⟩)] ∧ Q = [bkM X b3 v', R])
theorem HasM.one (s b : Nat) (X : Nat → Nat → Bool) : HasM (mat s X b) (.pointer (some ⟨b, 0, none⟩)) s X := ⟨side_mat s b X, blocks_mat s b X⟩
theorem HasM.left {A B : HP} {v : Value} {s : Nat} {X : Nat → Nat → Bool} (h : HasM A v s X) : HasM (star [A, B]) v s X :=
  ⟨(Fn.left (S := fun r N => r = i64 s ∧ N = []) (h.side.mono fun r Q hq => ⟨[], ⟨hq.1, rfl⟩, hq.2⟩)).mono fun r Q hq => by obtain ⟨N, ⟨h1, rfl⟩, h2⟩ := hq; exact ⟨h1, h2⟩,
   (Fn.left (S := fun r N => ∃ b3 v', r = .func (.func 104) #[] #[.pointer (some ⟨b3, 0, none⟩)] ∧ N = [bkM X b3 v']) (h.blocks.mono fun r Q hq => by obtain ⟨b3, v', h1, h2⟩ := hq; exact ⟨[bkM X b3 v'], ⟨b3, v', h1, rfl⟩, h2⟩)).mono fun r Q hq => by
     obtain ⟨N, ⟨b3, v', h1, rfl⟩, h2⟩ := hq; exact ⟨b3, v', h1, h2⟩⟩
theorem HasM.right {A B : HP} {v : Value} {s : Nat} {X : Nat → Nat → Bool} (h : HasM B v s X) : HasM (star [A, B]) v s X :=
  ⟨(Fn.right (S := fun r N => r = i64 s ∧ N = []) (h.side.mono fun r Q hq => ⟨[], ⟨hq.1, rfl⟩, hq.2⟩)).mono fun r Q hq => by obtain ⟨N, ⟨h1, rfl⟩, h2⟩ := hq; exact ⟨h1, h2⟩,
   (Fn.right (S := fun r N => ∃ b3 v', r = .func (.func 104) #[] #[.pointer (some ⟨b3, 0, none⟩)] ∧ N = [bkM X b3 v']) (h.blocks.mono fun r Q hq => by obtain ⟨b3, v', h1, h2⟩ := hq; exact ⟨[bkM X b3 v'], ⟨b3, v', h1, rfl⟩, h2⟩)).mono fun r Q hq => by
     obtain ⟨N, ⟨b3, v', h1, rfl⟩, h2⟩ := hq; exact ⟨b3, v', h1, h2⟩⟩
end Go.Proofs.YtpfcgfgkmgnaaaaDoor
namespace Go.Proofs.YtpfcgfgkmgnaaaaDoor
open Go
/-- How many rows of blocks. -/
def nrow (s : Nat) : Nat := (s + 63) / 64
theorem nrow_lt {s i : Nat} (h : 64 * i < s) : i < nrow s := by unfold nrow; omega
abbrev rowsM (Y : Nat → Nat → Bool) (N bl : Nat) (vs : Nat → Value) (k : Nat) : List HP := [pt bl (row (rowV (fun v : Value => v) vs N) 141), fam 143 65 N vs (fun i => (rowD Y k i).length) (fun i => pcL Y (rowD Y k i))]
attribute [local irreducible] G GO GR GT Fn FnV pt init exs pur sat own ImpS mat posL allV orL restX cellsX rowD pcL pcV
set_option maxHeartbeats 4000000 in
theorem rows_spec (q R : HP) (v : Value) (s : Nat) (Y : Nat → Nat → Bool) (hm : HasM R v s Y) (hs : 1 ≤ s ∧ s ≤ 1024) (hin : ∀ r c, Y r c = true → r < s ∧ c < s) : Fn Tryd.prog 80 #[v] [R, q]
    (fun r Q => ∃ bl vs, r = .slice (some ⟨bl, 0, none⟩) (nrow s) (nrow s) ∧ Q = [star (rowsM Y (nrow s) bl vs (posL Y).length), R, q]) := by
  refine Fn.mk2 Tryd.func80 rfl rfl fun w0 F => ?_
  have hN : nrow s ≤ 16 := by unfold nrow; omega
  (refine G.seq ?_; refine G.region ?_; refine GO.assign rfl rfl ?_; refine GO.nil ?_; refine kthen_n ?_; refine G.seq ?_; refine G.region ?_; refine GO.move rfl rfl ?_)
  refine GO.call1 rfl rfl (hm.side) (Tks.c Tk.h Tks.n) ?_
  rintro _ _ ⟨rfl, rfl⟩
  (refine GO.addi rfl rfl rfl (by omega) ?_; refine GO.subi rfl rfl rfl (by omega) ?_; refine GO.quoi rfl rfl rfl (by omega) ?_)
  refine GO.chg (i64 (nrow s : Nat)) (by unfold nrow; congr 1; omega) ?_
  refine GO.make1 (n := nrow s) rfl rfl rfl ⟨rfl, rfl⟩ ⟨by omega, by omega⟩ fun bl => ?_
  rw [show List.replicate (nrow s) (Value.slice none 0 0) = rowV (fun v : Value => v) (fun _ => .slice none 0 0) (nrow s) from rowV_const (f := fun v : Value => v) (a := .slice none 0 0)]
  (refine GO.alloc rfl fun b3 => ?_; refine GO.store1 rfl rfl rfl Tk.h (by decide) ?_; refine GO.nil ?_; refine kthen_n ?_; refine G.seq ?_; refine G.seq ?_; refine G.region ?_; refine GO.move rfl rfl ?_)
  refine GO.call1 rfl rfl (hm.blocks) (Tks.c (Tk.t (Tk.t Tk.h)) Tks.n) ?_
  rintro _ _ ⟨bI, vI, rfl, rfl⟩
  refine GO.famNil (T := 143) (sz := 65) (N := nrow s) ?_
  (refine GO.nil ?_; refine kthen_n ?_; refine G.block ?_)
  have e1 : (fun i => (rowD Y 0 i).length) = fun _ => 0 := by funext i; rw [rowD_nil]; rfl
  have e2 : (fun i => pcL Y (rowD Y 0 i)) = fun _ => [] := by funext i; rw [rowD_nil]; unfold pcL; rfl
  refine G.impS (H' := (exs fun vs => star (rowsM Y (nrow s) bl vs 0)) :: pt b3 (row [.slice (some ⟨bl, 0, none⟩) (nrow s) (nrow s)] 136) :: q :: bkM Y bI vI :: R :: F) (ImpS.exs (fun _ => .slice none 0 0) (ImpS.flat (by dsimp only [rowsM]; rw [e1, e2]; exact ImpS.sb (by ((refine Sb.c (Tk.t (Tk.t (Tk.t (Tk.t Tk.h)))) ?_; refine Sb.c Tk.h ?_; refine Sb.c (Tk.t (Tk.t Tk.h)) ?_; refine Sb.c (Tk.t (Tk.t Tk.h)) ?_; refine Sb.c Tk.h ?_; refine Sb.c Tk.h ?_); (exact Sb.r)))))) ?_
  clear e1 e2
  refine G.rangeF (F := R :: F) (psl := [14, 15]) (v := .func (.func 104) #[] #[.pointer (some ⟨bI, 0, none⟩)]) (xs := (posL Y).map (bkA Y)) (Sh := [q]) (Gm := [bkM Y bI vI])
    (fun k => [exs fun vs => star (rowsM Y (nrow s) bl vs k), pt b3 (row [.slice (some ⟨bl, 0, none⟩) (nrow s) (nrow s)] 136)])
    (fun _ _ => [pur False]) (fun _ h => by cases h) rfl (fun u hu => by obtain ⟨p, _, rfl⟩ := List.mem_map.1 hu; rfl) rfl (blocks_seq q Y bI vI) ?_ (fun lp Lr Lb w1 F1 k u hu => ?_) ?_ ?_
  · (exact Tks.n)
  · obtain ⟨z, hz, rfl⟩ : ∃ z, (posL Y)[k]? = some z ∧ u = bkA Y z := by
      rw [List.getElem?_map] at hu
      cases hc : (posL Y)[k]? with
      | none => simp [hc] at hu
      | some p => simp [hc] at hu; exact ⟨p, rfl, hu.symm⟩
    obtain ⟨hza, hzb⟩ := posL_at hin (List.mem_of_getElem? hz)
    have hi := nrow_lt hza
    have hat := rowD_at hz
    have hne := fun j (h : j ≠ z / 16) => rowD_ne hz h
    have hrl := rowD_len Y k (z / 16)
    change G _ _ _ _ ((15, blk (blkAt Y (z / 16) (z % 16))) :: (14, .agg [i64 ((z / 16 : Nat) : Int), i64 ((z % 16 : Nat) : Int)].toArray) :: _) ((exs fun vs => star (rowsM Y (nrow s) bl vs k)) :: pt b3 (row [.slice (some ⟨bl, 0, none⟩) (nrow s) (nrow s)] 136) :: q :: F1)
    refine G.exs fun vs => G.flat ?_
    refine G.famOut hi (Tk.t Tk.h) ?_
    (refine G.seq ?_; refine G.region ?_; refine GO.alloc rfl fun b4 => ?_; refine GO.storeW rfl rfl Tk.h ⟨rfl, rfl⟩ (by simp [Value.oneCell']) ?_; refine GO.nil ?_; refine kthen_n ?_; refine G.region ?_; refine GO.alloc rfl fun b5 => ?_)
    rw [cells_zero]
    (refine GO.storeW rfl rfl Tk.h ⟨cells_len _, cells_len _⟩ (cells_one _) ?_; refine GO.nil ?_)
    refine kA_n ?_
    (refine G.block ?_)
    refine G.drawT 15 12288 [pt b3 (row [.slice (some ⟨bl, 0, none⟩) (nrow s) (nrow s)] 136), pt b4 (row [i64 ((z / 16 : Nat) : Int), i64 ((z % 16 : Nat) : Int)] 63), pt b5 (row (cells (blkAt Y (z / 16) (z % 16))) 104), pt bl (row (rowV (fun v : Value => v) vs (nrow s)) 141)]
      (own 143 65 (rowD Y k (z / 16)).length (vs (z / 16)) (pcL Y (rowD Y k (z / 16))) :: famW 143 65 (nrow s) vs (fun i => (rowD Y k i).length) (fun i => pcL Y (rowD Y k i)) (z / 16) :: q :: F1) (by kernel_rfl) (keys_of rfl) (ImpS.sb (by ((refine Sb.c (Tk.t (Tk.t (Tk.t (Tk.t (Tk.t Tk.h))))) ?_; refine Sb.c (Tk.t Tk.h) ?_; refine Sb.c Tk.h ?_; refine Sb.c (Tk.t (Tk.t Tk.h)) ?_; refine Sb.c Tk.h ?_; refine Sb.c Tk.h ?_; refine Sb.c Tk.h ?_); (exact Sb.r)))) ?_
    ((apply GR.step rfl; focus (intro Z; refine GO.load1 rfl rfl rfl Tk.h rfl ?_; exact KQ.z)); (apply GR.step rfl; focus (intro Z; refine GO.fieldAddr rfl rfl ?_; exact KQ.z)); (apply GR.step rfl; focus (intro Z; refine GO.load1 rfl rfl rfl (Tk.t Tk.h) rfl ?_; exact KQ.z)); (apply GR.step rfl; focus (intro Z; refine GO.load1 rfl rfl rfl Tk.h rfl ?_; exact KQ.z)); (apply GR.step rfl; focus (intro Z; refine GO.fieldAddr rfl rfl ?_; exact KQ.z)); (apply GR.step rfl; focus (intro Z; refine GO.load1 rfl rfl rfl (Tk.t Tk.h) rfl ?_; exact KQ.z)); (apply GR.step rfl; focus (intro Z; refine GO.idxS rfl rfl rfl ⟨rfl, by omega⟩ ?_; exact KQ.z)); (apply GR.step rfl; focus (intro Z; refine GO.load1 rfl rfl rfl (Tk.t (Tk.t (Tk.t Tk.h))) (rowV_get1 (by assumption)) ?_; exact KQ.z)); (apply GR.step rfl; focus (intro Z; refine GO.fieldAddr rfl rfl ?_; exact KQ.z)); (apply GR.step rfl; focus (intro Z; refine GO.load1 rfl rfl rfl (Tk.t Tk.h) rfl ?_; exact KQ.z)); (apply GR.step rfl; focus (intro Z; refine GO.loadW rfl rfl rfl (Tk.t (Tk.t Tk.h)) (cells_len _) ?_; exact KQ.z)))
    apply GR.step rfl; focus (intro Z; refine GO.build2 rfl rfl rfl (by simp [blk, Value.cells, cells_len]) ?_; exact KQ.zv (v := .agg (pcV Y z).toArray) (by unfold pcV; simp [putParts, blk, Value.cells]))
    (refine GR.skip rfl ?_; refine GR.skip rfl ?_; (apply GR.step rfl; focus (intro Z; refine GO.idxS rfl rfl rfl ⟨rfl, by omega⟩ ?_; exact KQ.z)); refine GR.nil ?_)
    (repeat refine GT.skip rfl ?_)
    refine GT.step rfl ?_
    refine GO.buildSlice1 rfl rfl (fun u hu => by rw [List.mem_singleton.1 hu]; simp [Value.cells, pcV_len]) rfl ⟨by omega, by omega⟩ fun b28 => ?_
    rw [show putParts [Value.agg (pcV Y z).toArray] = pcV Y z by simp [putParts, Value.cells]]
    refine GO.nil ⟨rfl, _, pt b28 (row (pcV Y z) 143) :: own 143 65 (rowD Y k (z / 16)).length (vs (z / 16)) (pcL Y (rowD Y k (z / 16))) :: famW 143 65 (nrow s) vs (fun i => (rowD Y k i).length) (fun i => pcL Y (rowD Y k i)) (z / 16) :: q :: F1, rfl, ImpS.sb (by ((refine Sb.c (Tk.t Tk.h) ?_; refine Sb.c (Tk.t Tk.h) ?_; refine Sb.c (Tk.t Tk.h) ?_; refine Sb.c (Tk.t Tk.h) ?_; refine Sb.c Tk.h ?_; refine Sb.c Tk.h ?_; refine Sb.c Tk.h ?_; refine Sb.c Tk.h ?_); (exact Sb.r))), ?_⟩
    refine GT.step rfl ?_
    refine GO.appendOwn (m := 1) (news := pcV Y z) rfl rfl rfl (Tk.t (Tk.t (Tk.t (Tk.t (Tk.t Tk.h))))) (Tk.t (Tk.t (Tk.t (Tk.t Tk.h)))) (by rw [pcV_len]) (pcV_one Y z) ⟨by decide, by simp⟩ Nat.one_pos (by unfold maxLen; omega) (by omega) fun v4 => ?_
    refine GO.ownOne Tk.h fun hone => ?_
    refine GO.nil ⟨rfl, _, own 143 65 ((rowD Y k (z / 16)).length + 1) v4 (pcL Y (rowD Y k (z / 16)) ++ pcV Y z) :: famW 143 65 (nrow s) vs (fun i => (rowD Y k i).length) (fun i => pcL Y (rowD Y k i)) (z / 16) :: q :: F1, rfl, ImpS.sb (by ((refine Sb.c (Tk.t Tk.h) ?_; refine Sb.c (Tk.t Tk.h) ?_; refine Sb.c (Tk.t Tk.h) ?_; refine Sb.c (Tk.t Tk.h) ?_; refine Sb.c Tk.h ?_; refine Sb.c (Tk.t Tk.h) ?_; refine Sb.c (Tk.t Tk.h) ?_); (refine Sb.s ?_; exact Sb.r))), ?_⟩
    (repeat refine GT.skip rfl ?_)
    refine GT.nil ?_
    refine GO.store1 rfl rfl hone (Tk.t (Tk.t (Tk.t Tk.h))) (by rw [rowV_len]; omega) ?_
    rw [rowV_set (f := fun v : Value => v)]
    (refine GO.nil ?_; refine kblock_n ?_)
    refine kB_n (ImpS.exs (upd vs (z / 16) v4) (ImpS.flat ?_))
    refine ImpS.trans (fam_in (vs := vs) (ln := fun i => (rowD Y k i).length) (xs := fun i => pcL Y (rowD Y k i)) (vs' := upd vs (z / 16) v4) (ln' := fun i => (rowD Y (k + 1) i).length) (xs' := fun i => pcL Y (rowD Y (k + 1) i)) (T := 143) (sz := 65) (N := nrow s) (i := z / 16) (F := pt bl (row (rowV (fun v : Value => v) (upd vs (z / 16) v4) (nrow s)) 141) :: pt b3 (row [.slice (some ⟨bl, 0, none⟩) (nrow s) (nrow s)] 136) :: q :: F1) hi (fun j hj => ⟨upd_ne _ _ hj, by rw [hne j hj], by rw [hne j hj]⟩) ?_) (ImpS.sb ?_)
    · rw [upd_at]
      rw [hat, List.length_append, pcL_app]
      refine ImpS.sb ?_
      ((refine Sb.c (Tk.t (Tk.t (Tk.t (Tk.t Tk.h)))) ?_; refine Sb.c (Tk.t (Tk.t (Tk.t (Tk.t Tk.h)))) ?_; refine Sb.c Tk.h ?_; refine Sb.c Tk.h ?_; refine Sb.c (Tk.t (Tk.t Tk.h)) ?_); (refine Sb.s ?_; refine Sb.s ?_; exact Sb.r))
    · ((refine Sb.c (Tk.t Tk.h) ?_; refine Sb.c Tk.h ?_; refine Sb.c Tk.h ?_; refine Sb.c Tk.h ?_); (exact Sb.r))
  · rw [List.length_map]
    change G _ _ _ _ _ ((exs fun vs => star (rowsM Y (nrow s) bl vs (posL Y).length)) :: pt b3 (row [.slice (some ⟨bl, 0, none⟩) (nrow s) (nrow s)] 136) :: q :: bkM Y bI vI :: R :: F)
    refine G.exs fun vs => ?_
    (refine G.seq ?_; refine G.region ?_; refine GO.load1 rfl rfl rfl (Tk.t Tk.h) rfl ?_; refine GO.assign rfl rfl ?_; refine GO.nil ?_; refine kthen_n ?_; refine G.ret ?_)
    refine KF2.r1 rfl (RV.t rfl) ⟨bl, vs, rfl, rfl⟩ (ImpS.sb ?_)
    ((refine Sb.c Tk.h ?_; refine Sb.c (Tk.t (Tk.t (Tk.t Tk.h))) ?_; refine Sb.c (Tk.t Tk.h) ?_); (refine Sb.s ?_; refine Sb.s ?_; exact Sb.r))
  · intro i jc hi
    exact G.pur fun h => h.elim
end Go.Proofs.YtpfcgfgkmgnaaaaDoor
namespace Go.Proofs.YtpfcgfgkmgnaaaaDoor
open Go
section
variable {P : Program} {c : Cx} {A : Array Oper} {rest : List Oper} {K : Kont} {L : Env} {H F : List HP} {t : TypeId} {p : String} {e : Array Edge} {d : Nat}
theorem GO.loadPC {el : TypeId} {n b cap o k y : Nat} {Y : Nat → Nat → Bool} {l : List Nat} {ty : TypeId} {ds : TypeDesc} {x : Operand} [hu : UL P ty ds] [hs : SZ P ty 65] (hd : ds.isRow = true) (hN : Nat.blt d c.N = true) (hx : evl L x = some (.pointer (some ⟨b, o, none⟩))) (ho : o = 0 + k * 65) (hz : l[k]? = some y)
    (tk : Tk (own el 65 n (.slice (some ⟨b, 0, none⟩) n cap) (pcL Y l)) H F) (k : GO P c A rest K ((d, .agg (pcV Y y).toArray) :: L) H) : GO P c A (⟨some d, .load ty x, t, p, e, none⟩ :: rest) K L H :=
  GO.loadM (vs := pcV Y y) hd hN hx tk (pcV_len _ _) (fun j u hj => by
    have hj65 : j < 65 := by have := (List.getElem?_eq_some_iff.1 hj).1; rw [pcV_len] at this; exact this
    refine Rd.own ?_
    rw [ho, Nat.zero_add, pcL_get hz hj65]
    exact hj) k
theorem GO.loadB65 {b o y : Nat} {Y : Nat → Nat → Bool} {T ty : TypeId} {ds : TypeDesc} {x : Operand} [hu : UL P ty ds] [hs : SZ P ty 64] (hd : ds.isRow = true) (hN : Nat.blt d c.N = true) (hx : evl L x = some (.pointer (some ⟨b, o, none⟩))) (ho : o = 1)
    (tk : Tk (pt b (row (pcV Y y) T)) H F) (k : GO P c A rest K ((d, blk (blkAt Y (y / 16) (y % 16))) :: L) H) : GO P c A (⟨some d, .load ty x, t, p, e, none⟩ :: rest) K L H :=
  GO.loadM (vs := cells (blkAt Y (y / 16) (y % 16))) hd hN hx tk (cells_len _) (fun m u hm => by
    refine Rd.row ?_
    rw [ho, show 1 + m = m + 1 by omega]
    exact hm) k
end
theorem pcV_col (Y : Nat → Nat → Bool) (y : Nat) {o : Nat} (ho : o = 0) : (pcV Y y)[o]? = some (i64 ((y % 16 : Nat) : Int)) := by subst ho; rfl
attribute [local irreducible] G GO GR GT Fn FnV pt init exs pur sat own ImpS mat posL allV orL restX cellsX rowD pcL pcV colL innerL outerL
set_option maxHeartbeats 8000000 in
theorem pmul_spec (q R : HP) (hq : Tab q) (va vb : Value) (s : Nat) (X Y : Nat → Nat → Bool) (hma : HasM R va s X) (hmb : HasM R vb s Y) (hs : 1 ≤ s ∧ s ≤ 1024) (hx : ∀ r c, X r c = true → r < s ∧ c < s) (hy : ∀ r c, Y r c = true → r < s ∧ c < s) :
    Fn Tryd.prog 54 #[va, vb] [R, q] (fun r Q => ∃ b', r = .pointer (some ⟨b', 0, none⟩) ∧ Q = [mat s (mulX X Y) b', R, q]) := by
  refine Fn.mk2 Tryd.func54 rfl rfl fun w0 F => ?_
  have hfold := mul_fold hs.2 hs.2 hx hy
  (refine G.seq ?_; refine G.region ?_; refine GO.assign rfl rfl ?_; refine GO.nil ?_; refine kthen_n ?_; refine G.seq ?_; refine G.region ?_; refine GO.move rfl rfl ?_)
  refine GO.call1 rfl rfl (hma.side) (Tks.c Tk.h Tks.n) ?_
  rintro _ _ ⟨rfl, rfl⟩
  skip
  refine GO.call1 rfl rfl (new_spec (s : Int)) Tks.n ?_
  rintro _ _ (⟨n, b', hn, hn1, hn2, rfl, rfl⟩ | ⟨hno, rfl, rfl⟩)
  · obtain rfl : s = n := by omega
    clear hn hn1 hn2
    (refine GO.move rfl rfl ?_; refine GO.extract rfl rfl rfl ?_; refine GO.extract rfl rfl rfl ?_; refine GO.alloc rfl fun b5 => ?_; refine GO.store1 rfl rfl rfl Tk.h (by decide) ?_; refine GO.assign rfl rfl ?_; refine GO.nil ?_; refine kthen_n ?_; refine G.seq ?_; refine G.region ?_; refine GO.move rfl rfl ?_)
    refine GO.call1 rfl rfl (rows_spec q R vb s Y hmb hs hy) (Tks.c (Tk.t (Tk.t Tk.h)) (Tks.c (Tk.t (Tk.t Tk.h)) Tks.n)) ?_
    rintro _ _ ⟨bl, vs, rfl, rfl⟩
    (refine GO.alloc rfl fun b7 => ?_; refine GO.store1 rfl rfl rfl Tk.h (by decide) ?_; refine GO.nil ?_; refine kthen_n ?_; refine G.seq ?_; refine G.seq ?_; refine G.region ?_; refine GO.move rfl rfl ?_)
    refine GO.call1 rfl rfl (hma.blocks) (Tks.c (Tk.t (Tk.t Tk.h)) Tks.n) ?_
    rintro _ _ ⟨bI, vI, rfl, rfl⟩
    (refine GO.nil ?_; refine kthen_n ?_; refine G.block ?_)
    refine G.rangeF (F := R :: F) (psl := [22, 23]) (v := .func (.func 104) #[] #[.pointer (some ⟨bI, 0, none⟩)]) (xs := (posL X).map (bkA X)) (Sh := [q]) (Gm := [bkM X bI vI])
      (fun k => [mat s (outerL X Y noX ((posL X).take k)) b', star (rowsM Y (nrow s) bl vs (posL Y).length), pt b5 (row [.pointer (some ⟨b', 0, none⟩)] 35), pt b7 (row [.slice (some ⟨bl, 0, none⟩) (nrow s) (nrow s)] 136)])
      (fun _ _ => [pur False]) (fun _ h => by cases h) rfl (fun u hu => by obtain ⟨p, _, rfl⟩ := List.mem_map.1 hu; rfl) rfl (blocks_seq q X bI vI) ?_ (fun lp Lr Lb w1 F1 k u hu => ?_) ?_ ?_
    · rw [outerL_nil]
      (refine Tks.c (Tk.t (Tk.t (Tk.t (Tk.t (Tk.t (Tk.t Tk.h)))))) ?_; refine Tks.c (Tk.t (Tk.t (Tk.t Tk.h))) ?_; refine Tks.c (Tk.t (Tk.t (Tk.t (Tk.t Tk.h)))) ?_; refine Tks.c (Tk.t (Tk.t Tk.h)) ?_; refine Tks.c (Tk.t (Tk.t Tk.h)) ?_; exact Tks.n)
    · obtain ⟨z, hz, rfl⟩ : ∃ z, (posL X)[k]? = some z ∧ u = bkA X z := by
        rw [List.getElem?_map] at hu
        cases hc : (posL X)[k]? with
        | none => simp [hc] at hu
        | some p => simp [hc] at hu; exact ⟨p, rfl, hu.symm⟩
      have hzm := List.mem_of_getElem? hz
      obtain ⟨hza, hzb⟩ := posL_at hx hzm
      have hzN := nrow_lt hzb
      have hsu := outerL_succ (X := X) (Y := Y) (W := noX) hz
      change G _ _ _ _ ((23, blk (blkAt X (z / 16) (z % 16))) :: (22, .agg [i64 ((z / 16 : Nat) : Int), i64 ((z % 16 : Nat) : Int)].toArray) :: _) (mat s (outerL X Y noX ((posL X).take k)) b' :: star (rowsM Y (nrow s) bl vs (posL Y).length) :: pt b5 (row [.pointer (some ⟨b', 0, none⟩)] 35) :: pt b7 (row [.slice (some ⟨bl, 0, none⟩) (nrow s) (nrow s)] 136) :: q :: F1)
      generalize outerL X Y noX ((posL X).take k) = W at hsu ⊢
      refine G.take (Tk.t Tk.h) (G.flat ?_)
      refine G.famOut hzN (Tk.t Tk.h) ?_
      (refine G.seq ?_; refine G.region ?_; refine GO.alloc rfl fun b8 => ?_; refine GO.storeW rfl rfl Tk.h ⟨rfl, rfl⟩ (by simp [Value.oneCell']) ?_; refine GO.nil ?_; refine kthen_n ?_; refine G.region ?_; refine GO.alloc rfl fun b9 => ?_)
      rw [cells_zero]
      (refine GO.storeW rfl rfl Tk.h ⟨cells_len _, cells_len _⟩ (cells_one _) ?_; refine GO.nil ?_)
      refine kA_n ?_
      have hrl := rowD_len Y (posL Y).length (z % 16)
      have hce := rowD_end Y (z % 16)
      (refine G.block ?_; refine G.seq ?_; refine G.region ?_; refine GO.load1 rfl rfl rfl (Tk.t (Tk.t (Tk.t (Tk.t (Tk.t (Tk.t (Tk.t Tk.h))))))) rfl ?_; refine GO.fieldAddr rfl rfl ?_; refine GO.load1 rfl rfl rfl (Tk.t Tk.h) rfl ?_; refine GO.idxS rfl rfl rfl ⟨rfl, by omega⟩ ?_; refine GO.load1 rfl rfl rfl (Tk.t (Tk.t (Tk.t (Tk.t Tk.h)))) (rowV_get1 (by assumption)) ?_; refine GO.lenOwn rfl rfl (Tk.t (Tk.t Tk.h)) ?_; refine GO.move rfl rfl ?_; refine GO.nil ?_; refine kthen_n ?_; refine G.block ?_)
      refine G.loop (fun m : Nat => [(5, .pointer (some ⟨b5, 0, none⟩)), (7, .pointer (some ⟨b7, 0, none⟩)), (8, .pointer (some ⟨b8, 0, none⟩)), (9, .pointer (some ⟨b9, 0, none⟩)), (28, vs (z % 16)), (29, i64 (rowD Y (posL Y).length (z % 16)).length), (30, i64 m)])
        (fun m => own 143 65 (rowD Y (posL Y).length (z % 16)).length (vs (z % 16)) (pcL Y (rowD Y (posL Y).length (z % 16))) :: famW 143 65 (nrow s) vs (fun i => (rowD Y (posL Y).length i).length) (fun i => pcL Y (rowD Y (posL Y).length i)) (z % 16) :: pt bl (row (rowV (fun v : Value => v) vs (nrow s)) 141) :: mat s (innerL X Y z W ((colL Y (z % 16)).take m)) b' :: pt b8 (row [i64 ((z / 16 : Nat) : Int), i64 ((z % 16 : Nat) : Int)] 63) :: pt b9 (row (cells (blkAt X (z / 16) (z % 16))) 104) :: pt b5 (row [.pointer (some ⟨b', 0, none⟩)] 35) :: pt b7 (row [.slice (some ⟨bl, 0, none⟩) (nrow s) (nrow s)] 136) :: q :: F1)
        (fun m => m ≤ (rowD Y (posL Y).length (z % 16)).length) (fun m => (rowD Y (posL Y).length (z % 16)).length - m) 0 (by omega) ?_ ?_ ?_
      · (refine SubE.c rfl rfl ?_; refine SubE.c rfl rfl ?_; refine SubE.c rfl rfl ?_; refine SubE.c rfl rfl ?_; refine SubE.c rfl rfl ?_; refine SubE.c rfl rfl ?_; refine SubE.c rfl rfl ?_; exact SubE.n)
      · rw [innerL_nil]
        ((refine Sb.c (Tk.t (Tk.t Tk.h)) ?_; refine Sb.c (Tk.t (Tk.t Tk.h)) ?_; refine Sb.c (Tk.t (Tk.t Tk.h)) ?_; refine Sb.c (Tk.t (Tk.t Tk.h)) ?_; refine Sb.c (Tk.t Tk.h) ?_; refine Sb.c Tk.h ?_; refine Sb.c Tk.h ?_; refine Sb.c Tk.h ?_; refine Sb.c Tk.h ?_); (exact Sb.r))
      · rintro m hm
        (refine G.seq ?_; refine G.region ?_; refine GO.lti rfl rfl rfl ?_; refine GO.nil ?_; refine kthen_n ?_; refine G.seq ?_)
        refine G.condD rfl (fun hlt => ?_) (fun hge => ?_)
        · have hm2 : m < (rowD Y (posL Y).length (z % 16)).length := by omega
          obtain ⟨y, hy1⟩ : ∃ y, (rowD Y (posL Y).length (z % 16))[m]? = some y := ⟨_, List.getElem?_eq_getElem hm2⟩
          have hyc := hy1
          rw [hce] at hyc
          have hy2 := colL_mem.1 (List.mem_of_getElem? hyc)
          have hya := posL_at hy hy2.1
          have hisu := innerL_succ (X := X) (Y := Y) (z := z) (W := W) hyc
          refine G.ownForm (by omega) Tk.h fun bo capo e2 _ _ _ => ?_
          rw [e2]
          (refine G.skip ?_; refine kthen_n ?_; refine G.seq ?_; refine G.block ?_; refine G.seq ?_; refine G.region ?_)
          refine GO.idxS (j := m) rfl rfl rfl ⟨rfl, by omega⟩ ?_
          refine GO.loadPC rfl rfl rfl rfl hy1 Tk.h ?_
          refine GO.alloc rfl fun b11 => ?_
          refine GO.storeW rfl rfl Tk.h ⟨pcV_len _ _, by simp⟩ (pcV_one _ _) ?_
          (refine GO.nil ?_; refine kthen_n ?_)
          refine G.draw 9 (by kernel_rfl) ?_
          ((apply GQ.step; focus (intro Z; refine GO.load1 rfl rfl rfl (Tk.t (Tk.t (Tk.t (Tk.t (Tk.t (Tk.t (Tk.t Tk.h))))))) rfl ?_; exact KQ.z)); (apply GQ.step; focus (intro Z; refine GO.fieldAddr rfl rfl ?_; exact KQ.z)); (apply GQ.step; focus (intro Z; refine GO.load1 rfl rfl rfl (Tk.t (Tk.t (Tk.t (Tk.t (Tk.t Tk.h))))) rfl ?_; exact KQ.z)); (apply GQ.step; focus (intro Z; refine GO.fieldAddr rfl rfl ?_; exact KQ.z)))
          apply GQ.step; focus (intro Z; refine GO.load1 rfl rfl rfl Tk.h (pcV_col Y y (by omega)) ?_; exact KQ.z)
          ((apply GQ.step; focus (intro Z; refine GO.loadW rfl rfl rfl (Tk.t (Tk.t (Tk.t (Tk.t (Tk.t (Tk.t Tk.h)))))) (cells_len _) ?_; exact KQ.z)); (apply GQ.step; focus (intro Z; refine GO.fieldAddr rfl rfl ?_; exact KQ.z)))
          apply GQ.step; focus (intro Z; refine GO.loadB65 rfl rfl rfl (by omega) Tk.h ?_; exact KQ.z)
          apply GQ.step; focus (intro Z; refine GO.call2 rfl rfl rfl (mul_spec q hq (blkAt X (z / 16) (z % 16)) (blkAt Y (y / 16) (y % 16))) (Tks.c (Tk.t (Tk.t (Tk.t (Tk.t (Tk.t (Tk.t (Tk.t (Tk.t (Tk.t Tk.h))))))))) Tks.n) ?_; rintro _ _ ⟨rfl, rfl⟩; refine GO.nil (KQ.s ?_); ((refine Sb.c (Tk.t Tk.h) ?_; refine Sb.c (Tk.t Tk.h) ?_; refine Sb.c (Tk.t Tk.h) ?_; refine Sb.c (Tk.t Tk.h) ?_; refine Sb.c (Tk.t Tk.h) ?_; refine Sb.c (Tk.t Tk.h) ?_; refine Sb.c (Tk.t Tk.h) ?_; refine Sb.c (Tk.t Tk.h) ?_; refine Sb.c (Tk.t Tk.h) ?_; refine Sb.c Tk.h ?_); (exact Sb.r)))
          (refine GQ.nil ?_)
          refine GO.call4 rfl rfl rfl rfl rfl (put_mat s b' (innerL X Y z W ((colL Y (z % 16)).take m)) ((z / 16 : Nat) : Int) ((y % 16 : Nat) : Int) (mulA X Y z y)) (Tks.c (Tk.t (Tk.t (Tk.t (Tk.t Tk.h)))) Tks.n) ?_
          rintro _ _ (⟨m', n', em, en, -, -, -, rfl, rfl⟩ | ⟨hno, -, -⟩)
          · obtain rfl : m' = z / 16 := by omega
            obtain rfl : n' = y % 16 := by omega
            clear em en
            rw [← hisu]
            (refine GO.nil ?_; refine kblock_n ?_; refine kthen_n ?_; refine G.region ?_; refine GO.addi rfl rfl rfl (by omega) ?_; refine GO.move rfl rfl ?_; refine GO.nil ?_; refine kthen_n ?_)
            refine ⟨m + 1, by omega, by omega, ?_, ?_⟩
            · (refine SubE.c rfl rfl ?_; refine SubE.c rfl rfl ?_; refine SubE.c rfl rfl ?_; refine SubE.c rfl rfl ?_; refine SubE.c rfl rfl ?_; refine SubE.c rfl rfl ?_; refine SubE.c rfl rfl ?_; exact SubE.n)
            · ((refine Sb.c (Tk.t (Tk.t Tk.h)) ?_; refine Sb.c (Tk.t (Tk.t Tk.h)) ?_; refine Sb.c (Tk.t (Tk.t Tk.h)) ?_; refine Sb.c Tk.h ?_; refine Sb.c (Tk.t Tk.h) ?_; refine Sb.c (Tk.t Tk.h) ?_; refine Sb.c (Tk.t Tk.h) ?_; refine Sb.c (Tk.t Tk.h) ?_; refine Sb.c (Tk.t Tk.h) ?_); (refine Sb.s ?_; exact Sb.r))
          · exact absurd (mul_fit hx hy) (hno _ _ rfl rfl hza hya.2)
        · obtain rfl : m = (rowD Y (posL Y).length (z % 16)).length := by omega
          rw [show innerL X Y z W ((colL Y (z % 16)).take (rowD Y (posL Y).length (z % 16)).length) = outerL X Y noX ((posL X).take (k + 1)) by rw [hce, List.take_length, ← hsu]]
          (refine G.exit ?_; refine kthen_x ?_; refine kthen_x ?_; refine kblock_x ?_; refine kblock_n ?_)
          refine kB_n ?_
          refine ImpS.trans (fam_in (vs := vs) (ln := fun i => (rowD Y (posL Y).length i).length) (xs := fun i => pcL Y (rowD Y (posL Y).length i)) (vs' := vs) (ln' := fun i => (rowD Y (posL Y).length i).length) (xs' := fun i => pcL Y (rowD Y (posL Y).length i)) (T := 143) (sz := 65) (N := nrow s) (i := z % 16) (F := pt bl (row (rowV (fun v : Value => v) vs (nrow s)) 141) :: mat s (outerL X Y noX ((posL X).take (k + 1))) b' :: pt b5 (row [.pointer (some ⟨b', 0, none⟩)] 35) :: pt b7 (row [.slice (some ⟨bl, 0, none⟩) (nrow s) (nrow s)] 136) :: q :: F1) hzN (fun j _ => ⟨rfl, rfl, rfl⟩) (ImpS.sb ?_)) ?_
          · ((refine Sb.c Tk.h ?_; refine Sb.c Tk.h ?_; refine Sb.c Tk.h ?_; refine Sb.c Tk.h ?_; refine Sb.c (Tk.t (Tk.t Tk.h)) ?_; refine Sb.c (Tk.t (Tk.t Tk.h)) ?_; refine Sb.c (Tk.t (Tk.t Tk.h)) ?_); (refine Sb.s ?_; refine Sb.s ?_; exact Sb.r))
          · refine ImpS.cons (Tk.t (Tk.t Tk.h)) (ImpS.flat (ImpS.sb ?_))
            ((refine Sb.c (Tk.t Tk.h) ?_; refine Sb.c Tk.h ?_; refine Sb.c Tk.h ?_; refine Sb.c Tk.h ?_; refine Sb.c Tk.h ?_); (exact Sb.r))
    · rw [List.length_map, List.take_length, hfold]
      (refine kblock_n ?_; refine kthen_n ?_; refine G.seq ?_; refine G.region ?_; refine GO.load1 rfl rfl rfl (Tk.t (Tk.t Tk.h)) rfl ?_; refine GO.assign rfl rfl ?_; refine GO.nil ?_; refine kthen_n ?_; refine G.ret ?_)
      refine KF2.r1 rfl (RV.t rfl) ⟨b', rfl, rfl⟩ (ImpS.sb ?_)
      ((refine Sb.c Tk.h ?_; refine Sb.c (Tk.t (Tk.t (Tk.t (Tk.t (Tk.t Tk.h))))) ?_; refine Sb.c (Tk.t (Tk.t (Tk.t Tk.h))) ?_); (refine Sb.s ?_; refine Sb.s ?_; refine Sb.s ?_; refine Sb.s ?_; exact Sb.r))
    · intro i jc hi
      exact G.pur fun h => h.elim
  · exact absurd ⟨by omega, by omega⟩ hno
end Go.Proofs.YtpfcgfgkmgnaaaaDoor
namespace Go.Proofs.YtpfcgfgkmgnaaaaDoor
open Go
attribute [local irreducible] G GO GR GT Fn FnV pt init exs pur sat own ImpS mat posL allV orL restX cellsX
/-- What fit answers, where the k-th matrix has the side f k. -/
def fitR (n : Nat) (f : Nat → Nat) (r : Value) : Prop :=
  ((∃ k, k < n ∧ f k = 0) ∧ r = i64 1) ∨ ((∀ k, k < n → f k ≠ 0) ∧ (∃ k, k < n ∧ f k ≠ f 0) ∧ r = i64 5) ∨ ((∀ k, k < n → f k ≠ 0 ∧ f k = f 0) ∧ r = i64 0)
set_option maxHeartbeats 4000000 in
theorem fit_spec (R q : HP) (v : Value) (l : List Value) (f : Nat → Nat) (hv : Sl q v l.length 1 l) (hl : ∀ k u, l[k]? = some u → Fn Tryd.prog 23 #[u] [R] (fun r Q => r = i64 (f k) ∧ Q = [R])) (hn : ¬ 9223372036854775806 < l.length) :
    Fn Tryd.prog 53 #[v] [R, q] (fun r Q => fitR l.length f r ∧ Q = [R, q]) := by
  obtain ⟨a, cap, rfl, hlen, hrd⟩ := hv
  refine Fn.mk2 Tryd.func53 rfl rfl fun w0 F => ?_
  (refine G.seq ?_; refine G.region ?_; refine GO.assign rfl rfl ?_; refine GO.nil ?_; refine kthen_n ?_; refine G.seq ?_; refine G.seq ?_; refine G.region ?_; refine GO.move rfl rfl ?_; refine GO.lenS rfl rfl ?_; refine GO.move rfl rfl ?_; refine GO.nil ?_; refine kthen_n ?_; refine G.block ?_)
  refine G.loop (fun k : Nat => [(0, .slice a l.length cap), (7, .slice a l.length cap), (8, i64 l.length), (9, i64 k)]) (fun _ => R :: q :: F) (fun k => k ≤ l.length ∧ ∀ j, j < k → f j ≠ 0) (fun k => l.length - k) 0 ⟨by omega, fun j hj => by omega⟩ ?_ ?_ ?_
  · (refine SubE.c rfl rfl ?_; refine SubE.c rfl rfl ?_; refine SubE.c rfl rfl ?_; refine SubE.c rfl rfl ?_; exact SubE.n)
  · ((refine Sb.c Tk.h ?_; refine Sb.c Tk.h ?_); (exact Sb.r))
  · rintro k ⟨hk, hall⟩
    (refine G.seq ?_; refine G.region ?_; refine GO.lti rfl rfl rfl ?_; refine GO.nil ?_; refine kthen_n ?_; refine G.seq ?_)
    refine G.condD rfl (fun hlt => ?_) (fun hge => ?_)
    · have hk2 : k < l.length := by omega
      obtain ⟨bo, oo, rfl, hr⟩ := hrd (by omega)
      obtain ⟨u, hu⟩ : ∃ u, l[k]? = some u := ⟨_, List.getElem?_eq_getElem hk2⟩
      have rd : Rd q ⟨bo, oo + k * 1, none⟩ u := by rw [Nat.mul_one]; exact hr k u hu
      have hsi := hl k u hu
      (refine G.skip ?_; refine kthen_n ?_; refine G.seq ?_; refine G.block ?_; refine G.seq ?_; refine G.region ?_; refine GO.idxS rfl rfl rfl ⟨rfl, by omega⟩ ?_; refine GO.loadQ rfl rfl rfl (Tk.t Tk.h) (by assumption) ?_; refine GO.assign rfl rfl ?_; refine GO.nil ?_; refine kthen_n ?_; refine G.seq ?_; refine G.region ?_; refine GO.move rfl rfl ?_)
      refine GO.call1 rfl rfl (hsi) (Tks.c Tk.h Tks.n) ?_
      rintro _ _ ⟨rfl, rfl⟩
      (refine GO.eqi rfl rfl rfl ?_; refine GO.nil ?_; refine kthen_n ?_)
      refine G.condD rfl (fun h0 => ?_) (fun h0 => ?_)
      · (refine G.seq ?_; refine G.region ?_; refine GO.assign rfl rfl ?_; refine GO.nil ?_; refine kthen_n ?_; refine G.ret ?_; refine kblock_r ?_; refine kthen_r ?_; refine kthen_r ?_; refine kblock_r ?_; refine kthen_r ?_)
        refine KF2.r1 rfl (RV.t rfl) ⟨.inl ⟨⟨k, hk2, by omega⟩, rfl⟩, rfl⟩ (ImpS.sb ?_)
        ((refine Sb.c Tk.h ?_; refine Sb.c Tk.h ?_); (exact Sb.r))
      · (refine G.skip ?_; refine kblock_n ?_; refine kthen_n ?_; refine G.region ?_; refine GO.addi rfl rfl rfl (by omega) ?_; refine GO.move rfl rfl ?_; refine GO.nil ?_; refine kthen_n ?_)
        refine ⟨k + 1, ⟨by omega, fun j hj => ?_⟩, by omega, ?_, ?_⟩
        · rcases Nat.lt_or_ge j k with h | h
          · exact hall j h
          · obtain rfl : j = k := by omega
            omega
        · (refine SubE.c rfl rfl ?_; refine SubE.c rfl rfl ?_; refine SubE.c rfl rfl ?_; refine SubE.c rfl rfl ?_; exact SubE.n)
        · ((refine Sb.c Tk.h ?_; refine Sb.c Tk.h ?_); (exact Sb.r))
    · obtain rfl : k = l.length := by omega
      (refine G.exit ?_; refine kthen_x ?_; refine kthen_x ?_; refine kblock_x ?_; refine kthen_n ?_; refine G.seq ?_; refine G.seq ?_; refine G.region ?_; refine GO.move rfl rfl ?_; refine GO.lenS rfl rfl ?_; refine GO.move rfl rfl ?_; refine GO.nil ?_; refine kthen_n ?_; refine G.block ?_)
      refine G.loop (fun k : Nat => [(0, .slice a l.length cap), (17, .slice a l.length cap), (18, i64 l.length), (19, i64 k)]) (fun _ => R :: q :: F) (fun k => k ≤ l.length ∧ ∀ j, j < k → f j = f 0) (fun k => l.length - k) 0 ⟨by omega, fun j hj => by omega⟩ ?_ ?_ ?_
      · (refine SubE.c rfl rfl ?_; refine SubE.c rfl rfl ?_; refine SubE.c rfl rfl ?_; refine SubE.c rfl rfl ?_; exact SubE.n)
      · ((refine Sb.c Tk.h ?_; refine Sb.c Tk.h ?_); (exact Sb.r))
      · rintro k ⟨hk, heq⟩
        (refine G.seq ?_; refine G.region ?_; refine GO.lti rfl rfl rfl ?_; refine GO.nil ?_; refine kthen_n ?_; refine G.seq ?_)
        refine G.condD rfl (fun hlt => ?_) (fun hge => ?_)
        · have hk2 : k < l.length := by omega
          obtain ⟨bo, oo, rfl, hr⟩ := hrd (by omega)
          obtain ⟨u, hu⟩ : ∃ u, l[k]? = some u := ⟨_, List.getElem?_eq_getElem hk2⟩
          obtain ⟨u0, hu0⟩ : ∃ u, l[0]? = some u := ⟨_, List.getElem?_eq_getElem (by omega)⟩
          have rd : Rd q ⟨bo, oo + k * 1, none⟩ u := by rw [Nat.mul_one]; exact hr k u hu
          have rd0 : Rd q ⟨bo, oo + 0 * 1, none⟩ u0 := by rw [Nat.mul_one]; exact hr 0 u0 hu0
          have hsi := hl k u hu
          have hsi0 := hl 0 u0 hu0
          (refine G.skip ?_; refine kthen_n ?_; refine G.seq ?_; refine G.block ?_; refine G.seq ?_; refine G.region ?_; refine GO.idxS rfl rfl rfl ⟨rfl, by omega⟩ ?_; refine GO.loadQ rfl rfl rfl (Tk.t Tk.h) (by assumption) ?_; refine GO.assign rfl rfl ?_; refine GO.nil ?_; refine kthen_n ?_; refine G.seq ?_)
          refine G.draw 7 (by kernel_rfl) ?_
          ((apply GQ.step; focus (intro Z; refine GO.move rfl rfl ?_; exact KQ.z)))
          apply GQ.step; focus (intro Z; refine GO.call1 rfl rfl (hsi) (Tks.c Tk.h Tks.n) ?_; rintro _ _ ⟨rfl, rfl⟩; refine GO.nil (KQ.s ?_); ((refine Sb.c Tk.h ?_; refine Sb.c Tk.h ?_); (exact Sb.r)))
          ((apply GQ.step; focus (intro Z; refine GO.move rfl rfl ?_; exact KQ.z)))
          apply GQ.step; focus (intro Z; refine GO.idxS (j := 0) rfl rfl rfl ⟨rfl, by omega⟩ ?_; exact KQ.z)
          ((apply GQ.step; focus (intro Z; refine GO.loadQ rfl rfl rfl (Tk.t Tk.h) (by assumption) ?_; exact KQ.z)))
          apply GQ.step; focus (intro Z; refine GO.call1 rfl rfl (hsi0) (Tks.c Tk.h Tks.n) ?_; rintro _ _ ⟨rfl, rfl⟩; refine GO.nil (KQ.s ?_); ((refine Sb.c Tk.h ?_; refine Sb.c Tk.h ?_); (exact Sb.r)))
          ((apply GQ.step; focus (intro Z; refine GO.nei rfl rfl rfl ?_; exact KQ.z)); refine GQ.nil ?_)
          (refine GO.nil ?_; refine kthen_n ?_)
          refine G.condD rfl (fun h0 => ?_) (fun h0 => ?_)
          · (refine G.seq ?_; refine G.region ?_; refine GO.assign rfl rfl ?_; refine GO.nil ?_; refine kthen_n ?_; refine G.ret ?_; refine kblock_r ?_; refine kthen_r ?_; refine kthen_r ?_; refine kblock_r ?_; refine kthen_r ?_)
            refine KF2.r1 rfl (RV.t rfl) ⟨.inr (.inl ⟨hall, ⟨k, hk2, by omega⟩, rfl⟩), rfl⟩ (ImpS.sb ?_)
            ((refine Sb.c Tk.h ?_; refine Sb.c Tk.h ?_); (exact Sb.r))
          · (refine G.skip ?_; refine kblock_n ?_; refine kthen_n ?_; refine G.region ?_; refine GO.addi rfl rfl rfl (by omega) ?_; refine GO.move rfl rfl ?_; refine GO.nil ?_; refine kthen_n ?_)
            refine ⟨k + 1, ⟨by omega, fun j hj => ?_⟩, by omega, ?_, ?_⟩
            · rcases Nat.lt_or_ge j k with h | h
              · exact heq j h
              · obtain rfl : j = k := by omega
                omega
            · (refine SubE.c rfl rfl ?_; refine SubE.c rfl rfl ?_; refine SubE.c rfl rfl ?_; refine SubE.c rfl rfl ?_; exact SubE.n)
            · ((refine Sb.c Tk.h ?_; refine Sb.c Tk.h ?_); (exact Sb.r))
        · obtain rfl : k = l.length := by omega
          (refine G.exit ?_; refine kthen_x ?_; refine kthen_x ?_; refine kblock_x ?_; refine kthen_n ?_; refine G.seq ?_; refine G.region ?_; refine GO.assign rfl rfl ?_; refine GO.nil ?_; refine kthen_n ?_; refine G.ret ?_)
          refine KF2.r1 rfl (RV.t rfl) ⟨.inr (.inr ⟨fun j hj => ⟨hall j hj, heq j hj⟩, rfl⟩), rfl⟩ (ImpS.sb ?_)
          ((refine Sb.c Tk.h ?_; refine Sb.c Tk.h ?_); (exact Sb.r))
abbrev ptrV (b : Nat) : Value := .pointer (some ⟨b, 0, none⟩)
theorem row_sl {b : Nat} {T : TypeId} {l : List Value} {n : Nat} (hn : l.length = n) : Sl (pt b (row l T)) (.slice (some ⟨b, 0, none⟩) n n) l.length 1 l := ⟨_, _, by rw [hn], by rw [Nat.mul_one], fun _ => ⟨b, 0, rfl, fun j u hj => by rw [Nat.zero_add]; exact Rd.row hj⟩⟩
theorem fit_ok {n s : Nat} {r : Value} (hs : 1 ≤ s) (h : fitR n (fun _ => s) r) : r = i64 0 := by
  rcases h with ⟨⟨k, _, h⟩, _⟩ | ⟨_, ⟨k, _, h⟩, _⟩ | ⟨_, h⟩
  · have h : s = 0 := h
    omega
  · exact absurd rfl h
  · exact h
theorem fit2_spec (R : HP) (a b b9 s : Nat) (ha : Fn Tryd.prog 23 #[ptrV a] [R] (fun r Q => r = i64 s ∧ Q = [R])) (hb : Fn Tryd.prog 23 #[ptrV b] [R] (fun r Q => r = i64 s ∧ Q = [R])) (hs : 1 ≤ s) :
    Fn Tryd.prog 53 #[.slice (some ⟨b9, 0, none⟩) 2 2] [R, pt b9 (row [ptrV a, ptrV b] 35)] (fun r Q => r = i64 0 ∧ Q = [R, pt b9 (row [ptrV a, ptrV b] 35)]) :=
  (fit_spec R (pt b9 (row [ptrV a, ptrV b] 35)) (.slice (some ⟨b9, 0, none⟩) 2 2) [ptrV a, ptrV b] (fun _ => s) (row_sl rfl) (fun k u hk => by
    match k, hk with
    | 0, hk =>
      obtain rfl : ptrV a = u := by simpa using hk
      exact ha
    | 1, hk =>
      obtain rfl : ptrV b = u := by simpa using hk
      exact hb) (by show ¬ 9223372036854775806 < 2; omega)).mono fun r Q h => ⟨fit_ok hs h.1, h.2⟩
set_option maxHeartbeats 4000000 in
theorem pMul_spec (q R : HP) (hq : Tab q) (a b s : Nat) (X Y : Nat → Nat → Bool) (hma : HasM R (ptrV a) s X) (hmb : HasM R (ptrV b) s Y) (hs : 1 ≤ s ∧ s ≤ 1024) (hx : ∀ r c, X r c = true → r < s ∧ c < s) (hy : ∀ r c, Y r c = true → r < s ∧ c < s) :
    Fn Tryd.prog 19 #[ptrV a, ptrV b] [R, q] (fun r Q => ∃ b', r = .tuple #[ptrV b', i64 0] ∧ Q = [mat s (mulX X Y) b', R, q]) := by
  refine Fn.mk2 Tryd.func19 rfl rfl fun w0 F => ?_
  (refine G.seq ?_; refine G.region ?_; refine GO.assign rfl rfl ?_; refine GO.assign rfl rfl ?_; refine GO.nil ?_; refine kthen_n ?_; refine G.seq ?_; refine G.region ?_; refine GO.move rfl rfl ?_; refine GO.move rfl rfl ?_)
  refine GO.buildSlice2 rfl rfl rfl (by simp [Value.cells]) rfl ⟨by omega, by omega⟩ fun b9 => ?_
  rw [show putParts [ptrV a, ptrV b] = [ptrV a, ptrV b] by simp [putParts, Value.cells]]
  refine GO.call1 rfl rfl (fit2_spec R a b b9 s hma.side hmb.side hs.1) (Tks.c (Tk.t Tk.h) (Tks.c Tk.h Tks.n)) ?_
  rintro _ _ ⟨rfl, rfl⟩
  (refine GO.assign rfl rfl ?_; refine GO.nil ?_; refine kthen_n ?_; refine G.seq ?_; refine G.seq ?_; refine G.region ?_; refine GO.move rfl rfl ?_; refine GO.neF rfl rfl rfl rfl ?_; refine GO.nil ?_; refine kthen_n ?_; refine G.condF rfl rfl ?_; refine G.skip ?_; refine kthen_n ?_; refine G.seq ?_; refine G.region ?_; refine GO.move rfl rfl ?_; refine GO.move rfl rfl ?_)
  refine GO.call2 rfl rfl rfl (pmul_spec q R hq (ptrV a) (ptrV b) s X Y hma hmb hs hx hy) (Tks.c Tk.h (Tks.c (Tk.t Tk.h) Tks.n)) ?_
  rintro _ _ ⟨b', rfl, rfl⟩
  (refine GO.assign rfl rfl ?_; refine GO.assign rfl rfl ?_; refine GO.nil ?_; refine kthen_n ?_; refine G.ret ?_)
  refine KF2.r2 rfl (RV.t rfl) (RV.t rfl) ⟨b', rfl, rfl⟩ (ImpS.sb ?_)
  ((refine Sb.c Tk.h ?_; refine Sb.c Tk.h ?_; refine Sb.c Tk.h ?_); (refine Sb.s ?_; exact Sb.r))
/-! ## The laws' helpers -/
def foldX (s : Nat) (l : List (Int × Int)) : Nat → Nat → Bool := putX s (l.take 400)
def sideN (n : Int) : Nat := (n % 256 + 1).toNat
theorem sideN_at (n : Int) : ((sideN n : Nat) : Int) = n % 256 + 1 ∧ 1 ≤ sideN n ∧ sideN n ≤ 256 := by unfold sideN; omega
attribute [local irreducible] putX
end Go.Proofs.YtpfcgfgkmgnaaaaDoor
namespace Go.Proofs.YtpfcgfgkmgnaaaaDoor
open Go
/-- Where one step leads to, out of the first n rows. -/
def stepN (X : Nat → Nat → Bool) (A : Nat → Bool) (n : Nat) : Nat → Bool := fun j => (List.range n).any fun i => A i && X i j
theorem stepN_zero (X : Nat → Nat → Bool) (A : Nat → Bool) : stepN X A 0 = fun _ => false := rfl
theorem stepN_succ (X : Nat → Nat → Bool) (A : Nat → Bool) (n j : Nat) : stepN X A (n + 1) j = (stepN X A n j || (A n && X n j)) := by
  unfold stepN; rw [List.range_succ, List.any_append]; simp
theorem stepN_iff {X : Nat → Nat → Bool} {A : Nat → Bool} {n j : Nat} : stepN X A n j = true ↔ ∃ i, i < n ∧ A i = true ∧ X i j = true := by
  unfold stepN; simp only [List.any_eq_true, List.mem_range, Bool.and_eq_true]
/-- The rows that just k steps lead to. -/
def walkX (X : Nat → Nat → Bool) (s u : Nat) : Nat → Nat → Bool
  | 0 => fun j => decide (j = u)
  | k + 1 => stepN X (walkX X s u k) s
theorem stepN_off (X : Nat → Nat → Bool) {A : Nat → Bool} {n : Nat} (h : A n = false) : stepN X A (n + 1) = stepN X A n := by
  funext j; rw [stepN_succ, h]; simp
/-- Some of a row's columns more. -/
def nextK (X : Nat → Nat → Bool) (A : Nat → Bool) (i m : Nat) : Nat → Bool := fun j => stepN X A i j || ((rowX X i).take m).any fun c => decide (j = c)
theorem nextK_nil (X : Nat → Nat → Bool) (A : Nat → Bool) (i : Nat) : nextK X A i 0 = stepN X A i := by
  funext j; unfold nextK; rw [List.take_zero]; simp
theorem nextK_succ (X : Nat → Nat → Bool) (A : Nat → Bool) {i m c : Nat} (h : (rowX X i)[m]? = some c) : nextK X A i (m + 1) = upd (nextK X A i m) c true := by
  funext j
  unfold nextK upd
  rw [List.take_add_one, h, List.any_append]
  by_cases e : j = c
  · subst e; simp
  · simp [e]
theorem rowX_mem {X : Nat → Nat → Bool} {i c : Nat} : c ∈ rowX X i ↔ c < 1024 ∧ X i c = true := by simp [rowX]
theorem nextK_end {s : Nat} {X : Nat → Nat → Bool} (hs : s ≤ 1024) (hin : ∀ r c, X r c = true → r < s ∧ c < s) {A : Nat → Bool} {i : Nat} (h : A i = true) : nextK X A i (rowX X i).length = stepN X A (i + 1) := by
  funext j
  unfold nextK
  rw [List.take_length, stepN_succ, h, Bool.true_and]
  refine congrArg (fun x => stepN X A i j || x) ?_
  rw [Bool.eq_iff_iff, List.any_eq_true]
  constructor
  · rintro ⟨c, hc, e⟩
    obtain rfl := of_decide_eq_true e
    exact (rowX_mem.1 hc).2
  · intro hx
    exact ⟨j, rowX_mem.2 ⟨by have := hin _ _ hx; omega, hx⟩, by simp⟩
/-- The numbers of which a row of bools is true. -/
def onL (A : Nat → Bool) (n : Nat) : List Nat := (List.range n).filter fun j => A j
theorem onL_t {A : Nat → Bool} {n : Nat} (h : A n = true) : onL A (n + 1) = onL A n ++ [n] := by
  unfold onL; rw [List.range_succ, List.filter_append]; simp [h]
theorem onL_f {A : Nat → Bool} {n : Nat} (h : A n = false) : onL A (n + 1) = onL A n := by
  unfold onL; rw [List.range_succ, List.filter_append]; simp [h]
theorem onL_len (A : Nat → Bool) (n : Nat) : (onL A n).length ≤ n := by
  have := List.length_filter_le (fun j => A j) (List.range n)
  rw [List.length_range] at this
  exact this
/-- Each row's columns, when k cells have come. -/
def colsK (X : Nat → Nat → Bool) (k i : Nat) : List Nat := (((cellsX X).take k).filter fun p => decide (p.1 = i)).map fun p => p.2
theorem colsK_nil (X : Nat → Nat → Bool) (i : Nat) : colsK X 0 i = [] := rfl
theorem colsK_at {X : Nat → Nat → Bool} {k r c : Nat} (h : (cellsX X)[k]? = some (r, c)) : colsK X (k + 1) r = colsK X k r ++ [c] := by
  unfold colsK; rw [List.take_add_one, h, List.filter_append, List.map_append]; simp
theorem colsK_ne {X : Nat → Nat → Bool} {k r c i : Nat} (h : (cellsX X)[k]? = some (r, c)) (hi : i ≠ r) : colsK X (k + 1) i = colsK X k i := by
  unfold colsK; rw [List.take_add_one, h, List.filter_append, List.map_append]; simp; omega
theorem colsK_len (X : Nat → Nat → Bool) (k i : Nat) : (colsK X k i).length ≤ (cellsX X).length := by
  have h1 := List.length_filter_le (fun p : Nat × Nat => decide (p.1 = i)) ((cellsX X).take k)
  rw [List.length_take] at h1
  unfold colsK
  rw [List.length_map]
  omega
theorem lines_filter (X : Nat → Nat → Bool) (i : Nat) : ∀ n, ((lines X n).filter fun p => decide (p.1 = i)).map (fun p => p.2) = if i < n then rowX X i else []
  | 0 => rfl
  | n + 1 => by
    rw [lines_succ, List.filter_append, List.map_append, lines_filter X i n, List.filter_map, List.map_map]
    by_cases e : n = i
    · subst e
      rw [if_neg (Nat.lt_irrefl n), if_pos (by omega), List.nil_append]
      rw [List.filter_eq_self.2 (fun c _ => by simp)]
      exact (List.map_congr_left (g := id) fun c _ => rfl).trans (List.map_id _)
    · have : (rowX X n).filter ((fun p : Nat × Nat => decide (p.1 = i)) ∘ fun c => (n, c)) = [] := List.filter_eq_nil_iff.2 fun c _ => by simp [e]
      rw [this, List.map_nil, List.append_nil]
      by_cases h : i < n
      · rw [if_pos h, if_pos (by omega)]
      · rw [if_neg h, if_neg (by omega)]
theorem colsK_end {s : Nat} {X : Nat → Nat → Bool} (hs : s ≤ 1024) (hin : ∀ r c, X r c = true → r < s ∧ c < s) {i : Nat} (hi : i < s) : colsK X (cellsX X).length i = rowX X i := by
  unfold colsK
  rw [List.take_length, ← lines_all hs hin, lines_filter, if_pos hi]
end Go.Proofs.YtpfcgfgkmgnaaaaDoor
namespace Go.Proofs.YtpfcgfgkmgnaaaaDoor
open Go
section
variable {P : Program} {b : Frame} {a : Act} {k : List Item} {cs : List Frame} {w : World} {Q : Exit → Act → World → Prop} {F : Fence} {n : Nat}
theorem stepR_scope {c : Code} : step P (lone (b.atR a (.code (.scope c) :: k)) cs w) = .next (lone (b.atR a (.code c :: .inScope c :: k)) cs w) :=
  step_lone_go (by simp [stepG, stepG.exec, Frame.atR])
theorem stepR_inScope {c : Code} : step P (lone (b.atR a (.inScope c :: k)) cs w) = .next (lone (b.atR a k) cs w) :=
  step_lone_go (by simp [stepG, stepG.exec, Frame.atR])
theorem wpIn_scope {c : Code} (h : c.wpIn F n P (Exit.noGoto Q) a w) : (Code.scope c).wpIn F n P Q a w := by
  intro b k cs hro hb hr
  have h0 : (lone (b.atR a (.code (.scope c) :: k)) cs w).fenced P F := fenced_calm hb hr rfl
  obtain ⟨e, a₁, w₁, hq, harr⟩ := h b (.inScope c :: k) cs hro hb hr
  cases e with
  | normal => exact ⟨.normal, a₁, w₁, hq, .head h0 stepR_scope (StepsIn.trans harr (.one (fenced_calm hb hr rfl) stepR_inScope))⟩
  | exit id =>
    have hx : exitTo id (.inScope c :: k) = exitTo id k := by simp [exitTo]
    exact ⟨.exit id, a₁, w₁, hq, fun k' hk => .head h0 stepR_scope (harr.1 k' (by rw [hx]; exact hk)), fun hr' hk => let ⟨k₁, h1, h2⟩ := harr.2 hr' (by rw [hx]; exact hk); ⟨k₁, h1, .head h0 stepR_scope h2⟩⟩
  | goto l => exact hq.elim
  | ret => exact ⟨_, a₁, w₁, hq, .of_steps (.one h0 stepR_scope) harr⟩
  | panic ch => exact ⟨_, a₁, w₁, hq, .of_steps (.one h0 stepR_scope) harr⟩
  | outgrown => exact ⟨_, a₁, w₁, hq, .of_steps (.one h0 stepR_scope) harr⟩
end
def kscope (K : Kont) : Kont
  | .goto _, _, _ => False
  | e, L, H => K e L H
section
variable {P : Program} {c : Cx} {K : Kont} {L : Env} {H : List HP}
theorem G.scope {x : Code} (k : G P c x (kscope K) L H) : G P c (.scope x) K L H := by
  intro a w h
  refine wpIn_scope (wpIn_mono (k a w h) ?_)
  rintro e a' w' ⟨L', H', s, q⟩
  cases e with
  | goto l => exact q.elim
  | normal => exact ⟨L', H', s, q⟩
  | exit id => exact ⟨L', H', s, q⟩
  | ret => exact ⟨L', H', s, q⟩
  | panic ch => exact ⟨L', H', s, q⟩
  | outgrown => exact ⟨L', H', s, q⟩
theorem kscope_n (k : K .normal L H) : kscope K .normal L H := k
theorem kscope_r (k : K .ret L H) : kscope K .ret L H := k
theorem kscope_x {id : Nat} (k : K (.exit id) L H) : kscope K (.exit id) L H := k
end
end Go.Proofs.YtpfcgfgkmgnaaaaDoor
namespace Go.Proofs.YtpfcgfgkmgnaaaaDoor
open Go
abbrev colsM (X : Nat → Nat → Bool) (s bl : Nat) (vs : Nat → Value) (k : Nat) : List HP := [pt bl (row (rowV (fun v : Value => v) vs s) 67), fam 3 1 s vs (fun i => (colsK X k i).length) (fun i => natsV (colsK X k i))]
abbrev onR (b : Nat) (A : Nat → Bool) (s : Nat) : HP := pt b (row (rowV (fun x : Bool => Value.bool x) A s) 4)
theorem upd_walk (X : Nat → Nat → Bool) (s u : Nat) : upd (fun _ => false) u true = walkX X s u 0 := by
  funext j
  show (if j = u then true else false) = decide (j = u)
  by_cases h : j = u <;> simp [h]
theorem walkX_succ (X : Nat → Nat → Bool) (s u k : Nat) : stepN X (walkX X s u k) s = walkX X s u (k + 1) := rfl
attribute [local irreducible] G GO GR GT Fn FnV pt init exs pur sat own ImpS mat posL allV orL restX cellsX natsV rowX colsK stepN walkX nextK onL
set_option maxHeartbeats 8000000 in
set_option maxRecDepth 40000 in
theorem walk_mat (q : HP) (hq : Tab q) (b s : Nat) (X : Nat → Nat → Bool) (u n : Nat) (hu : u < s) (hn : n ≤ 1024) : Fn Tryd.prog 36 #[ptrV b, i64 u, i64 n] [mat s X b, q]
    (fun r Q => ∃ v, r = .tuple #[v, i64 0] ∧ Q = [own 3 1 (onL (walkX X s u n) s).length v (natsV (onL (walkX X s u n) s)), mat s X b, q]) := by
  refine Fn.mk2 Tryd.func36 rfl rfl fun w0 F => ?_
  refine G.matFact Tk.h fun hsd hin => ?_
  have hend := fun i (hi : i < s) => colsK_end hsd.2 hin hi
  have hcl : (cellsX X).length ≤ 1048576 := by rw [cellsX_len]; have := cnt_max X; omega
  (refine G.seq ?_; refine G.region ?_; refine GO.assign rfl rfl ?_; refine GO.assign rfl rfl ?_; refine GO.nil ?_; refine kthen_n ?_; refine G.seq ?_; refine G.block ?_; refine G.seq ?_; refine G.region ?_; refine GO.move rfl rfl ?_)
  refine GO.call1 rfl rfl (side_mat s b X) (Tks.c Tk.h Tks.n) ?_
  rintro _ _ ⟨rfl, rfl⟩
  (refine GO.eqi rfl rfl rfl ?_; refine GO.assign rfl rfl ?_; refine GO.nil ?_; refine kthen_n ?_)
  rw [show decide ((s : Int) = 0) = false from decide_eq_false (by omega)]
  (refine G.condF rfl rfl ?_; refine G.seq ?_; refine G.region ?_; refine GO.move rfl rfl ?_; refine GO.lti rfl rfl rfl ?_; refine GO.move rfl rfl ?_; refine GO.gT rfl rfl rfl ?_; refine GO.move rfl rfl ?_; refine GO.gT rfl rfl rfl ?_; refine GO.move rfl rfl ?_; refine GO.gT rfl rfl rfl ?_)
  rw [show decide ((u : Int) < 0) = false from decide_eq_false (by omega)]
  skip
  refine GO.call1 rfl rfl (side_mat s b X) (Tks.c Tk.h Tks.n) ?_
  rintro _ _ ⟨rfl, rfl⟩
  (refine GO.gT rfl rfl rfl ?_; refine GO.gei rfl rfl rfl ?_; refine GO.pickF rfl rfl rfl ?_; refine GO.move rfl rfl ?_)
  rw [show decide ((s : Int) ≤ (u : Int)) = false from decide_eq_false (by omega)]
  (refine GO.gT rfl rfl rfl ?_; refine GO.move rfl rfl ?_; refine GO.gT rfl rfl rfl ?_; refine GO.lti rfl rfl rfl ?_; refine GO.pickF rfl rfl rfl ?_; refine GO.move rfl rfl ?_; refine GO.gT rfl rfl rfl ?_; refine GO.move rfl rfl ?_; refine GO.gT rfl rfl rfl ?_; refine GO.gti rfl rfl rfl ?_; refine GO.pickF rfl rfl rfl ?_; refine GO.assign rfl rfl ?_; refine GO.nil ?_; refine kthen_n ?_)
  rw [show decide ((n : Int) < 0) = false from decide_eq_false (by omega)]
  skip
  rw [show decide ((1024 : Int) < (n : Int)) = false from decide_eq_false (by omega)]
  (refine G.condF rfl rfl ?_; refine G.skip ?_; refine kblock_n ?_; refine kthen_n ?_; refine G.seq ?_; refine G.region ?_; refine GO.move rfl rfl ?_)
  refine GO.call1 rfl rfl (side_mat s b X) (Tks.c Tk.h Tks.n) ?_
  rintro _ _ ⟨rfl, rfl⟩
  skip
  refine GO.make1 (n := s) rfl rfl rfl ⟨rfl, rfl⟩ ⟨by omega, by omega⟩ fun bl => ?_
  rw [show List.replicate s (Value.slice none 0 0) = rowV (fun v : Value => v) (fun _ => .slice none 0 0) s from rowV_const (f := fun v : Value => v) (a := .slice none 0 0)]
  (refine GO.alloc rfl fun b8 => ?_; refine GO.store1 rfl rfl rfl Tk.h (by decide) ?_; refine GO.nil ?_; refine kthen_n ?_; refine G.seq ?_; refine G.seq ?_; refine G.region ?_; refine GO.move rfl rfl ?_)
  refine GO.call1 rfl rfl (mcells_mat s b X) (Tks.c (Tk.t (Tk.t Tk.h)) Tks.n) ?_
  rintro _ _ ⟨bI, vI, rfl, rfl⟩
  refine GO.famNil (T := 3) (sz := 1) (N := s) ?_
  (refine GO.nil ?_; refine kthen_n ?_; refine G.block ?_)
  have e1 : (fun i => (colsK X 0 i).length) = fun _ => 0 := by funext i; rw [colsK_nil]; rfl
  have e2 : (fun i => natsV (colsK X 0 i)) = fun _ => [] := by funext i; rw [colsK_nil]; unfold natsV; rfl
  refine G.impS (H' := (exs fun vs => star (colsM X s bl vs 0)) :: pt b8 (row [.slice (some ⟨bl, 0, none⟩) s s] 117) :: q :: bkM X bI vI :: mat s X b :: F) (ImpS.exs (fun _ => .slice none 0 0) (ImpS.flat (by dsimp only [colsM]; rw [e1, e2]; exact ImpS.sb (by ((refine Sb.c (Tk.t (Tk.t (Tk.t (Tk.t Tk.h)))) ?_; refine Sb.c Tk.h ?_; refine Sb.c (Tk.t (Tk.t Tk.h)) ?_; refine Sb.c (Tk.t (Tk.t Tk.h)) ?_; refine Sb.c Tk.h ?_; refine Sb.c Tk.h ?_); (exact Sb.r)))))) ?_
  clear e1 e2
  refine G.rangeF (F := mat s X b :: F) (psl := [46, 47]) (v := .func (.func 96) #[] #[.pointer (some ⟨bI, 0, none⟩)]) (xs := (cellsX X).map celV) (Sh := [q]) (Gm := [bkM X bI vI])
    (fun k => [exs fun vs => star (colsM X s bl vs k), pt b8 (row [.slice (some ⟨bl, 0, none⟩) s s] 117)])
    (fun _ _ => [pur False]) (fun _ h => by cases h) rfl (fun u hu => by obtain ⟨p, _, rfl⟩ := List.mem_map.1 hu; rfl) rfl (mcells_seq q hq X bI vI) ?_ (fun lp Lr Lb w1 F1 k uu huu => ?_) ?_ ?_
  · (exact Tks.n)
  · obtain ⟨p, hp, rfl⟩ : ∃ p, (cellsX X)[k]? = some p ∧ uu = celV p := by
      rw [List.getElem?_map] at huu
      cases hc : (cellsX X)[k]? with
      | none => simp [hc] at huu
      | some p => simp [hc] at huu; exact ⟨p, rfl, huu.symm⟩
    obtain ⟨hr, hc⟩ := hin _ _ (cellsX_true (List.mem_of_getElem? hp))
    obtain ⟨r, c⟩ := p
    dsimp only at hr hc
    have hat := colsK_at hp
    have hne := fun j (h : j ≠ r) => colsK_ne hp h
    have hrl := colsK_len X k r
    change G _ _ _ _ ((47, i64 (c : Nat)) :: (46, i64 (r : Nat)) :: _) ((exs fun vs => star (colsM X s bl vs k)) :: pt b8 (row [.slice (some ⟨bl, 0, none⟩) s s] 117) :: q :: F1)
    refine G.exs fun vs => G.flat ?_
    refine G.famOut hr (Tk.t Tk.h) ?_
    (refine G.seq ?_; refine G.region ?_; refine GO.assign rfl rfl ?_; refine GO.nil ?_; refine kthen_n ?_; refine G.region ?_; refine GO.assign rfl rfl ?_; refine GO.nil ?_)
    refine kA_n ?_
    (refine G.block ?_)
    refine G.drawT 10 384 [pt b8 (row [.slice (some ⟨bl, 0, none⟩) s s] 117), pt bl (row (rowV (fun v : Value => v) vs s) 67)] (own 3 1 (colsK X k r).length (vs r) (natsV (colsK X k r)) :: famW 3 1 s vs (fun i => (colsK X k i).length) (fun i => natsV (colsK X k i)) r :: q :: F1) (by kernel_rfl) (keys_of rfl) (ImpS.sb (by ((refine Sb.c (Tk.t (Tk.t (Tk.t Tk.h))) ?_; refine Sb.c (Tk.t (Tk.t Tk.h)) ?_; refine Sb.c Tk.h ?_; refine Sb.c Tk.h ?_; refine Sb.c Tk.h ?_); (exact Sb.r)))) ?_
    ((apply GR.step rfl; focus (intro Z; refine GO.load1 rfl rfl rfl Tk.h rfl ?_; exact KQ.z)); (apply GR.step rfl; focus (intro Z; refine GO.move rfl rfl ?_; exact KQ.z)); (apply GR.step rfl; focus (intro Z; refine GO.load1 rfl rfl rfl Tk.h rfl ?_; exact KQ.z)); (apply GR.step rfl; focus (intro Z; refine GO.move rfl rfl ?_; exact KQ.z)); (apply GR.step rfl; focus (intro Z; refine GO.idxS rfl rfl rfl ⟨rfl, by omega⟩ ?_; exact KQ.z)); (apply GR.step rfl; focus (intro Z; refine GO.load1 rfl rfl rfl (Tk.t Tk.h) (rowV_get1 (by assumption)) ?_; exact KQ.z)); (apply GR.step rfl; focus (intro Z; refine GO.move rfl rfl ?_; exact KQ.z)); refine GR.skip rfl ?_; refine GR.skip rfl ?_; (apply GR.step rfl; focus (intro Z; refine GO.idxS rfl rfl rfl ⟨rfl, by omega⟩ ?_; exact KQ.z)); refine GR.nil ?_)
    (repeat refine GT.skip rfl ?_)
    refine GT.step rfl ?_
    refine GO.buildSlice1 rfl rfl (by simp; rfl) rfl ⟨by omega, by omega⟩ fun b55 => ?_
    rw [show putParts [i64 ((c : Nat) : Int)] = [i64 ((c : Nat) : Int)] by simp [putParts, Value.cells]]
    refine GO.nil ⟨rfl, _, pt b55 (row [i64 (c : Nat)] 3) :: own 3 1 (colsK X k r).length (vs r) (natsV (colsK X k r)) :: famW 3 1 s vs (fun i => (colsK X k i).length) (fun i => natsV (colsK X k i)) r :: q :: F1, rfl, ImpS.sb (by ((refine Sb.c (Tk.t Tk.h) ?_; refine Sb.c (Tk.t Tk.h) ?_; refine Sb.c Tk.h ?_; refine Sb.c Tk.h ?_; refine Sb.c Tk.h ?_; refine Sb.c Tk.h ?_); (exact Sb.r))), ?_⟩
    refine GT.step rfl ?_
    refine GO.appendOwn (m := 1) (news := [i64 (c : Nat)]) rfl rfl rfl (Tk.t (Tk.t (Tk.t Tk.h))) (Tk.t (Tk.t Tk.h)) rfl (by simp [Value.oneCell']) ⟨by decide, rfl⟩ Nat.one_pos (by unfold maxLen; omega) (by omega) fun v4 => ?_
    refine GO.ownOne Tk.h fun hone => ?_
    refine GO.nil ⟨rfl, _, own 3 1 ((colsK X k r).length + 1) v4 (natsV (colsK X k r) ++ [i64 (c : Nat)]) :: famW 3 1 s vs (fun i => (colsK X k i).length) (fun i => natsV (colsK X k i)) r :: q :: F1, rfl, ImpS.sb (by ((refine Sb.c (Tk.t Tk.h) ?_; refine Sb.c (Tk.t Tk.h) ?_; refine Sb.c Tk.h ?_; refine Sb.c (Tk.t Tk.h) ?_; refine Sb.c (Tk.t Tk.h) ?_); (refine Sb.s ?_; exact Sb.r))), ?_⟩
    (repeat refine GT.skip rfl ?_)
    refine GT.nil ?_
    refine GO.store1 rfl rfl hone (Tk.t Tk.h) (by rw [rowV_len]; omega) ?_
    rw [rowV_set (f := fun v : Value => v)]
    (refine GO.nil ?_; refine kblock_n ?_)
    refine kB_n (ImpS.exs (upd vs r v4) (ImpS.flat ?_))
    refine ImpS.trans (fam_in (vs := vs) (ln := fun i => (colsK X k i).length) (xs := fun i => natsV (colsK X k i)) (vs' := upd vs r v4) (ln' := fun i => (colsK X (k + 1) i).length) (xs' := fun i => natsV (colsK X (k + 1) i)) (T := 3) (sz := 1) (N := s) (i := r) (F := pt bl (row (rowV (fun v : Value => v) (upd vs r v4) s) 67) :: pt b8 (row [.slice (some ⟨bl, 0, none⟩) s s] 117) :: q :: F1) hr (fun j hj => ⟨upd_ne _ _ hj, by rw [hne j hj], by rw [hne j hj]⟩) ?_) (ImpS.sb ?_)
    · rw [upd_at, hat, List.length_append, ← natsV_one]
      refine ImpS.sb ?_
      ((refine Sb.c (Tk.t (Tk.t Tk.h)) ?_; refine Sb.c (Tk.t (Tk.t Tk.h)) ?_; refine Sb.c Tk.h ?_; refine Sb.c Tk.h ?_; refine Sb.c Tk.h ?_); (exact Sb.r))
    · ((refine Sb.c (Tk.t Tk.h) ?_; refine Sb.c Tk.h ?_; refine Sb.c Tk.h ?_; refine Sb.c Tk.h ?_); (exact Sb.r))
  · rw [List.length_map]
    change G _ _ _ _ _ ((exs fun vs => star (colsM X s bl vs (cellsX X).length)) :: pt b8 (row [.slice (some ⟨bl, 0, none⟩) s s] 117) :: q :: bkM X bI vI :: mat s X b :: F)
    refine G.exs fun vs => G.flat ?_
    (refine G.seq ?_; refine G.region ?_; refine GO.move rfl rfl ?_)
    refine GO.call1 rfl rfl (side_mat s b X) (Tks.c (Tk.t (Tk.t (Tk.t (Tk.t (Tk.t Tk.h))))) Tks.n) ?_
    rintro _ _ ⟨rfl, rfl⟩
    skip
    refine GO.make1 (n := s) rfl rfl rfl ⟨rfl, rfl⟩ ⟨by omega, by omega⟩ fun ba => ?_
    rw [show List.replicate s (Value.bool false) = rowV (fun x : Bool => Value.bool x) (fun _ => false) s from rowV_const (f := fun x : Bool => Value.bool x) (a := false)]
    (refine GO.assign rfl rfl ?_; refine GO.nil ?_; refine kthen_n ?_; refine G.seq ?_; refine G.region ?_; refine GO.move rfl rfl ?_; refine GO.move rfl rfl ?_; refine GO.idxS rfl rfl rfl ⟨rfl, by omega⟩ ?_)
    refine GO.store1 rfl rfl rfl Tk.h (by rw [rowV_len]; omega) ?_
    rw [rowV_set (f := fun x : Bool => Value.bool x), upd_walk X s u]
    (refine GO.nil ?_; refine kthen_n ?_; refine G.seq ?_; refine G.seq ?_; refine G.region ?_; refine GO.move rfl rfl ?_; refine GO.move rfl rfl ?_; refine GO.nil ?_; refine kthen_n ?_; refine G.block ?_)
    refine G.loop2 (fun (k : Nat) (ba : Nat) => [(0, ptrV b), (8, ptrV b8), (11, .slice (some ⟨ba, 0, none⟩) s s), (64, i64 n), (65, i64 k)])
      (fun k ba => onR ba (walkX X s u k) s :: pt bl (row (rowV (fun v : Value => v) vs s) 67) :: fam 3 1 s vs (fun i => (colsK X (cellsX X).length i).length) (fun i => natsV (colsK X (cellsX X).length i)) :: pt b8 (row [.slice (some ⟨bl, 0, none⟩) s s] 117) :: q :: mat s X b :: F) (fun k _ => k ≤ n) (fun k _ => n - k) 0 ba (by omega) ?_ ?_ ?_
    · (refine SubE.c rfl rfl ?_; refine SubE.c rfl rfl ?_; refine SubE.c rfl rfl ?_; refine SubE.c rfl rfl ?_; refine SubE.c rfl rfl ?_; exact SubE.n)
    · ((refine Sb.c Tk.h ?_; refine Sb.c (Tk.t Tk.h) ?_; refine Sb.c (Tk.t Tk.h) ?_; refine Sb.c (Tk.t Tk.h) ?_; refine Sb.c (Tk.t Tk.h) ?_; refine Sb.c Tk.h ?_); (refine Sb.s ?_; exact Sb.r))
    · rintro k ba hk
      (refine G.seq ?_; refine G.region ?_; refine GO.lti rfl rfl rfl ?_; refine GO.nil ?_; refine kthen_n ?_; refine G.seq ?_)
      refine G.condD rfl (fun hlt => ?_) (fun hge => ?_)
      · (refine G.skip ?_; refine kthen_n ?_; refine G.seq ?_; refine G.block ?_)
        refine G.scope ?_
        (refine G.seq ?_; refine G.region ?_; refine GO.move rfl rfl ?_)
        refine GO.call1 rfl rfl (side_mat s b X) (Tks.c (Tk.t (Tk.t (Tk.t (Tk.t (Tk.t Tk.h))))) Tks.n) ?_
        rintro _ _ ⟨rfl, rfl⟩
        skip
        refine GO.make1 (n := s) rfl rfl rfl ⟨rfl, rfl⟩ ⟨by omega, by omega⟩ fun bn => ?_
        rw [show List.replicate s (Value.bool false) = rowV (fun x : Bool => Value.bool x) (fun _ => false) s from rowV_const (f := fun x : Bool => Value.bool x) (a := false)]
        (refine GO.assign rfl rfl ?_; refine GO.nil ?_; refine kthen_n ?_; refine G.seq ?_)
        refine G.label ?_
        have hwk := walkX_succ X s u k
        generalize walkX X s u k = A at hwk ⊢
        rw [← stepN_zero X A]
        (refine kthen_n ?_; refine G.seq ?_; refine G.seq ?_; refine G.region ?_; refine GO.move rfl rfl ?_; refine GO.lenS rfl rfl ?_; refine GO.move rfl rfl ?_; refine GO.nil ?_; refine kthen_n ?_; refine G.block ?_)
        refine G.loopI (fun i : Nat => [(0, ptrV b), (8, ptrV b8), (11, .slice (some ⟨ba, 0, none⟩) s s), (12, .slice (some ⟨bn, 0, none⟩) s s), (64, i64 n), (65, i64 k), (70, .slice (some ⟨ba, 0, none⟩) s s), (71, i64 s), (72, i64 i)])
          (fun i => onR bn (stepN X A i) s :: onR ba A s :: pt bl (row (rowV (fun v : Value => v) vs s) 67) :: fam 3 1 s vs (fun i => (colsK X (cellsX X).length i).length) (fun i => natsV (colsK X (cellsX X).length i)) :: pt b8 (row [.slice (some ⟨bl, 0, none⟩) s s] 117) :: q :: mat s X b :: F) (fun i => i ≤ s) (fun i => s - i) 0 (by omega) ?_ ?_ ?_
        · (refine SubE.c rfl rfl ?_; refine SubE.c rfl rfl ?_; refine SubE.c rfl rfl ?_; refine SubE.c rfl rfl ?_; refine SubE.c rfl rfl ?_; refine SubE.c rfl rfl ?_; refine SubE.c rfl rfl ?_; refine SubE.c rfl rfl ?_; refine SubE.c rfl rfl ?_; exact SubE.n)
        · refine ImpS.sb ?_
          ((refine Sb.c Tk.h ?_; refine Sb.c (Tk.t Tk.h) ?_; refine Sb.c (Tk.t Tk.h) ?_; refine Sb.c (Tk.t Tk.h) ?_; refine Sb.c (Tk.t Tk.h) ?_; refine Sb.c (Tk.t Tk.h) ?_; refine Sb.c Tk.h ?_); (exact Sb.r))
        · rintro i hi
          (refine G.seq ?_; refine G.region ?_; refine GO.lti rfl rfl rfl ?_; refine GO.nil ?_; refine kthen_n ?_; refine G.seq ?_)
          refine G.condD rfl (fun hlt2 => ?_) (fun hge => ?_)
          · have his : i < s := by omega
            have hce := hend i his
            have hrl := colsK_len X (cellsX X).length i
            cases hA : A i with
            | false =>
              have hof := stepN_off X hA
              have hnA : (!A i) = true := by rw [hA]; rfl
              (refine G.skip ?_; refine kthen_n ?_; refine G.seq ?_; refine G.block ?_; refine G.seq ?_; refine G.region ?_; refine GO.move rfl rfl ?_; refine GO.idxS rfl rfl rfl ⟨rfl, by omega⟩ ?_; refine GO.load1 rfl rfl rfl (Tk.t Tk.h) (rowV_get1 (by assumption)) ?_; refine GO.assign rfl rfl ?_; refine GO.assign rfl rfl ?_; refine GO.nil ?_; refine kthen_n ?_; refine G.seq ?_; refine G.seq ?_; refine G.region ?_; refine GO.move rfl rfl ?_; refine GO.not rfl rfl ?_; refine GO.nil ?_; refine kthen_n ?_; refine G.condT rfl (by assumption) ?_; refine G.exit ?_; refine kthen_x ?_; refine kblock_x ?_; refine kthen_n ?_; refine G.region ?_; refine GO.addi rfl rfl rfl (by omega) ?_; refine GO.move rfl rfl ?_; refine GO.nil ?_; refine kthen_n ?_)
              refine ⟨i + 1, by omega, by omega, ?_, ?_⟩
              · (refine SubE.c rfl rfl ?_; refine SubE.c rfl rfl ?_; refine SubE.c rfl rfl ?_; refine SubE.c rfl rfl ?_; refine SubE.c rfl rfl ?_; refine SubE.c rfl rfl ?_; refine SubE.c rfl rfl ?_; refine SubE.c rfl rfl ?_; refine SubE.c rfl rfl ?_; exact SubE.n)
              · rw [hof]
                refine ImpS.sb ?_
                ((refine Sb.c Tk.h ?_; refine Sb.c Tk.h ?_; refine Sb.c Tk.h ?_; refine Sb.c Tk.h ?_; refine Sb.c Tk.h ?_; refine Sb.c Tk.h ?_; refine Sb.c Tk.h ?_); (exact Sb.r))
            | true =>
              have hne := nextK_end hsd.2 hin hA
              have hnA : (!A i) = false := by rw [hA]; rfl
              refine G.famOut his (Tk.t (Tk.t (Tk.t Tk.h))) ?_
              (refine G.skip ?_; refine kthen_n ?_; refine G.seq ?_; refine G.block ?_; refine G.seq ?_; refine G.region ?_; refine GO.move rfl rfl ?_; refine GO.idxS rfl rfl rfl ⟨rfl, by omega⟩ ?_; refine GO.load1 rfl rfl rfl (Tk.t (Tk.t (Tk.t Tk.h))) (rowV_get1 (by assumption)) ?_; refine GO.assign rfl rfl ?_; refine GO.assign rfl rfl ?_; refine GO.nil ?_; refine kthen_n ?_; refine G.seq ?_; refine G.seq ?_; refine G.region ?_; refine GO.move rfl rfl ?_; refine GO.not rfl rfl ?_; refine GO.nil ?_; refine kthen_n ?_; refine G.condF rfl (by assumption) ?_; refine G.skip ?_; refine kthen_n ?_; refine G.seq ?_; refine G.region ?_; refine GO.load1 rfl rfl rfl (Tk.t (Tk.t (Tk.t (Tk.t (Tk.t Tk.h))))) rfl ?_; refine GO.move rfl rfl ?_; refine GO.idxS rfl rfl rfl ⟨rfl, by omega⟩ ?_; refine GO.load1 rfl rfl rfl (Tk.t (Tk.t (Tk.t (Tk.t Tk.h)))) (rowV_get1 (by assumption)) ?_; refine GO.lenOwn rfl rfl Tk.h ?_; refine GO.move rfl rfl ?_; refine GO.nil ?_; refine kthen_n ?_; refine G.block ?_)
              rw [← nextK_nil X A i]
              refine G.loop (fun m : Nat => [(0, ptrV b), (8, ptrV b8), (11, .slice (some ⟨ba, 0, none⟩) s s), (12, .slice (some ⟨bn, 0, none⟩) s s), (64, i64 n), (65, i64 k), (70, .slice (some ⟨ba, 0, none⟩) s s), (71, i64 s), (72, i64 i), (82, vs i), (83, i64 (colsK X (cellsX X).length i).length), (84, i64 m)])
                (fun m => own 3 1 (colsK X (cellsX X).length i).length (vs i) (natsV (colsK X (cellsX X).length i)) :: famW 3 1 s vs (fun i => (colsK X (cellsX X).length i).length) (fun i => natsV (colsK X (cellsX X).length i)) i :: onR bn (nextK X A i m) s :: onR ba A s :: pt bl (row (rowV (fun v : Value => v) vs s) 67) :: pt b8 (row [.slice (some ⟨bl, 0, none⟩) s s] 117) :: q :: mat s X b :: F) (fun m => m ≤ (colsK X (cellsX X).length i).length) (fun m => (colsK X (cellsX X).length i).length - m) 0 (by omega) ?_ ?_ ?_
              · (refine SubE.c rfl rfl ?_; refine SubE.c rfl rfl ?_; refine SubE.c rfl rfl ?_; refine SubE.c rfl rfl ?_; refine SubE.c rfl rfl ?_; refine SubE.c rfl rfl ?_; refine SubE.c rfl rfl ?_; refine SubE.c rfl rfl ?_; refine SubE.c rfl rfl ?_; refine SubE.c rfl rfl ?_; refine SubE.c rfl rfl ?_; refine SubE.c rfl rfl ?_; exact SubE.n)
              · ((refine Sb.c Tk.h ?_; refine Sb.c Tk.h ?_; refine Sb.c Tk.h ?_; refine Sb.c Tk.h ?_; refine Sb.c Tk.h ?_; refine Sb.c Tk.h ?_; refine Sb.c Tk.h ?_; refine Sb.c Tk.h ?_); (exact Sb.r))
              · rintro m hm
                (refine G.seq ?_; refine G.region ?_; refine GO.lti rfl rfl rfl ?_; refine GO.nil ?_; refine kthen_n ?_; refine G.seq ?_)
                refine G.condD rfl (fun hlt3 => ?_) (fun hge => ?_)
                · have hm2 : m < (colsK X (cellsX X).length i).length := by omega
                  obtain ⟨c, hc⟩ : ∃ c, (colsK X (cellsX X).length i)[m]? = some c := ⟨_, List.getElem?_eq_getElem hm2⟩
                  have hc2 := hc
                  rw [hce] at hc2
                  have hcs := (hin _ _ (rowX_mem.1 (List.mem_of_getElem? hc2)).2).2
                  have hsu := nextK_succ X A hc2
                  refine G.ownForm (by omega) Tk.h fun bo capo e2 _ _ _ => ?_
                  have rdk : Rd (own 3 1 (colsK X (cellsX X).length i).length (.slice (some ⟨bo, 0, none⟩) (colsK X (cellsX X).length i).length capo) (natsV (colsK X (cellsX X).length i))) ⟨bo, 0 + m * 1, none⟩ (i64 (c : Nat)) := by
                    rw [Nat.zero_add, Nat.mul_one]
                    exact Rd.own (natsV_get hc)
                  rw [e2]
                  (refine G.skip ?_; refine kthen_n ?_; refine G.seq ?_; refine G.block ?_; refine G.seq ?_; refine G.region ?_; refine GO.idxS rfl rfl rfl ⟨rfl, by omega⟩ ?_; refine GO.loadQ rfl rfl rfl Tk.h (by assumption) ?_; refine GO.assign rfl rfl ?_; refine GO.nil ?_; refine kthen_n ?_; refine G.region ?_; refine GO.move rfl rfl ?_; refine GO.move rfl rfl ?_; refine GO.idxS rfl rfl rfl ⟨rfl, by omega⟩ ?_)
                  refine GO.store1 rfl rfl rfl (Tk.t (Tk.t Tk.h)) (by rw [rowV_len]; omega) ?_
                  rw [rowV_set (f := fun x : Bool => Value.bool x), ← hsu]
                  (refine GO.nil ?_; refine kblock_n ?_; refine kthen_n ?_; refine G.region ?_; refine GO.addi rfl rfl rfl (by omega) ?_; refine GO.move rfl rfl ?_; refine GO.nil ?_; refine kthen_n ?_)
                  refine ⟨m + 1, by omega, by omega, ?_, ?_⟩
                  · (refine SubE.c rfl rfl ?_; refine SubE.c rfl rfl ?_; refine SubE.c rfl rfl ?_; refine SubE.c rfl rfl ?_; refine SubE.c rfl rfl ?_; refine SubE.c rfl rfl ?_; refine SubE.c rfl rfl ?_; refine SubE.c rfl rfl ?_; refine SubE.c rfl rfl ?_; refine SubE.c rfl rfl ?_; refine SubE.c rfl rfl ?_; refine SubE.c rfl rfl ?_; exact SubE.n)
                  · ((refine Sb.c (Tk.t Tk.h) ?_; refine Sb.c (Tk.t Tk.h) ?_; refine Sb.c Tk.h ?_; refine Sb.c Tk.h ?_; refine Sb.c Tk.h ?_; refine Sb.c Tk.h ?_; refine Sb.c Tk.h ?_; refine Sb.c Tk.h ?_); (exact Sb.r))
                · obtain rfl : m = (colsK X (cellsX X).length i).length := by omega
                  rw [show nextK X A i (colsK X (cellsX X).length i).length = stepN X A (i + 1) by rw [hce]; exact hne]
                  (refine G.exit ?_; refine kthen_x ?_; refine kthen_x ?_; refine kblock_x ?_; refine kblock_n ?_; refine kthen_n ?_; refine G.region ?_; refine GO.addi rfl rfl rfl (by omega) ?_; refine GO.move rfl rfl ?_; refine GO.nil ?_; refine kthen_n ?_)
                  refine ⟨i + 1, by omega, by omega, ?_, ?_⟩
                  · (refine SubE.c rfl rfl ?_; refine SubE.c rfl rfl ?_; refine SubE.c rfl rfl ?_; refine SubE.c rfl rfl ?_; refine SubE.c rfl rfl ?_; refine SubE.c rfl rfl ?_; refine SubE.c rfl rfl ?_; refine SubE.c rfl rfl ?_; refine SubE.c rfl rfl ?_; exact SubE.n)
                  · refine ImpS.trans (fam_in (vs := vs) (ln := (fun i => (colsK X (cellsX X).length i).length)) (xs := (fun i => natsV (colsK X (cellsX X).length i))) (vs' := vs) (ln' := (fun i => (colsK X (cellsX X).length i).length)) (xs' := (fun i => natsV (colsK X (cellsX X).length i))) (T := 3) (sz := 1) (N := s) (i := i) (F := onR bn (stepN X A (i + 1)) s :: onR ba A s :: pt bl (row (rowV (fun v : Value => v) vs s) 67) :: pt b8 (row [.slice (some ⟨bl, 0, none⟩) s s] 117) :: q :: mat s X b :: F) his (fun j _ => ⟨rfl, rfl, rfl⟩) (ImpS.sb ?_)) (ImpS.sb ?_)
                    · ((refine Sb.c Tk.h ?_; refine Sb.c Tk.h ?_; refine Sb.c Tk.h ?_; refine Sb.c Tk.h ?_; refine Sb.c Tk.h ?_; refine Sb.c Tk.h ?_; refine Sb.c Tk.h ?_; refine Sb.c Tk.h ?_); (exact Sb.r))
                    · ((refine Sb.c (Tk.t Tk.h) ?_; refine Sb.c (Tk.t Tk.h) ?_; refine Sb.c (Tk.t Tk.h) ?_; refine Sb.c Tk.h ?_; refine Sb.c Tk.h ?_; refine Sb.c Tk.h ?_; refine Sb.c Tk.h ?_); (exact Sb.r))
          · obtain rfl : i = s := by omega
            rw [hwk]
            (refine G.exit ?_; refine kthen_x ?_; refine kthen_x ?_; refine kblock_x ?_; refine kthen_n ?_; refine G.region ?_; refine GO.move rfl rfl ?_; refine GO.assign rfl rfl ?_; refine GO.nil ?_)
            refine kscope_n ?_
            (refine kblock_n ?_; refine kthen_n ?_; refine G.region ?_; refine GO.addi rfl rfl rfl (by omega) ?_; refine GO.move rfl rfl ?_; refine GO.nil ?_; refine kthen_n ?_)
            refine ⟨k + 1, bn, by omega, by omega, ?_, ?_⟩
            · (refine SubE.c rfl rfl ?_; refine SubE.c rfl rfl ?_; refine SubE.c rfl rfl ?_; refine SubE.c rfl rfl ?_; refine SubE.c rfl rfl ?_; exact SubE.n)
            · ((refine Sb.c Tk.h ?_; refine Sb.c (Tk.t Tk.h) ?_; refine Sb.c (Tk.t Tk.h) ?_; refine Sb.c (Tk.t Tk.h) ?_; refine Sb.c (Tk.t Tk.h) ?_; refine Sb.c (Tk.t Tk.h) ?_); (refine Sb.s ?_; exact Sb.r))
      · obtain rfl : k = n := by omega
        generalize walkX X s u k = A
        refine G.ownNil (T := 3) (sz := 1) ?_
        (refine G.exit ?_; refine kthen_x ?_; refine kthen_x ?_; refine kblock_x ?_; refine kthen_n ?_; refine G.seq ?_; refine G.region ?_; refine GO.assign rfl rfl ?_; refine GO.nil ?_; refine kthen_n ?_; refine G.seq ?_; refine G.seq ?_; refine G.region ?_; refine GO.move rfl rfl ?_; refine GO.lenS rfl rfl ?_; refine GO.move rfl rfl ?_; refine GO.nil ?_; refine kthen_n ?_; refine G.block ?_)
        refine G.loop2 (fun (i : Nat) (v : Value) => [(11, .slice (some ⟨ba, 0, none⟩) s s), (17, v), (95, .slice (some ⟨ba, 0, none⟩) s s), (96, i64 s), (97, i64 i)])
          (fun i v => own 3 1 (onL A i).length v (natsV (onL A i)) :: onR ba A s :: mat s X b :: q :: F) (fun i _ => i ≤ s) (fun i _ => s - i) 0 (.slice none 0 0) (by omega) ?_ ?_ ?_
        · (refine SubE.c rfl rfl ?_; refine SubE.c rfl rfl ?_; refine SubE.c rfl rfl ?_; refine SubE.c rfl rfl ?_; refine SubE.c rfl rfl ?_; exact SubE.n)
        · rw [show onL A 0 = [] by unfold onL; rfl, show natsV [] = [] by unfold natsV; rfl]
          ((refine Sb.c Tk.h ?_; refine Sb.c Tk.h ?_; refine Sb.c (Tk.t (Tk.t (Tk.t (Tk.t Tk.h)))) ?_; refine Sb.c (Tk.t (Tk.t (Tk.t Tk.h))) ?_); (refine Sb.s ?_; refine Sb.s ?_; refine Sb.s ?_; exact Sb.r))
        · rintro i v hi
          have hol := onL_len A i
          (refine G.seq ?_; refine G.region ?_; refine GO.lti rfl rfl rfl ?_; refine GO.nil ?_; refine kthen_n ?_; refine G.seq ?_)
          refine G.condD rfl (fun hlt2 => ?_) (fun hge => ?_)
          · have his : i < s := by omega
            cases hA : A i with
            | false =>
              have hof := onL_f hA
              (refine G.skip ?_; refine kthen_n ?_; refine G.seq ?_; refine G.block ?_; refine G.seq ?_; refine G.region ?_; refine GO.move rfl rfl ?_; refine GO.idxS rfl rfl rfl ⟨rfl, by omega⟩ ?_; refine GO.load1 rfl rfl rfl (Tk.t Tk.h) (rowV_get1 (by assumption)) ?_; refine GO.assign rfl rfl ?_; refine GO.assign rfl rfl ?_; refine GO.nil ?_; refine kthen_n ?_; refine G.seq ?_; refine G.region ?_; refine GO.move rfl rfl ?_; refine GO.nil ?_; refine kthen_n ?_; refine G.condF rfl (by assumption) ?_; refine G.skip ?_; refine kblock_n ?_; refine kthen_n ?_; refine G.region ?_; refine GO.addi rfl rfl rfl (by omega) ?_; refine GO.move rfl rfl ?_; refine GO.nil ?_; refine kthen_n ?_)
              refine ⟨i + 1, v, by omega, by omega, ?_, ?_⟩
              · (refine SubE.c rfl rfl ?_; refine SubE.c rfl rfl ?_; refine SubE.c rfl rfl ?_; refine SubE.c rfl rfl ?_; refine SubE.c rfl rfl ?_; exact SubE.n)
              · rw [hof]
                ((refine Sb.c Tk.h ?_; refine Sb.c Tk.h ?_; refine Sb.c Tk.h ?_; refine Sb.c Tk.h ?_); (exact Sb.r))
            | true =>
              have hof := onL_t hA
              (refine G.skip ?_; refine kthen_n ?_; refine G.seq ?_; refine G.block ?_; refine G.seq ?_; refine G.region ?_; refine GO.move rfl rfl ?_; refine GO.idxS rfl rfl rfl ⟨rfl, by omega⟩ ?_; refine GO.load1 rfl rfl rfl (Tk.t Tk.h) (rowV_get1 (by assumption)) ?_; refine GO.assign rfl rfl ?_; refine GO.assign rfl rfl ?_; refine GO.nil ?_; refine kthen_n ?_; refine G.seq ?_; refine G.region ?_; refine GO.move rfl rfl ?_; refine GO.nil ?_; refine kthen_n ?_; refine G.condT rfl (by assumption) ?_; refine G.region ?_; refine GO.move rfl rfl ?_; refine GO.move rfl rfl ?_)
              refine GO.buildSlice1 rfl rfl (by simp; rfl) rfl ⟨by omega, by omega⟩ fun b105 => ?_
              refine GO.appendOwn (m := 1) (news := [i64 (i : Nat)]) rfl rfl rfl (Tk.t Tk.h) Tk.h rfl (by simp [Value.oneCell']) ⟨by decide, rfl⟩ Nat.one_pos (by unfold maxLen; omega) (by omega) fun v4 => ?_
              rw [natsV_one, ← hof, show (onL A i).length + 1 = (onL A (i + 1)).length by rw [hof, List.length_append]; rfl]
              (refine GO.assign rfl rfl ?_; refine GO.nil ?_; refine kblock_n ?_; refine kthen_n ?_; refine G.region ?_; refine GO.addi rfl rfl rfl (by omega) ?_; refine GO.move rfl rfl ?_; refine GO.nil ?_; refine kthen_n ?_)
              refine ⟨i + 1, v4, by omega, by omega, ?_, ?_⟩
              · (refine SubE.c rfl rfl ?_; refine SubE.c rfl rfl ?_; refine SubE.c rfl rfl ?_; refine SubE.c rfl rfl ?_; refine SubE.c rfl rfl ?_; exact SubE.n)
              · ((refine Sb.c Tk.h ?_; refine Sb.c (Tk.t Tk.h) ?_; refine Sb.c (Tk.t Tk.h) ?_; refine Sb.c (Tk.t Tk.h) ?_); (refine Sb.s ?_; exact Sb.r))
          · obtain rfl : i = s := by omega
            (refine G.exit ?_; refine kthen_x ?_; refine kthen_x ?_; refine kblock_x ?_; refine kthen_n ?_; refine G.seq ?_; refine G.region ?_; refine GO.move rfl rfl ?_; refine GO.assign rfl rfl ?_; refine GO.assign rfl rfl ?_; refine GO.nil ?_; refine kthen_n ?_; refine G.ret ?_)
            refine KF2.r2 rfl (RV.t rfl) (RV.t rfl) ⟨v, rfl, rfl⟩ (ImpS.sb ?_)
            ((refine Sb.c Tk.h ?_; refine Sb.c (Tk.t Tk.h) ?_; refine Sb.c (Tk.t Tk.h) ?_); (refine Sb.s ?_; exact Sb.r))
  · intro i jc hi
    exact G.pur fun h => h.elim
end Go.Proofs.YtpfcgfgkmgnaaaaDoor
namespace Go.Proofs.YtpfcgfgkmgnaaaaDoor
open Go
def awX : Nat → Nat → Bool := setL noX [(0, 69), (69, 1), (1, 1)]
def awY : Nat → Nat → Bool := setL noX [(0, 1), (69, 1), (1, 1)]
theorem awX_iff (r c : Nat) : awX r c = true ↔ (r = 0 ∧ c = 69) ∨ (r = 69 ∧ c = 1) ∨ (r = 1 ∧ c = 1) := by
  have : awX r c = (((false || (decide (r = 0) && decide (c = 69))) || (decide (r = 69) && decide (c = 1))) || (decide (r = 1) && decide (c = 1))) := rfl
  rw [this]
  simp only [Bool.or_eq_true, Bool.and_eq_true, decide_eq_true_eq, Bool.false_or]
  omega
theorem awY_iff (r c : Nat) : awY r c = true ↔ (r = 0 ∧ c = 1) ∨ (r = 69 ∧ c = 1) ∨ (r = 1 ∧ c = 1) := by
  have : awY r c = (((false || (decide (r = 0) && decide (c = 1))) || (decide (r = 69) && decide (c = 1))) || (decide (r = 1) && decide (c = 1))) := rfl
  rw [this]
  simp only [Bool.or_eq_true, Bool.and_eq_true, decide_eq_true_eq, Bool.false_or]
  omega
theorem aw_mul : mulX awX awX = awY := by
  funext r c
  rw [Bool.eq_iff_iff, mulX_iff, awY_iff]
  constructor
  · rintro ⟨k, _, h1, h2⟩
    rw [awX_iff] at h1 h2
    omega
  · intro h
    rcases h with ⟨rfl, rfl⟩ | ⟨rfl, rfl⟩ | ⟨rfl, rfl⟩
    · exact ⟨69, by omega, (awX_iff _ _).2 (by omega), (awX_iff _ _).2 (by omega)⟩
    · exact ⟨1, by omega, (awX_iff _ _).2 (by omega), (awX_iff _ _).2 (by omega)⟩
    · exact ⟨1, by omega, (awX_iff _ _).2 (by omega), (awX_iff _ _).2 (by omega)⟩
theorem aw_cnt : cntX awY = 3 := by
  have e : awY = addX (addX (addX noX 0 1) 69 1) 1 1 := rfl
  have h1 : addX (addX noX 0 1) 69 1 1 1 = false := rfl
  have h2 : addX noX 0 1 69 1 = false := rfl
  rw [e, cntX_add (by decide) (by decide) h1, cntX_add (by decide) (by decide) h2, cntX_add (by decide) (by decide) rfl, cntX_no]
theorem aw_walk : onL (walkX awX 70 0 2) 70 = [1] := by
  have e : walkX awX 70 0 2 = fun j => decide (j = 1) := by
    funext j
    rw [Bool.eq_iff_iff, decide_eq_true_iff]
    show stepN awX (walkX awX 70 0 1) 70 j = true ↔ _
    rw [stepN_iff]
    constructor
    · rintro ⟨i, _, h1, h2⟩
      have h1 : stepN awX (walkX awX 70 0 0) 70 i = true := h1
      obtain ⟨k, _, h3, h4⟩ := stepN_iff.1 h1
      have h3 : k = 0 := of_decide_eq_true h3
      rw [awX_iff] at h2 h4
      omega
    · rintro rfl
      refine ⟨69, by omega, ?_, (awX_iff _ _).2 (by omega)⟩
      show stepN awX (walkX awX 70 0 0) 70 69 = true
      exact stepN_iff.2 ⟨0, by omega, by decide, (awX_iff _ _).2 (by omega)⟩
  rw [e]
  rfl
theorem aw_in : ∀ r c, awX r c = true → r < 70 ∧ c < 70 := fun r c h => by rw [awX_iff] at h; omega
def awL : List (Int × Int) := [(0, 69), (69, 1), (1, 1)]
theorem awL_def : setL noX awL = awX := rfl
abbrev awR (b : Nat) : HP := pt b (row (putParts [Value.agg (putParts [i64 0, i64 69]).toArray, Value.agg (putParts [i64 69, i64 1]).toArray, Value.agg (putParts [i64 1, i64 1]).toArray]) 63)
theorem awL_sl (b : Nat) : SlR (awR b) (.slice (some ⟨b, 0, none⟩) 3 3) awL.length 2 (cellsV awL) :=
  ⟨_, _, rfl, rfl, fun _ => ⟨b, 0, rfl, fun j u hj => by rw [Nat.zero_add]; exact Rd.row (by simpa [cellsV, awL, putParts, Value.cells] using hj)⟩⟩
theorem fits2 (s : Nat) (X : Nat → Nat → Bool) (b : Nat) : HasM (mat s X b) (ptrV b) s X := HasM.one s b X
attribute [local irreducible] G GO GR GT Fn FnV pt init exs pur sat own ImpS mat posL allV orL restX cellsX awX awY cntX
end Go.Proofs.YtpfcgfgkmgnaaaaDoor
namespace Go.Proofs.YtpfcgfgkmgnaaaaDoor
open Go
section
variable {P : Program} {c : Cx} {A : Array Oper} {os : List Oper} {K : Kont} {L : Env} {H F : List HP} {x y : HP}
theorem GO.pair (tk : Tks [x, y] H F) (k : GO P c A os K L (star [x, y] :: F)) : GO P c A os K L H := GO.imp (fun l w s => sat_flat.2 (by
  have s1 : sat (x :: y :: (F ++ l)) w := sat_perm (List.Perm.append_right l tk) s
  exact s1)) k
theorem GO.unpair (tk : Tk (star [x, y]) H F) (k : GO P c A os K L (x :: y :: F)) : GO P c A os K L H := GO.take tk (GO.flat k)
end
attribute [local irreducible] G GO GR GT Fn FnV pt init exs pur sat own ImpS mat posL allV orL restX cellsX foldX
end Go.Proofs.YtpfcgfgkmgnaaaaDoor
namespace Go.Proofs.YtpfcgfgkmgnaaaaDoor
open Go
/-- A matrix's facts, at a contract. -/
theorem Fn.matFact {P : Program} {f : FuncId} {args : Array Value} {s b : Nat} {X : Nat → Nat → Bool} {Pre : List HP} {R : Value → List HP → Prop} (h : (1 ≤ s ∧ s ≤ 1024) → (∀ r c, X r c = true → r < s ∧ c < s) → Fn P f args (mat s X b :: Pre) R) : Fn P f args (mat s X b :: Pre) R := by
  unfold Fn at *
  intro F w hw
  obtain ⟨g, hg, _⟩ := sat_mat.1 (show sat (mat s X b :: (Pre ++ F)) w from hw)
  exact h (show MatOK s X g.D g.np g.nl g.P g.B g.cnt from hg).sd (show MatOK s X g.D g.np g.nl g.P g.B g.cnt from hg).inn F w hw
theorem Fn.perm {P : Program} {f : FuncId} {args : Array Value} {Pre Pre' : List HP} {R : Value → List HP → Prop} (hp : Pre'.Perm Pre) (h : Fn P f args Pre R) : Fn P f args Pre' R := by
  unfold Fn at *
  intro F w hw
  exact h F w (sat_perm (hp.append_right F) hw)
theorem pMul2 (q : HP) (hq : Tab q) (a b s : Nat) (X Y : Nat → Nat → Bool) :
    Fn Tryd.prog 19 #[ptrV a, ptrV b] [mat s X a, mat s Y b, q] (fun r Q => ∃ b', r = .tuple #[ptrV b', i64 0] ∧ Q = [mat s (mulX X Y) b', mat s X a, mat s Y b, q]) := by
  refine Fn.matFact fun hs hx => ?_
  refine Fn.perm (Pre := [mat s Y b, mat s X a, q]) (List.Perm.swap _ _ _) ?_
  refine Fn.matFact fun _ hy => ?_
  refine Fn.perm (Pre := [mat s X a, mat s Y b, q]) (List.Perm.swap _ _ _) ?_
  have h := pMul_spec q (star [mat s X a, mat s Y b]) hq a b s X Y (HasM.left (HasM.one s a X)) (HasM.right (HasM.one s b Y)) hs hx hy
  unfold Fn at *
  intro F w hw
  refine (h F w (sat_flat.2 hw)).mono ?_
  rintro e w' ⟨v, Q, h1, h2, ⟨b', hv, rfl⟩, d⟩
  refine ⟨v, _, h1, h2, ⟨b', hv, rfl⟩, ?_⟩
  have d2 : sat (star [mat s X a, mat s Y b] :: (mat s (mulX X Y) b' :: q :: F)) w' := sat_perm (List.Perm.swap _ _ _) d
  exact sat_perm (List.perm_middle (a := mat s (mulX X Y) b') (l₁ := [mat s X a, mat s Y b]) (l₂ := q :: F)) (sat_flat.1 d2)
def oneT (s n : Nat) : Nat → Nat → Bool := fun r c => decide (r = c ∧ r < s ∧ r < n)
theorem oneT_zero (s : Nat) : oneT s 0 = noX := by
  funext r c
  show decide (r = c ∧ r < s ∧ r < 0) = false
  rw [decide_eq_false_iff_not]; omega
theorem oneT_end {s n : Nat} (h : s ≤ n) : oneT s n = oneX s := by
  funext r c
  show decide (r = c ∧ r < s ∧ r < n) = decide (r = c ∧ r < s)
  rw [decide_eq_decide]; omega
abbrev oneC (s i : Nat) : Blk := blkOf (cornP oneB (min 64 (s - 64 * i)) (min 64 (s - 64 * i)))
theorem oneC_bit (s i r c : Nat) (hr : r < 64) (hc : c < 64) : (oneC s i r).getLsbD c = decide (r = c ∧ 64 * i + r < s) := by
  rw [blkOf_bit _ _ _ hc]
  unfold cornP
  rw [oneB_bit r c hr hc, Bool.eq_iff_iff]
  simp only [Bool.and_eq_true, decide_eq_true_eq]
  omega
theorem oneT_step (s i : Nat) : orX (oneT s (64 * i)) i i (oneC s i) = oneT s (64 * (i + 1)) := by
  funext r c
  unfold orX
  rw [oneC_bit s i _ _ (Nat.mod_lt _ (by decide)) (Nat.mod_lt _ (by decide)), Bool.eq_iff_iff]
  unfold oneT
  simp only [Bool.or_eq_true, Bool.and_eq_true, decide_eq_true_eq]
  omega
theorem oneC_fit (s i : Nat) : FitB s i i (oneC s i) := fun r c hr hc h => by
  rw [oneC_bit s i r c hr hc, decide_eq_true_iff] at h
  omega
attribute [local irreducible] G GO GR GT Fn FnV pt init exs pur sat own ImpS mat posL allV orL restX cellsX oneT
/-- The product of the first ones of a list. -/
def prodX (Xs : Nat → Nat → Nat → Bool) : Nat → Nat → Nat → Bool
  | 0 => Xs 0
  | k + 1 => mulX (prodX Xs k) (Xs (k + 1))
theorem prodX_in {s : Nat} {Xs : Nat → Nat → Nat → Bool} (h : ∀ k r c, Xs k r c = true → r < s ∧ c < s) : ∀ k r c, prodX Xs k r c = true → r < s ∧ c < s
  | 0 => h 0
  | k + 1 => mulX_in (prodX_in h k) (h (k + 1))
end Go.Proofs.YtpfcgfgkmgnaaaaDoor
namespace Go.Proofs.YtpfcgfgkmgnaaaaDoor
open Go
abbrev z3 (b91 a b c : Nat) : HP := pt b91 (row [ptrV a, ptrV b, ptrV c] 35)
theorem copy_left (s a : Nat) (X : Nat → Nat → Bool) (B : HP) : Fn Tryd.prog 44 #[ptrV a] [star [mat s X a, B]] (fun r Q => ∃ b', r = ptrV b' ∧ Q = [mat s X b', star [mat s X a, B]]) :=
  (Fn.left (S := fun r N => ∃ b', r = ptrV b' ∧ N = [mat s X b']) ((copy_mat s a X).mono fun r Q h => by obtain ⟨b', h1, h2⟩ := h; exact ⟨[mat s X b'], ⟨b', h1, rfl⟩, h2⟩)).mono fun r Q h => by
    obtain ⟨N, ⟨b', h1, rfl⟩, h2⟩ := h
    exact ⟨b', h1, h2⟩
attribute [local irreducible] G GO GR GT Fn FnV pt init exs pur sat own ImpS mat posL allV orL restX cellsX foldX oneX uniX
end Go.Proofs.YtpfcgfgkmgnaaaaDoor
namespace Go.Proofs.YtpfcgfgkmgnaaaaDoor
open Go
/-- The k-th power. -/
def powX (s : Nat) (X : Nat → Nat → Bool) : Nat → Nat → Nat → Bool
  | 0 => oneX s
  | k + 1 => mulX (powX s X k) X
theorem powX_in {s : Nat} {X : Nat → Nat → Bool} (h : ∀ r c, X r c = true → r < s ∧ c < s) : ∀ k r c, powX s X k r c = true → r < s ∧ c < s
  | 0 => fun r c hx => by
    obtain ⟨rfl, hr⟩ := of_decide_eq_true (show decide (r = c ∧ r < s) = true from hx)
    exact ⟨hr, hr⟩
  | k + 1 => mulX_in (powX_in h k) h
theorem powX_one {s : Nat} {X : Nat → Nat → Bool} (hs : s ≤ 1024) (h : ∀ r c, X r c = true → r < s ∧ c < s) : powX s X 1 = X := mulX_one' hs h
theorem powX_add {s : Nat} {X : Nat → Nat → Bool} (hs : s ≤ 1024) (h : ∀ r c, X r c = true → r < s ∧ c < s) (a : Nat) : ∀ b, powX s X (a + b) = mulX (powX s X a) (powX s X b)
  | 0 => (mulX_one hs (powX_in h a)).symm
  | b + 1 => by
    show mulX (powX s X (a + b)) X = mulX (powX s X a) (mulX (powX s X b) X)
    rw [powX_add hs h a b, mulX_assoc]
theorem powX_walk {s : Nat} {X : Nat → Nat → Bool} (hs : s ≤ 1024) (h : ∀ r c, X r c = true → r < s ∧ c < s) {u : Nat} (hu : u < s) : ∀ k j, powX s X k u j = walkX X s u k j
  | 0, j => by
    show decide (u = j ∧ u < s) = decide (j = u)
    rw [decide_eq_decide]; omega
  | k + 1, j => by
    show mulX (powX s X k) X u j = stepN X (walkX X s u k) s j
    rw [Bool.eq_iff_iff, mulX_iff, stepN_iff]
    constructor
    · rintro ⟨m, _, h1, h2⟩
      exact ⟨m, (h _ _ h2).1, by rw [← powX_walk hs h hu k]; exact h1, h2⟩
    · rintro ⟨m, hm, h1, h2⟩
      exact ⟨m, by omega, by rw [powX_walk hs h hu k]; exact h1, h2⟩
theorem powX_row {s : Nat} {X : Nat → Nat → Bool} (hs : s ≤ 1024) (h : ∀ r c, X r c = true → r < s ∧ c < s) {u : Nat} (hu : u < s) (k : Nat) : rowX (powX s X k) u = onL (walkX X s u k) s := by
  rw [← rowTo_end (powX_in h k) (Nat.le_refl s) hs]
  unfold rowTo onL
  exact List.filter_congr fun j _ => powX_walk hs h hu k j
theorem pow_half (t n : Nat) : t * n = (t + t) * (n / 2) + t * (n % 2) := by
  have h := Nat.div_add_mod n 2
  calc t * n = t * (2 * (n / 2) + n % 2) := by rw [h]
    _ = (t + t) * (n / 2) + t * (n % 2) := by rw [Nat.mul_add, ← Nat.mul_assoc, Nat.mul_two]
theorem ImpS.front {A B : HP} {F : List HP} (h : ImpS [A] [B]) : ImpS (A :: F) (B :: F) := fun l w s => h (F ++ l) w s
attribute [local irreducible] G GO GR GT Fn FnV pt init exs pur sat own ImpS mat posL allV orL restX cellsX powX oneX
end Go.Proofs.YtpfcgfgkmgnaaaaDoor
namespace Go.Proofs.YtpfcgfgkmgnaaaaDoor
open Go
theorem onL_mem {A : Nat → Bool} {n j : Nat} : j ∈ onL A n ↔ j < n ∧ A j = true := by simp [onL]
theorem onL_unit {X : Nat → Nat → Bool} {s u : Nat} (hu : u < s) : onL (walkX X s u 0) s = [u] := by
  refine strict_unique (R := fun a b : Nat => a < b) (fun x y h1 h2 => by omega) (List.Pairwise.filter _ List.pairwise_lt_range) (by simp) fun j => ?_
  rw [onL_mem, List.mem_singleton]
  show (j < s ∧ decide (j = u) = true) ↔ j = u
  rw [decide_eq_true_iff]
  omega
/-- Has one of the first k of a list led to w? -/
def ledK (X : Nat → Nat → Bool) (Lb : List Nat) (w k : Nat) : Bool := (Lb.take k).any fun p => X p w
theorem ledK_succ {X : Nat → Nat → Bool} {Lb : List Nat} {w k p : Nat} (h : Lb[k]? = some p) : ledK X Lb w (k + 1) = (ledK X Lb w k || X p w) := by
  unfold ledK; rw [List.take_add_one, h, List.any_append]; simp
theorem led_all {X : Nat → Nat → Bool} {s u k0 w : Nat} (h : w ∈ onL (walkX X s u (k0 + 1)) s) : ledK X (onL (walkX X s u k0) s) w (onL (walkX X s u k0) s).length = true := by
  obtain ⟨_, h2⟩ := onL_mem.1 h
  obtain ⟨p, hp, h3, h4⟩ := stepN_iff.1 (show stepN X (walkX X s u k0) s w = true from h2)
  unfold ledK
  rw [List.take_length, List.any_eq_true]
  exact ⟨p, onL_mem.2 ⟨hp, h3⟩, h4⟩
attribute [local irreducible] G GO GR GT Fn FnV pt init exs pur sat own ImpS mat posL allV orL restX cellsX powX oneX foldX onL walkX ledK natsV
end Go.Proofs.YtpfcgfgkmgnaaaaDoor
namespace Go.Proofs.YtpfcgfgkmgnaaaaDoor
open Go
/-- The rows that have come, and some cells of the next one. -/
def linesK (X : Nat → Nat → Bool) (i k : Nat) : List (Nat × Nat) := lines X i ++ ((rowX X i).take k).map fun c => (i, c)
theorem linesK_nil (X : Nat → Nat → Bool) (i : Nat) : linesK X i 0 = lines X i := by
  unfold linesK; rw [List.take_zero, List.map_nil, List.append_nil]
theorem linesK_end (X : Nat → Nat → Bool) (i : Nat) : linesK X i (rowX X i).length = lines X (i + 1) := by
  unfold linesK; rw [List.take_length, lines_succ]
theorem linesK_succ (X : Nat → Nat → Bool) {i k c : Nat} (h : (rowX X i)[k]? = some c) : linesK X i (k + 1) = linesK X i k ++ [(i, c)] := by
  unfold linesK
  rw [List.take_add_one, h, List.map_append, List.append_assoc]; rfl
theorem lines_len (X : Nat → Nat → Bool) {i : Nat} (hi : i ≤ 1024) : (lines X i).length ≤ cntX X := by
  rw [← cellsX_len, lines_rest X hi, List.length_append]; omega
theorem linesK_len (X : Nat → Nat → Bool) {i : Nat} (hi : i < 1024) {k : Nat} (hk : k ≤ (rowX X i).length) : (linesK X i k).length ≤ cntX X ∧ (linesK X i k).length = (lines X i).length + k := by
  have h1 := lines_len X (i := i + 1) (by omega)
  rw [lines_succ, List.length_append, List.length_map] at h1
  unfold linesK
  rw [List.length_append, List.length_map, List.length_take]
  omega
theorem lines_more (X : Nat → Nat → Bool) (i : Nat) : (lines X (i + 1)).length = (lines X i).length + (rowX X i).length := by rw [lines_succ, List.length_append, List.length_map]
abbrev pairsV (l : List (Nat × Nat)) : List Value := cellsV (castL l)
theorem pairsV_one (l : List (Nat × Nat)) (i c : Nat) : pairsV l ++ [i64 (i : Nat), i64 (c : Nat)] = pairsV (l ++ [(i, c)]) := by
  simp [pairsV, cellsV, castL]
attribute [local irreducible] G GO GR GT Fn FnV pt init exs pur sat own ImpS mat posL allV orL exX putX restX cellsX natsV rowTo rowX keysX lastP cntX lines linesK
end Go.Proofs.YtpfcgfgkmgnaaaaDoor
namespace Go.Proofs.YtpfcgfgkmgnaaaaDoor
open Go
/-- The Kronecker product, the inner one of side q. -/
def kronX (q : Nat) (X Y : Nat → Nat → Bool) : Nat → Nat → Bool := fun r c => X (r / q) (c / q) && Y (r % q) (c % q)
theorem div_at {q i x : Nat} (hx : x < q) : (i * q + x) / q = i ∧ (i * q + x) % q = x := by
  have hq : 0 < q := by omega
  rw [Nat.mul_comm, Nat.mul_add_div hq, Nat.mul_add_mod, Nat.div_eq_of_lt hx, Nat.mod_eq_of_lt hx]
  exact ⟨rfl, rfl⟩
theorem kron_in {s q : Nat} {X Y : Nat → Nat → Bool} (hx : ∀ r c, X r c = true → r < s ∧ c < s) (hq : 0 < q) : ∀ r c, kronX q X Y r c = true → r < s * q ∧ c < s * q := fun r c h => by
  unfold kronX at h
  rw [Bool.and_eq_true] at h
  have h1 := hx _ _ h.1
  exact ⟨(Nat.div_lt_iff_lt_mul hq).1 h1.1, (Nat.div_lt_iff_lt_mul hq).1 h1.2⟩
theorem kron_flip (q : Nat) (X Y : Nat → Nat → Bool) : flipX (kronX q X Y) = kronX q (flipX X) (flipX Y) := rfl
/-- The cells of one cell of the outer one. -/
def kronL (q : Nat) (p : Nat × Nat) (l : List (Nat × Nat)) : List (Nat × Nat) := l.map fun x => (p.1 * q + x.1, p.2 * q + x.2)
def kronLL (q : Nat) (k l : List (Nat × Nat)) : List (Nat × Nat) := k.flatMap fun p => kronL q p l
/-- Cells more. -/
def setC (X : Nat → Nat → Bool) (l : List (Nat × Nat)) : Nat → Nat → Bool := l.foldl (fun X p => addX X p.1 p.2) X
theorem setC_app (X : Nat → Nat → Bool) (l m : List (Nat × Nat)) : setC X (l ++ m) = setC (setC X l) m := by unfold setC; rw [List.foldl_append]
theorem setC_succ {X : Nat → Nat → Bool} {l : List (Nat × Nat)} {k : Nat} {p : Nat × Nat} (h : l[k]? = some p) : setC X (l.take (k + 1)) = addX (setC X (l.take k)) p.1 p.2 := by
  unfold setC; rw [List.take_add_one, h, List.foldl_append]; rfl
theorem setC_at (r c : Nat) : ∀ (l : List (Nat × Nat)) (X : Nat → Nat → Bool), setC X l r c = (X r c || l.any fun p => decide (r = p.1) && decide (c = p.2))
  | [], X => by simp [setC]
  | p :: l, X => by
    show setC (addX X p.1 p.2) l r c = _
    rw [setC_at r c l, List.any_cons, ← Bool.or_assoc]
    rfl
theorem cellsX_iff {s : Nat} {X : Nat → Nat → Bool} (hs : s ≤ 1024) (hx : ∀ r c, X r c = true → r < s ∧ c < s) (p : Nat × Nat) : p ∈ cellsX X ↔ X p.1 p.2 = true := ⟨cellsX_true, fun h => cellsX_pos hs hx h⟩
theorem kronLL_mem {q : Nat} {k l : List (Nat × Nat)} {p : Nat × Nat} : p ∈ kronLL q k l ↔ ∃ a ∈ k, ∃ b ∈ l, p = (a.1 * q + b.1, a.2 * q + b.2) := by
  unfold kronLL kronL
  simp only [List.mem_flatMap, List.mem_map]
  constructor
  · rintro ⟨a, ha, b, hb, rfl⟩; exact ⟨a, ha, b, hb, rfl⟩
  · rintro ⟨a, ha, b, hb, rfl⟩; exact ⟨a, ha, b, hb, rfl⟩
theorem kron_mem {s q : Nat} {X Y : Nat → Nat → Bool} (hs : s ≤ 1024) (hq : q ≤ 1024) (hx : ∀ r c, X r c = true → r < s ∧ c < s) (hy : ∀ r c, Y r c = true → r < q ∧ c < q) (p : Nat × Nat) : p ∈ kronLL q (cellsX X) (cellsX Y) ↔ kronX q X Y p.1 p.2 = true := by
  rw [kronLL_mem]
  unfold kronX
  rw [Bool.and_eq_true]
  constructor
  · rintro ⟨a, ha, b, hb, rfl⟩
    have hb' := cellsX_true hb
    obtain ⟨h1, h2⟩ := hy _ _ hb'
    obtain ⟨e1, e2⟩ := div_at (i := a.1) h1
    obtain ⟨e3, e4⟩ := div_at (i := a.2) h2
    dsimp only
    rw [e1, e2, e3, e4]
    exact ⟨cellsX_true ha, hb'⟩
  · rintro ⟨h1, h2⟩
    refine ⟨(p.1 / q, p.2 / q), cellsX_pos hs hx h1, (p.1 % q, p.2 % q), cellsX_pos hq hy h2, ?_⟩
    rw [Nat.mul_comm (p.1 / q), Nat.mul_comm (p.2 / q)]
    show p = (q * (p.1 / q) + p.1 % q, q * (p.2 / q) + p.2 % q)
    rw [Nat.div_add_mod, Nat.div_add_mod]
theorem kron_set {s q : Nat} {X Y C : Nat → Nat → Bool} (hs : s ≤ 1024) (hq : q ≤ 1024) (hx : ∀ r c, X r c = true → r < s ∧ c < s) (hy : ∀ r c, Y r c = true → r < q ∧ c < q) : setC C (kronLL q (cellsX X) (cellsX Y)) = uniX C (kronX q X Y) := by
  funext r c
  rw [setC_at]
  show (C r c || _) = (C r c || kronX q X Y r c)
  refine congrArg (fun x => C r c || x) ?_
  rw [Bool.eq_iff_iff, List.any_eq_true]
  constructor
  · rintro ⟨p, hp, h⟩
    simp only [Bool.and_eq_true, decide_eq_true_eq] at h
    rw [h.1, h.2]
    exact (kron_mem hs hq hx hy p).1 hp
  · intro h
    exact ⟨(r, c), (kron_mem hs hq hx hy (r, c)).2 h, by simp⟩
theorem uni_no (X : Nat → Nat → Bool) : uniX noX X = X := by
  funext r c
  show (false || X r c) = X r c
  rw [Bool.false_or]
theorem nodup_mapOn {α β : Type} {f : α → β} : ∀ {l : List α}, (∀ a, a ∈ l → ∀ b, b ∈ l → f a = f b → a = b) → l.Nodup → (l.map f).Nodup
  | [], _, _ => List.nodup_nil
  | a :: l, h, hl => by
    rw [List.nodup_cons] at hl
    rw [List.map_cons, List.nodup_cons]
    refine ⟨fun hm => ?_, nodup_mapOn (fun x hx y hy e => h x (List.mem_cons_of_mem _ hx) y (List.mem_cons_of_mem _ hy) e) hl.2⟩
    obtain ⟨b, hb, e⟩ := List.mem_map.1 hm
    exact hl.1 (by rw [h a (by simp) b (List.mem_cons_of_mem _ hb) e.symm]; exact hb)
theorem cellsX_nodup (X : Nat → Nat → Bool) : (cellsX X).Nodup := by
  unfold cellsX restX
  refine nodup_mapOn (fun a _ b _ h => ?_) ((List.pairwise_lt_range' (s := 0) (n := 1048576 - 0) 1).filter _ |>.imp Nat.ne_of_lt)
  have h1 := congrArg Prod.fst h
  have h2 := congrArg Prod.snd h
  dsimp only at h1 h2
  rw [← Nat.div_add_mod a 1024, ← Nat.div_add_mod b 1024, h1, h2]
theorem kronLL_len (q : Nat) (l : List (Nat × Nat)) : ∀ k, (kronLL q k l).length = k.length * l.length
  | [] => by simp [kronLL]
  | p :: k => by
    have ih := kronLL_len q l k
    unfold kronLL at ih ⊢
    rw [List.flatMap_cons, List.length_append, ih, List.length_cons, Nat.add_mul]
    unfold kronL
    rw [List.length_map]
    omega
theorem kronLL_nodup {q : Nat} {l : List (Nat × Nat)} (hl : l.Nodup) (hb : ∀ x ∈ l, x.1 < q ∧ x.2 < q) : ∀ {k : List (Nat × Nat)}, k.Nodup → (kronLL q k l).Nodup
  | [], _ => List.nodup_nil
  | p :: k, hk => by
    rw [List.nodup_cons] at hk
    have ih := kronLL_nodup hl hb hk.2
    show (kronL q p l ++ kronLL q k l).Nodup
    refine List.nodup_append.2 ⟨?_, ih, ?_⟩
    · unfold kronL
      refine nodup_mapOn (fun a ha b hb2 h => ?_) hl
      have h1 := congrArg Prod.fst h
      have h2 := congrArg Prod.snd h
      dsimp only at h1 h2
      exact Prod.ext (by omega) (by omega)
    · intro x hx y hy e
      subst e
      unfold kronL at hx
      obtain ⟨a, ha, rfl⟩ := List.mem_map.1 hx
      obtain ⟨p2, hp2, b, hb2, h⟩ := kronLL_mem.1 hy
      have h1 := congrArg Prod.fst h
      have h2 := congrArg Prod.snd h
      dsimp only at h1 h2
      have a1 := div_at (i := p.1) (hb a ha).1
      have a2 := div_at (i := p.2) (hb a ha).2
      have b1 := div_at (i := p2.1) (hb b hb2).1
      have b2 := div_at (i := p2.2) (hb b hb2).2
      have e1 : p.1 = p2.1 := by rw [← a1.1, h1, b1.1]
      have e2 : p.2 = p2.2 := by rw [← a2.1, h2, b2.1]
      exact hk.1 (by rw [show p = p2 from Prod.ext e1 e2]; exact hp2)
theorem kron_cnt {s q : Nat} {X Y : Nat → Nat → Bool} (hs : s * q ≤ 1024) (hs1 : s ≤ 1024) (hq : 0 < q ∧ q ≤ 1024) (hx : ∀ r c, X r c = true → r < s ∧ c < s) (hy : ∀ r c, Y r c = true → r < q ∧ c < q) : cntX (kronX q X Y) = cntX X * cntX Y := by
  rw [← cellsX_len, ← cellsX_len, ← cellsX_len, ← kronLL_len q]
  refine List.Perm.length_eq ((List.perm_ext_iff_of_nodup (cellsX_nodup _) (kronLL_nodup (cellsX_nodup _) (fun x hx2 => hy _ _ (cellsX_true hx2)) (cellsX_nodup _))).2 fun p => ?_)
  rw [kron_mem hs1 hq.2 hx hy, cellsX_iff hs (kron_in hx hq.1)]
end Go.Proofs.YtpfcgfgkmgnaaaaDoor
