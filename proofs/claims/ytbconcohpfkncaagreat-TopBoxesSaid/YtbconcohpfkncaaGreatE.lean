/-
  The rules for the single operations, continued: memory, calls. Any program.
-/
import Derived.Test.YtbconcohpfkncaaGreatD
import Derived.Laws.Tables
namespace Go.Proofs.YtbconcohpfkncaaGreat
open Go

theorem run_sizeOf_SZ {P : Program} {t : TypeId} {n : Nat} [h : SZ P t n] (w : World) : (sizeOf t).run P w = .ok n w := by
  have := h.out
  cases hq : P.info? t with
  | none => simp [hq] at this
  | some i => simp [hq] at this; simp [sizeOf, typeInfo, hq, this]
theorem run_isAgg_UL {P : Program} {t : TypeId} {d : TypeDesc} [h : UL P t d] (w : World) : (isAgg t).run P w = .ok d.isRow w := by
  unfold isAgg
  rw [Sem.run_bind, run_underlying h.out w]
  cases d <;> rfl
theorem run_zero_ZC {P : Program} {t : TypeId} {l : List Value} [h : ZC P t l] (w : World) : ∃ z, (zeroValue t).run P w = .ok z w ∧ z.cells = l.toArray := by
  have h1 := h.out
  cases hq : P.info? t with
  | none => simp [hq] at h1
  | some i =>
    simp [hq] at h1
    obtain ⟨z, h1, h2⟩ := h1
    exact ⟨z, by simp [zeroValue, typeInfo, hq, h1], by rw [← h2]⟩

/-- A write into a row. -/
theorem sat_store {P : Program} {b o : Nat} {l vs : List Value} {T : TypeId} {X : List HP} {w : World} (s : sat (pt b (row l T) :: X) w) (ho : o + vs.length ≤ l.length) (h1 : ∀ v ∈ vs, v.oneCell' = true) :
    ∃ w', (storeCells ⟨b, o, none⟩ vs).run P w = .ok () w' ∧ Same w w' ∧ sat (pt b (row (l.take o ++ vs ++ l.drop (o + vs.length)) T) :: X) w' := by
  have hb := sat_pt s
  have hr := run_storeCells_at (P := P) b o T vs 0 l.toArray w hb (by simpa using ho) h1
  refine ⟨_, hr, ⟨rfl, rfl, rfl, by simp, Nat.le_refl _⟩, ?_⟩
  refine sat_upd s ?_ (fun k hk => setRow_other _ _ _ _ hk)
  have := setRow_heap w b l.toArray (l.toArray.toList.take (o + 0) ++ vs ++ l.toArray.toList.drop (o + 0 + vs.length)).toArray T (0, 0) hb
  simpa [row] using this

section rules
variable {P : Program} {c : Cx} {A : Array Oper} {rest : List Oper} {K : Kont} {L : Env} {H : List HP} {t : TypeId} {p : String} {e : Array Edge}
variable {d : Nat} {x y : Operand} {ty : TypeId} {ds : TypeDesc} {b o n : Nat} {v : Value} {l vs : List Value} {T : TypeId} {F : List HP}

/-! ### Loads -/
theorem GO.loadQ {q : HP} [hu : UL P ty ds] (hd : ds.isRow = false) (hN : Nat.blt d c.N = true) (hx : evl L x = some (.pointer (some ⟨b, o, none⟩))) (tk : Tk q H F) (rd : Rd q ⟨b, o, none⟩ v)
    (k : GO P c A rest K ((d, v) :: L) H) : GO P c A (⟨some d, .load ty x, t, p, e, none⟩ :: rest) K L H :=
  GO.val hN rfl (fun a w Y h s => by
    have hc := rd _ w (sat_perm (List.Perm.append_right Y tk) s)
    simp only [execOp, h.eval hx, Instr.loadAt, Instr.sureAddr, loadVar]
    simp [Sem.run_bind, run_isAgg_UL, hd, Result.andThen, run_load, hc]) k
theorem GO.load1 [hu : UL P ty ds] (hd : ds.isRow = false) (hN : Nat.blt d c.N = true) (hx : evl L x = some (.pointer (some ⟨b, o, none⟩))) (tk : Tk (pt b (row l T)) H F) (hl : l[o]? = some v)
    (k : GO P c A rest K ((d, v) :: L) H) : GO P c A (⟨some d, .load ty x, t, p, e, none⟩ :: rest) K L H :=
  GO.loadQ hd hN hx tk (Rd.row hl) k
/-- A value of several cells. -/
theorem GO.loadM {q : HP} [hu : UL P ty ds] [hs : SZ P ty n] (hd : ds.isRow = true) (hN : Nat.blt d c.N = true) (hx : evl L x = some (.pointer (some ⟨b, o, none⟩))) (tk : Tk q H F)
    (hn : vs.length = n) (rd : ∀ j u, vs[j]? = some u → Rd q ⟨b, o + j, none⟩ u)
    (k : GO P c A rest K ((d, .agg vs.toArray) :: L) H) : GO P c A (⟨some d, .load ty x, t, p, e, none⟩ :: rest) K L H :=
  GO.val hN rfl (fun a w Y h s => by
    have s' := sat_perm (List.Perm.append_right Y tk) s
    simp only [execOp, h.eval hx]
    rw [Sem.run_bind, run_loadAt_mid (P := P) w b o ty vs ds (fun j u hj => rd j u hj _ w s') hu.out hd (by rw [hs.out, hn])]
    rfl) k
theorem GO.loadW [hu : UL P ty ds] [hs : SZ P ty n] (hd : ds.isRow = true) (hN : Nat.blt d c.N = true) (hx : evl L x = some (.pointer (some ⟨b, 0, none⟩))) (tk : Tk (pt b (row l T)) H F)
    (hn : l.length = n) (k : GO P c A rest K ((d, .agg l.toArray) :: L) H) : GO P c A (⟨some d, .load ty x, t, p, e, none⟩ :: rest) K L H :=
  GO.loadM hd hN hx tk hn (fun j u hj => Rd.row (by simpa using hj)) k

/-! ### Stores -/
theorem GO.storeG [hs : SZ P ty n] (hx : evl L x = some (.pointer (some ⟨b, o, none⟩))) (hy : evl L y = some v) (hv : v.cells = vs.toArray) (hn : vs.length = n) (tk : Tk (pt b (row l T)) H F)
    (ho : o + n ≤ l.length) (h1 : ∀ u ∈ vs, u.oneCell' = true)
    (k : GO P c A rest K L (pt b (row (l.take o ++ vs ++ l.drop (o + n)) T) :: F)) : GO P c A (⟨none, .store ty x y, t, p, e, none⟩ :: rest) K L H :=
  GO.genS rfl (fun a w Y h s => by
    obtain ⟨w', hr, hs', s'⟩ := sat_store (P := P) (sat_perm (List.Perm.append_right Y tk) s) (by rw [hn]; exact ho) h1
    refine ⟨w', ?_, hs', by rw [hn] at s'; exact s'⟩
    simp only [execOp, h.eval hx, h.eval hy, Instr.storeAt, Instr.sureAddr, storeVar]
    simp [Sem.run_bind, run_sizeOf_SZ, Result.andThen, hv, hn, hr]) k
theorem GO.store1 [hs : SZ P ty 1] (hx : evl L x = some (.pointer (some ⟨b, o, none⟩))) (hy : evl L y = some v) (h1 : v.oneCell' = true) (tk : Tk (pt b (row l T)) H F) (ho : o < l.length)
    (k : GO P c A rest K L (pt b (row (l.set o v) T) :: F)) : GO P c A (⟨none, .store ty x y, t, p, e, none⟩ :: rest) K L H :=
  GO.storeG (n := 1) (vs := [v]) hx hy (by cases v <;> first | rfl | (simp [Value.oneCell'] at h1)) rfl tk (by omega) (by simpa using h1) (by
    have : l.take o ++ [v] ++ l.drop (o + 1) = l.set o v := by rw [List.set_eq_take_append_cons_drop, if_pos ho]; simp
    rw [this]; exact k)
theorem GO.storeW [hs : SZ P ty n] (hx : evl L x = some (.pointer (some ⟨b, 0, none⟩))) (hy : evl L y = some (.agg vs.toArray)) (tk : Tk (pt b (row l T)) H F) (hn : vs.length = n ∧ l.length = n)
    (h1 : ∀ u ∈ vs, u.oneCell' = true) (k : GO P c A rest K L (pt b (row vs T) :: F)) : GO P c A (⟨none, .store ty x y, t, p, e, none⟩ :: rest) K L H :=
  GO.storeG (vs := vs) hx hy rfl hn.1 tk (by omega) h1 (by
    have : l.take 0 ++ vs ++ l.drop (0 + n) = vs := by rw [List.drop_of_length_le (by omega)]; simp
    rw [this]; exact k)

/-! ### New blocks -/
theorem GO.newb {op : Op} {ob : Obj} (hN : Nat.blt d c.N = true) (nd : ndef op = true)
    (hr : ∀ a w, At c.N L a → (execOp a.eval ⟨some d, op, t, p, e, none⟩).run P w = .ok (.value (.pointer (some ⟨w.heap.size, 0, none⟩))) (w.alloc ob))
    (k : ∀ b, GO P c A rest K ((d, .pointer (some ⟨b, 0, none⟩)) :: L) (pt b ob :: H)) : GO P c A (⟨some d, op, t, p, e, none⟩ :: rest) K L H :=
  GO.gen hN nd (fun v H' => ∃ b, v = .pointer (some ⟨b, 0, none⟩) ∧ H' = pt b ob :: H)
    (fun a w Y h s => ⟨_, _, _, hr a w h, Same.alloc w _, ⟨w.heap.size, rfl, rfl⟩, sat_alloc s ob⟩) (by rintro _ _ ⟨b, rfl, rfl⟩; exact k b)
theorem GO.alloc [hz : ZC P ty l] (hN : Nat.blt d c.N = true) (k : ∀ b, GO P c A rest K ((d, .pointer (some ⟨b, 0, none⟩)) :: L) (pt b (row l ty) :: H)) : GO P c A (⟨some d, .alloc ty, t, p, e, none⟩ :: rest) K L H :=
  GO.newb (ob := row l ty) hN rfl (fun a w h => by
    obtain ⟨z, hz1, hz2⟩ := run_zero_ZC (P := P) (t := ty) w
    simp only [execOp, Instr.alloc]
    simp [Sem.run_bind, hz1, Result.andThen, newVar, newRow, hz2, row]) k
theorem GO.box (hN : Nat.blt d c.N = true) (hx : evl L x = some v) (hv : v.cells = vs.toArray) (k : ∀ b, GO P c A rest K ((d, .pointer (some ⟨b, 0, none⟩)) :: L) (pt b (row vs ty) :: H)) : GO P c A (⟨some d, .box ty x, t, p, e, none⟩ :: rest) K L H :=
  GO.newb (ob := row vs ty) hN rfl (fun a w h => by
    simp only [execOp, Instr.box, h.eval hx]
    simp [Result.andThen, newVar, newRow, hv, row]) k

/-! ### Addresses -/
class FO (P : Program) (s : TypeId) (f : Nat) (off : outParam Nat) : Prop where
  out : ∃ fs fd, P.underlying s = some (.struct fs) ∧ fs[f]? = some fd ∧ fd.offset = off ∧ ∃ n, (P.info? fd.type).map (·.size) = some (n + 1)
theorem add_plain (b o n : Nat) : (⟨b, o, none⟩ : Addr).add n = ⟨b, o + n, none⟩ := by unfold Addr.add; split <;> simp_all
theorem GO.fieldAddr {s : TypeId} {f off : Nat} [hf : FO P s f off] (hN : Nat.blt d c.N = true) (hx : evl L x = some (.pointer (some ⟨b, o, none⟩)))
    (k : GO P c A rest K ((d, .pointer (some ⟨b, o + off, none⟩)) :: L) H) : GO P c A (⟨some d, .fieldAddr s x f, t, p, e, none⟩ :: rest) K L H :=
  GO.val hN rfl (fun a w Y h _ => by
    obtain ⟨fs, fd, h1, h2, h3, n, h4⟩ := hf.out
    haveI : SZ P fd.type (n + 1) := ⟨h4⟩
    simp only [execOp, h.eval hx, Instr.fieldAt, Instr.sureAddr, fieldPlace]
    simp [Sem.run_bind, run_underlying h1, Result.andThen, h2, run_sizeOf_SZ, h3, add_plain]) k
/-- An element of a slice. -/
theorem GO.idxS {el len cap : Nat} {kk : IntKind} {i : Int} {j : Nat} [hu : UL P ty (.slice el)] [hs : SZ P el n] (hN : Nat.blt d c.N = true) (hx : evl L x = some (.slice (some ⟨b, o, none⟩) len cap)) (hy : evl L y = some (.int kk i))
    (hi : i = (j : Int) ∧ j < len) (k : GO P c A rest K ((d, .pointer (some ⟨b, o + j * n, none⟩)) :: L) H) : GO P c A (⟨some d, .indexAddr ty x y, t, p, e, none⟩ :: rest) K L H :=
  GO.val hN rfl (fun a w Y h _ => by
    obtain ⟨rfl, hj⟩ := hi
    simp only [execOp, h.eval hx, h.eval hy, Instr.indexAt, asIntOf]
    simp [Sem.run_bind, run_underlying hu.out, Result.andThen, run_sizeOf_SZ, hj, add_plain]) k

/-! ### len -/
theorem GO.lenS {el m cap : Nat} {ba : Option Addr} {at1 : TypeId} [hu : UL P at1 (.slice el)] (hN : Nat.blt d c.N = true) (hx : evl L x = some (.slice ba m cap))
    (k : GO P c A rest K ((d, .int .i64 (m : Int)) :: L) H) : GO P c A (⟨some d, .call ⟨.builtin .len, #[x], #[at1]⟩, t, p, e, none⟩ :: rest) K L H :=
  GO.val hN rfl (fun a w Y h _ => by
    simp only [execOp, resolve, invoke, builtin]
    simp [Sem.run_bind, Result.andThen, Builtin.len_, h.eval hx, run_underlying hu.out, goInt]) k

/-! ### Calls -/
theorem run_call {f : FuncId} [hc : Cal P f] {xs : Array Operand} {ats : Array TypeId} {dst : Option Nat} {a : Act} {w : World} :
    (execOp a.eval ⟨dst, .call ⟨.value (.func f), xs, ats⟩, t, p, e, none⟩).run P w = .ok (.enter f (xs.map a.eval)) w := by
  simp only [execOp, resolve]
  have : a.eval (.func f) = .func (.func f) #[] #[] := rfl
  simp [this, Deferred.ofValue, invoke, hc.out]
theorem calls_round {r : Option Nat} {P : Program} {f : FuncId} {args : Array Value} {w : World} {R : Ending → World → Prop} (h : CallsIn Fence.wide 0 P f args w R) : CallsIn (fen r) 0 P f args w R := by
  cases r with
  | none => exact h
  | some l => exact CallsIn.inRound l h
def Vals (L : Env) : List Operand → List Value → Prop
  | [], [] => True
  | x :: xs, v :: vs => evl L x = some v ∧ Vals L xs vs
  | _, _ => False
theorem Vals.map {N : Nat} {a : Act} (h : At N L a) : ∀ {xs : List Operand} {vs : List Value}, Vals L xs vs → xs.map a.eval = vs
  | [], [], _ => rfl
  | _ :: _, _ :: _, ⟨h1, h2⟩ => by simp [h.eval h1, Vals.map h h2]
  | [], _ :: _, h => h.elim
  | _ :: _, [], h => h.elim
theorem GO.callG {dst : Option Nat} {f : FuncId} [hc : Cal P f] {xs : List Operand} {ats : Array TypeId} {Pre : List HP} {R : Value → List HP → Prop} (hN : (match dst with | some d => Nat.blt d c.N | none => true) = true)
    (hv : Vals L xs vs) (spec : Fn P f vs.toArray Pre R) (tk : Tks Pre H F)
    (k : ∀ v Q, R v Q → GO P c A rest K (match dst with | some d => (d, v) :: L | none => L) (Q ++ F)) : GO P c A (⟨dst, .call ⟨.value (.func f), xs.toArray, ats⟩, t, p, e, none⟩ :: rest) K L H := by
  rintro a w ⟨h1, h2, D, h3, h4, h5⟩
  simp only [opsWp, Region.wanted, if_true]
  rw [semAt_nd _ _ _ rfl, run_call]
  refine ⟨fun h => by simp [fen, Fence.wide] at h, calls_round ?_⟩
  have hargs : xs.toArray.map a.eval = vs.toArray := by simp [Vals.map h1 hv]
  rw [hargs]
  have s1 : sat (Pre ++ (F ++ (c.X ++ D.map dblk))) w := by
    rw [← List.append_assoc]; exact sat_perm (List.Perm.append_right _ tk) h5
  refine (spec _ w s1).mono ?_
  rintro en w' ⟨v, Q, rfl, hs, hR, hq⟩
  refine k v Q hR _ w' ⟨?_, h2.trans hs, D, ?_, h4, ?_⟩
  · cases dst with
    | none => simpa [Act.put] using h1
    | some d => exact h1.put hN
  · cases dst <;> simpa [Act.put] using h3
  · rw [List.append_assoc]; exact hq
theorem GO.call0 {f : FuncId} [hc : Cal P f] {ats : Array TypeId} {Pre : List HP} {R : Value → List HP → Prop} (hN : Nat.blt d c.N = true)  (spec : Fn P f #[] Pre R) (tk : Tks Pre H F)
    (k : ∀ v Q, R v Q → GO P c A rest K ((d, v) :: L) (Q ++ F)) : GO P c A (⟨some d, .call ⟨.value (.func f), #[], ats⟩, t, p, e, none⟩ :: rest) K L H :=
  GO.callG (dst := some d) (xs := []) (vs := []) hN trivial spec tk k
theorem GO.call1 {f : FuncId} [hc : Cal P f] {x1 : Operand} {v1 : Value} {ats : Array TypeId} {Pre : List HP} {R : Value → List HP → Prop} (hN : Nat.blt d c.N = true) (h1 : evl L x1 = some v1) (spec : Fn P f #[v1] Pre R) (tk : Tks Pre H F)
    (k : ∀ v Q, R v Q → GO P c A rest K ((d, v) :: L) (Q ++ F)) : GO P c A (⟨some d, .call ⟨.value (.func f), #[x1], ats⟩, t, p, e, none⟩ :: rest) K L H :=
  GO.callG (dst := some d) (xs := [x1]) (vs := [v1]) hN ⟨h1, trivial⟩ spec tk k
theorem GO.call2 {f : FuncId} [hc : Cal P f] {x1 x2 : Operand} {v1 v2 : Value} {ats : Array TypeId} {Pre : List HP} {R : Value → List HP → Prop} (hN : Nat.blt d c.N = true) (h1 : evl L x1 = some v1) (h2 : evl L x2 = some v2) (spec : Fn P f #[v1, v2] Pre R) (tk : Tks Pre H F)
    (k : ∀ v Q, R v Q → GO P c A rest K ((d, v) :: L) (Q ++ F)) : GO P c A (⟨some d, .call ⟨.value (.func f), #[x1, x2], ats⟩, t, p, e, none⟩ :: rest) K L H :=
  GO.callG (dst := some d) (xs := [x1, x2]) (vs := [v1, v2]) hN ⟨h1, h2, trivial⟩ spec tk k
theorem GO.call3 {f : FuncId} [hc : Cal P f] {x1 x2 x3 : Operand} {v1 v2 v3 : Value} {ats : Array TypeId} {Pre : List HP} {R : Value → List HP → Prop} (hN : Nat.blt d c.N = true) (h1 : evl L x1 = some v1) (h2 : evl L x2 = some v2) (h3 : evl L x3 = some v3) (spec : Fn P f #[v1, v2, v3] Pre R) (tk : Tks Pre H F)
    (k : ∀ v Q, R v Q → GO P c A rest K ((d, v) :: L) (Q ++ F)) : GO P c A (⟨some d, .call ⟨.value (.func f), #[x1, x2, x3], ats⟩, t, p, e, none⟩ :: rest) K L H :=
  GO.callG (dst := some d) (xs := [x1, x2, x3]) (vs := [v1, v2, v3]) hN ⟨h1, h2, h3, trivial⟩ spec tk k
end rules

/-! ### What a function hands back -/
def packR : List Value → Value
  | [v] => v
  | vs => .tuple vs.toArray
def resOne (tmps : Array Value) : ResultVar → Sem Value
  | .tmp t => pure (tmps.getD t undef)
  | .cell a t => do loadVar t (← asAddr (tmps.getD a undef))
def runAll (P : Program) (w : World) (tmps : Array Value) : List ResultVar → List Value → Prop
  | [], [] => True
  | r :: rs, v :: vs => (resOne tmps r).run P w = .ok v w ∧ runAll P w tmps rs vs
  | _, _ => False
theorem mapM_run {P : Program} {w : World} {tmps : Array Value} : ∀ {rs : List ResultVar} {vs : List Value}, runAll P w tmps rs vs → (rs.mapM (resOne tmps)).run P w = .ok vs w
  | [], [], _ => by simp
  | r :: rs, v :: vs, ⟨h1, h2⟩ => by
    have := mapM_run h2
    simp only [List.mapM_cons, Sem.run_bind, h1, Result.andThen_ok, this, Sem.run_pure]
  | [], _ :: _, h => h.elim
  | _ :: _, [], h => h.elim
theorem results_run {P : Program} {fn : Func} {w : World} {tmps : Array Value} {rs : List ResultVar} {vs : List Value} (hr : fn.results = rs.toArray) (h : runAll P w tmps rs vs) :
    (results fn tmps).run P w = .ok (packR vs) w := by
  have e : results fn tmps = (do let vs ← fn.results.mapM (resOne tmps); pure (if h : vs.size = 1 then vs[0] else .tuple vs)) := by
    unfold results
    congr 1
  rw [e, hr, Sem.run_bind]
  have : (rs.toArray.mapM (resOne tmps)).run P w = .ok vs.toArray w := by
    rw [List.mapM_toArray]
    simp [mapM_run h]
  rw [this]
  match vs with
  | [] => rfl
  | [v] => rfl
  | a :: b :: l => rfl
section
variable {P : Program} {L : Env} {H F : List HP}
def RV (P : Program) (L : Env) (H : List HP) : ResultVar → Value → Prop
  | .tmp t, v => look L t = some v
  | .cell a T, v => ∃ b o, look L a = some (.pointer (some ⟨b, o, none⟩)) ∧ ∀ Y w, sat (H ++ Y) w → (loadVar T ⟨b, o, none⟩).run P w = .ok v w
theorem RV.t {t : Nat} {v : Value} (h : look L t = some v) : RV P L H (.tmp t) v := h
theorem RV.cW {a T n E b : Nat} {d : TypeDesc} {l : List Value} [hu : UL P T d] [hs : SZ P T n] (hd : d.isRow = true) (hx : look L a = some (.pointer (some ⟨b, 0, none⟩))) (tk : Tk (pt b (row l E)) H F) (hn : l.length = n) : RV P L H (.cell a T) (.agg l.toArray) := by
  refine ⟨b, 0, hx, fun Y w s => ?_⟩
  exact run_loadVar_mid (P := P) w b 0 T l d (fun j u hj => Rd.row (by simpa using hj) _ w (sat_perm (List.Perm.append_right Y tk) s)) hu.out hd (by rw [hs.out, hn])
theorem RV.c1 {a T E b : Nat} {d : TypeDesc} {l : List Value} {v : Value} [hu : UL P T d] (hd : d.isRow = false) (hx : look L a = some (.pointer (some ⟨b, 0, none⟩))) (tk : Tk (pt b (row l E)) H F) (hl : l[0]? = some v) : RV P L H (.cell a T) v := by
  refine ⟨b, 0, hx, fun Y w s => ?_⟩
  have hc := (Rd.row hl : Rd (pt b (row l E)) ⟨b, 0, none⟩ v) _ w (sat_perm (List.Perm.append_right Y tk) s)
  simp [loadVar, Sem.run_bind, run_isAgg_UL, hd, Result.andThen, run_load, hc]
def RVs (P : Program) (L : Env) (H : List HP) : List ResultVar → List Value → Prop
  | [], [] => True
  | r :: rs, v :: vs => RV P L H r v ∧ RVs P L H rs vs
  | _, _ => False
theorem RVs.run {N : Nat} {a : Act} {w : World} {Y : List HP} (ha : At N L a) (s : sat (H ++ Y) w) : ∀ {rs : List ResultVar} {vs : List Value}, RVs P L H rs vs → runAll P w a.tmps rs vs
  | [], [], _ => trivial
  | r :: rs, v :: vs, ⟨h1, h2⟩ => by
    refine ⟨?_, RVs.run ha s h2⟩
    cases r with
    | tmp t =>
      have := ha.2 t v h1
      simp [resOne, Array.getD_eq_getD_getElem?, this]
    | cell c T =>
      obtain ⟨b, o, hx, hl⟩ := h1
      have := ha.2 c _ hx
      simp [resOne, Array.getD_eq_getD_getElem?, this, asAddr, hl Y w s]
  | [], _ :: _, h => h.elim
  | _ :: _, [], h => h.elim
theorem RVs.res {N : Nat} {fn : Func} {rs : List ResultVar} {vs : List Value} (hr : fn.results = rs.toArray) (h : RVs P L H rs vs) : Res P N fn L H (packR vs) :=
  fun _ _ _ ha s => results_run hr (h.run ha s)
variable {fn : Func} {R : Value → List HP → Prop} {Q : List HP} {q1 q2 q3 q4 : ResultVar} {v1 v2 v3 v4 : Value}
end
end Go.Proofs.YtbconcohpfkncaaGreat
