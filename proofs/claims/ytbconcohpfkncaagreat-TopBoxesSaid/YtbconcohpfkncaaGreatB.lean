/-
  Symbolic execution of the model's code: slots as a list, memory as a list of pieces. Any program.
-/
import Derived.Test.YtbconcohpfkncaaGreatA
namespace Go.Proofs.YtbconcohpfkncaaGreat
open Go

abbrev Env := List (Nat × Value)
def look : Env → Nat → Option Value
  | [], _ => none
  | (k, v) :: l, s => bif Nat.beq k s then some v else look l s
theorem nbeq {i s : Nat} (h : i ≠ s) : Nat.beq i s = false := by
  cases e : Nat.beq i s with
  | false => rfl
  | true => exact absurd (Nat.eq_of_beq_eq_true e) h
def evl (L : Env) : Operand → Option Value
  | .tmp t => look L t
  | .const v => some v
  | .global g => some (.pointer (some ⟨g, 0, none⟩))
  | .func f => some (.func (.func f) #[] #[])
def At (N : Nat) (L : Env) (a : Act) : Prop := a.tmps.size = N ∧ ∀ s v, look L s = some v → a.tmps[s]? = some v

theorem At.eval {N : Nat} {L : Env} {a : Act} {x : Operand} {v : Value} (h : At N L a) (e : evl L x = some v) : a.eval x = v := by
  cases x with
  | tmp t => have := h.2 t v e; simp [Act.eval, Array.getD_eq_getD_getElem?, this]
  | const u => simpa [evl, Act.eval] using e
  | global g => simpa [evl, Act.eval] using e
  | func f => simpa [evl, Act.eval] using e
theorem At.put {N d : Nat} {L : Env} {a : Act} {v : Value} (h : At N L a) (hd : Nat.blt d N = true) : At N ((d, v) :: L) (a.put (some d) v) := by
  have hd' : d < N := by simpa using hd
  refine ⟨by simpa [Act.put] using h.1, fun s u e => ?_⟩
  simp only [look] at e
  simp only [Act.put]
  by_cases hs : d = s
  · subst hs; simp at e; subst e; simp [h.1, hd']
  · have hb : Nat.beq d s = false := nbeq hs
    simp [hb] at e
    rw [Array.getElem?_setIfInBounds_ne hs]; exact h.2 s u e
theorem At.sub {N : Nat} {L S : Env} {a : Act} (h : At N L a) (hs : ∀ s v, look S s = some v → look L s = some v) : At N S a := ⟨h.1, fun s v e => h.2 s v (hs s v e)⟩
/-- The slots that S names hold in L what S says. -/
def SubE (S L : Env) : Prop := ∀ s v, look S s = some v → look L s = some v
theorem SubE.n {L : Env} : SubE [] L := fun _ _ e => by simp [look] at e
theorem SubE.r {L : Env} : SubE L L := fun _ _ e => e
theorem SubE.c {S L : Env} {s : Nat} {v u : Value} (h : look L s = some u) (e : u = v) (k : SubE S L) : SubE ((s, v) :: S) L := by
  subst e
  intro t x ht
  simp only [look] at ht
  by_cases hs : s = t
  · subst hs; simp at ht; subst ht; exact h
  · have hb : Nat.beq s t = false := nbeq hs
    simp [hb] at ht; exact k t x ht

def mark (D : Nat) : Deferred := { target := .collected D, args := #[] }
def dblk (D : Nat) : HP := pt D (.deferred (some []))
structure Cx where
  r : Option Nat
  N : Nat
  w0 : World
  X : List HP
  D : List Deferred
  nd : Bool
def fen (r : Option Nat) : Fence := { Fence.wide with round := r }
theorem fen_fn (r : Option Nat) (f : FuncId) : (fen r).fn f := trivial
structure St (c : Cx) (L : Env) (H : List HP) (a : Act) (w : World) : Prop where
  at_ : At c.N L a
  same : Same c.w0 w
  mem : ∃ ds : List Nat, a.defers = ds.map mark ++ c.D ∧ ((c.r.isSome || c.nd) = true → ds = []) ∧ sat (H ++ (c.X ++ ds.map dblk)) w

theorem St.sub {c : Cx} {L L' : Env} {H H' : List HP} {a : Act} {w : World} (h : St c L H a w) (hL : SubE L' L) (hH : Sb H' H) : St c L' H' a w := by
  obtain ⟨h1, h2, ds, h3, h4, h5⟩ := h
  exact ⟨h1.sub hL, h2, ds, h3, h4, (Sb.app hH).sat h5⟩

abbrev Kont := Exit → Env → List HP → Prop
def Post (c : Cx) (K : Kont) : Exit → Act → World → Prop := fun e a w => ∃ L H, St c L H a w ∧ K e L H
def G (P : Program) (c : Cx) (x : Code) (K : Kont) (L : Env) (H : List HP) : Prop := ∀ a w, St c L H a w → x.wpIn (fen c.r) 0 P (Post c K) a w
def kthen (n : Env → List HP → Prop) (K : Kont) : Kont
  | .normal, L, H => n L H
  | e, L, H => K e L H
def kblock (id : Nat) (K : Kont) : Kont
  | .exit id', L, H => bif Nat.beq id' id then K .normal L H else K (.exit id') L H
  | e, L, H => K e L H

section rules
variable {P : Program} {c : Cx} {K : Kont} {L : Env} {H : List HP}
theorem G.sub {x : Code} {L' : Env} {H' : List HP} (hL : SubE L' L) (hH : Sb H' H) (k : G P c x K L' H') : G P c x K L H := fun a w h => k a w (h.sub hL hH)
theorem G.mem {x : Code} {H' : List HP} (hH : Sb H' H) (k : G P c x K L H') : G P c x K L H := G.sub SubE.r hH k
theorem G.exs {α : Type} {x : Code} {p : α → HP} (k : ∀ y, G P c x K L (p y :: H)) : G P c x K L (exs p :: H) := by
  rintro a w ⟨h1, h2, ds, h3, h4, h5⟩
  obtain ⟨y, hy⟩ := sat_exs.1 h5
  exact k y a w ⟨h1, h2, ds, h3, h4, hy⟩
theorem G.pur {x : Code} {φ : Prop} (k : φ → G P c x K L H) : G P c x K L (pur φ :: H) := by
  rintro a w ⟨h1, h2, ds, h3, h4, h5⟩
  obtain ⟨y, hy⟩ := sat_pur.1 h5
  exact k y a w ⟨h1, h2, ds, h3, h4, hy⟩
theorem G.flat {x : Code} {l : List HP} (k : G P c x K L (l ++ H)) : G P c x K L (star l :: H) := by
  rintro a w ⟨h1, h2, ds, h3, h4, h5⟩
  refine k a w ⟨h1, h2, ds, h3, h4, ?_⟩
  rw [List.append_assoc]; exact sat_flat.1 h5
theorem G.take {x : Code} {p : HP} {F : List HP} (t : Tk p H F) (k : G P c x K L (p :: F)) : G P c x K L H := by
  rintro a w ⟨h1, h2, ds, h3, h4, h5⟩
  exact k a w ⟨h1, h2, ds, h3, h4, sat_perm (List.Perm.append_right _ t) h5⟩
theorem G.mono {x : Code} {K' : Kont} (k : G P c x K' L H) (h : ∀ e L H, K' e L H → K e L H) : G P c x K L H :=
  fun a w s => wpIn_mono (k a w s) fun _ _ _ ⟨L', H', s', q⟩ => ⟨L', H', s', h _ _ _ q⟩

theorem G.seq {x y : Code} (k : G P c x (kthen (fun L H => G P c y K L H) K) L H) : G P c (.seq x y) K L H := by
  intro a w h
  refine wpIn_seq (wpIn_mono (k a w h) ?_)
  rintro e a' w' ⟨L', H', s, q⟩
  cases e with
  | normal => exact q a' w' s
  | exit id => exact ⟨L', H', s, q⟩
  | goto l => exact ⟨L', H', s, q⟩
  | ret => exact ⟨L', H', s, q⟩
  | panic ch => exact ⟨L', H', s, q⟩
  | outgrown => exact ⟨L', H', s, q⟩
theorem G.skip (k : K .normal L H) : G P c .skip K L H := fun _ _ h => wpIn_skip ⟨L, H, h, k⟩
theorem G.label {l : Nat} (k : K .normal L H) : G P c (.label l) K L H := fun _ _ h => wpIn_label ⟨L, H, h, k⟩
theorem G.exit {id : Nat} (k : K (.exit id) L H) : G P c (.exit id) K L H := fun _ _ h => wpIn_exit ⟨L, H, h, k⟩
theorem G.goto {l : Nat} (k : K (.goto l) L H) : G P c (.goto l) K L H := fun _ _ h => wpIn_goto ⟨L, H, h, k⟩
theorem G.ret (k : K .ret L H) : G P c .ret K L H := fun _ _ h => wpIn_ret ⟨L, H, h, k⟩
theorem G.cond {t : Operand} {x y : Code} {b : Bool} (e : evl L t = some (.bool b)) (kt : b = true → G P c x K L H) (kf : b = false → G P c y K L H) : G P c (.cond t x y) K L H := by
  intro a w h
  exact wpIn_cond_split (h.at_.eval e) (fun hb => kt hb a w h) (fun hb => kf hb a w h)
theorem G.condD {t : Operand} {x y : Code} {p : Prop} [d : Decidable p] (e : evl L t = some (.bool (decide p))) (kt : p → G P c x K L H) (kf : ¬ p → G P c y K L H) : G P c (.cond t x y) K L H :=
  G.cond e (fun h => kt (of_decide_eq_true h)) (fun h => kf (of_decide_eq_false h))
theorem G.condT {t : Operand} {x y : Code} {b : Bool} (e : evl L t = some (.bool b)) (hb : b = true) (kt : G P c x K L H) : G P c (.cond t x y) K L H :=
  G.cond e (fun _ => kt) (fun h => by simp [h] at hb)
theorem G.condF {t : Operand} {x y : Code} {b : Bool} (e : evl L t = some (.bool b)) (hb : b = false) (kf : G P c y K L H) : G P c (.cond t x y) K L H :=
  G.cond e (fun h => by simp [h] at hb) (fun _ => kf)
theorem G.block {id : Nat} {x : Code} (k : G P c x (kblock id K) L H) : G P c (.block id x) K L H := by
  intro a w h
  refine wpIn_block (wpIn_mono (k a w h) ?_)
  rintro e a' w' ⟨L', H', s, q⟩
  cases e with
  | normal => exact ⟨L', H', s, q⟩
  | exit id' =>
    simp only [kblock] at q
    simp only [Exit.inBlock]
    by_cases hi : id' = id
    · subst hi; simp at q; simp; exact ⟨L', H', s, q⟩
    · have hb : Nat.beq id' id = false := nbeq hi
      simp [hb] at q; simp [hi]; exact ⟨L', H', s, q⟩
  | goto l => exact ⟨L', H', s, q⟩
  | ret => exact ⟨L', H', s, q⟩
  | panic ch => exact ⟨L', H', s, q⟩
  | outgrown => exact ⟨L', H', s, q⟩

theorem kthen_n {n : Env → List HP → Prop} (k : n L H) : kthen n K .normal L H := k
theorem kthen_x {n : Env → List HP → Prop} {id : Nat} (k : K (.exit id) L H) : kthen n K (.exit id) L H := k
theorem kthen_r {n : Env → List HP → Prop} (k : K .ret L H) : kthen n K .ret L H := k
theorem kblock_n {id : Nat} (k : K .normal L H) : kblock id K .normal L H := k
theorem kblock_r {id : Nat} (k : K .ret L H) : kblock id K .ret L H := k
theorem kblock_x {id : Nat} (k : K .normal L H) : kblock id K (.exit id) L H := by simpa [kblock] using k
theorem kblock_o {id id' : Nat} (h : Nat.beq id' id = false) (k : K (.exit id') L H) : kblock id K (.exit id') L H := by simpa [kblock, h] using k

/-- A loop: what the slots hold, what memory holds, by a hidden state s. -/
theorem G.loop {σ : Type} {x : Code} (S : σ → Env) (M : σ → List HP) (I : σ → Prop) (μ : σ → Nat) (s0 : σ) (h0 : I s0) (hL : SubE (S s0) L) (hH : Sb (M s0) H)
    (round : ∀ s, I s → G P c x (kthen (fun L' H' => ∃ s', I s' ∧ μ s' < μ s ∧ SubE (S s') L' ∧ Sb (M s') H') K) (S s) (M s)) : G P c (.loop x) K L H := by
  intro a w hs b k cs hro hb hr
  have key : ∀ j s a w, μ s = j → I s → St c (S s) (M s) a w →
      ∃ e a' w', Post c K e a' w' ∧ ArrivesIn (Machine.fenced P (fen c.r)) P (lone (b.atR a (.code x :: .inLoop x :: k)) cs w) b k cs e a' w' := by
    intro j
    induction j using Nat.strongRecOn with
    | _ j ih =>
      intro s a w hn hI hs
      obtain ⟨e, a₁, w₁, ⟨L', H', s1, hq⟩, harr⟩ := round s hI a w hs b (.inLoop x :: k) cs hro hb hr
      cases e with
      | normal =>
        obtain ⟨s', hI', hlt, hL', hH'⟩ := hq
        obtain ⟨e₂, a₂, w₂, hq₂, harr₂⟩ := ih (μ s') (hn ▸ hlt) s' a₁ w₁ rfl hI' (s1.sub hL' hH')
        exact ⟨e₂, a₂, w₂, hq₂, .of_steps (StepsIn.trans harr (.one (fenced_calm hb hr rfl) stepR_inLoop)) harr₂⟩
      | exit id => exact ⟨_, a₁, w₁, ⟨L', H', s1, hq⟩, .pass (x := .inLoop x) rfl (fun _ _ => .inl (by simp)) harr⟩
      | goto l => exact ⟨_, a₁, w₁, ⟨L', H', s1, hq⟩, .pass (x := .inLoop x) rfl (fun _ _ => .inl (by simp)) harr⟩
      | ret => exact ⟨_, a₁, w₁, ⟨L', H', s1, hq⟩, .pass (x := .inLoop x) rfl (fun _ _ => .inl (by simp)) harr⟩
      | panic ch => exact ⟨_, a₁, w₁, ⟨L', H', s1, hq⟩, .pass (x := .inLoop x) rfl (fun _ _ => .inl (by simp)) harr⟩
      | outgrown => exact ⟨_, a₁, w₁, ⟨L', H', s1, hq⟩, .pass (x := .inLoop x) rfl (fun _ _ => .inl (by simp)) harr⟩
  obtain ⟨e, a', w', hq, harr⟩ := key _ s0 a w rfl h0 (hs.sub hL hH)
  exact ⟨e, a', w', hq, .of_steps (.one (fenced_calm hb hr rfl) stepR_loop) harr⟩
end rules

/-! ## A region's operations -/
def opsWp (F : Fence) (P : Program) (A : Array Oper) (Q : Exit → Act → World → Prop) : List Oper → Act → World → Prop
  | [], a, w => Q .normal a w
  | o :: rest, a, w => if Region.wanted o (yielded A a.tmps) then o.uponIn F 0 P a (opsWp F P A Q rest) Q ((o.semAt F.round a.eval).run P w) else opsWp F P A Q rest (a.put o.dst undef) w
theorem wpOps_of_list {F : Fence} {P : Program} {A : Array Oper} {Q : Exit → Act → World → Prop} (hF : ∀ f, F.fn f) : ∀ (l : List Nat) (os : List Oper) (a : Act) (w : World),
    l.map (fun i => A[i]?) = os.map some → opsWp F P A Q os a w → wpOpsIn F 0 P A Q l a w
  | [], [], a, w, _, h => h
  | [], _ :: _, _, _, e, _ => by simp at e
  | _ :: _, [], _, _, e, _ => by simp at e
  | i :: l, o :: os, a, w, e, h => by
    simp only [List.map_cons, List.cons.injEq] at e
    obtain ⟨e1, e2⟩ := e
    simp only [wpOpsIn, e1]
    simp only [opsWp] at h
    have up : ∀ r : Result Next, o.uponIn F 0 P a (opsWp F P A Q os) Q r → o.uponIn F 0 P a (wpOpsIn F 0 P A Q l) Q r := by
      intro r hr
      have ih := fun a w => wpOps_of_list (P := P) (A := A) (Q := Q) hF l os a w e2
      cases r with
      | halt h w' => cases h <;> exact hr
      | ok n w' =>
        cases n with
        | value v => exact ih _ _ hr
        | skip => exact ih _ _ hr
        | defer d => exact ih _ _ hr
        | enter f args => exact ⟨hr.1, hr.2.mono fun e w'' he => by cases e with | returned v => exact ih _ _ he | panicked c => exact he | outgrown => exact he⟩
        | row r args => exact ⟨hr.1, hr.2.mono fun v w'' he => ih _ _ he⟩
        | round l f t x y => exact ⟨hr.1, hr.2.mono fun e w'' he => by cases e with | returned v => exact ih _ _ he | panicked c => exact he | outgrown => exact he⟩
        | _ => exact hr
    split
    · rename_i hw
      rw [if_pos hw] at h
      exact ⟨fun f _ => hF f, up _ h⟩
    · rename_i hw
      rw [if_neg hw] at h
      exact ⟨fun f _ => hF f, wpOps_of_list hF l os _ _ e2 h⟩
theorem range_map_get (A : Array Oper) : (List.range A.size).map (fun i => A[i]?) = A.toList.map some := by
  apply List.ext_getElem?
  intro i
  simp only [List.getElem?_map]
  by_cases h : i < A.size
  · simp [h]
  · simp [h]

/-- The operations os, which are still to come of a region's operations A. -/
def GO (P : Program) (c : Cx) (A : Array Oper) (os : List Oper) (K : Kont) (L : Env) (H : List HP) : Prop := ∀ a w, St c L H a w → opsWp (fen c.r) P A (Post c K) os a w

theorem G.region {P : Program} {c : Cx} {K : Kont} {L : Env} {H : List HP} {id : Nat} {A : Array Oper} (k : GO P c A A.toList K L H) : G P c (.region id A false) K L H :=
  fun a w h => wpIn_region (wpOps_of_list (fen_fn c.r) _ _ a w (range_map_get A) (k a w h))

/-! ## A function's contract -/
def Ret (w : World) (F : List HP) (R : Value → List HP → Prop) : Ending → World → Prop := fun e w' => ∃ v Q, e = .returned v ∧ Same w w' ∧ R v Q ∧ sat (Q ++ F) w'
/-- Called with these values where memory has the pieces Pre, f returns a v and leaves pieces Q of which R is true; what lies beside stays. -/
def Fn (P : Program) (f : FuncId) (args : Array Value) (Pre : List HP) (R : Value → List HP → Prop) : Prop := ∀ F w, sat (Pre ++ F) w → CallsIn Fence.wide 0 P f args w (Ret w F R)

theorem Ret.mono {w : World} {F : List HP} {R R' : Value → List HP → Prop} (h : ∀ v Q, R v Q → R' v Q) {e : Ending} {w' : World} (r : Ret w F R e w') : Ret w F R' e w' :=
  let ⟨v, Q, a, b, x, d⟩ := r; ⟨v, Q, a, b, h v Q x, d⟩
theorem Fn.mono {P : Program} {f : FuncId} {args : Array Value} {Pre : List HP} {R R' : Value → List HP → Prop} (h : Fn P f args Pre R) (k : ∀ v Q, R v Q → R' v Q) : Fn P f args Pre R' :=
  fun F w s => (h F w s).mono fun _ _ => Ret.mono k
/-- With pieces that stay. -/
theorem Fn.frame {P : Program} {f : FuncId} {args : Array Value} {Pre : List HP} {R : Value → List HP → Prop} (h : Fn P f args Pre R) (X : List HP) : Fn P f args (Pre ++ X) (fun v Q => ∃ Q', R v Q' ∧ Q = Q' ++ X) := by
  intro F w s
  rw [List.append_assoc] at s
  refine (h (X ++ F) w s).mono ?_
  rintro e w' ⟨v, Q, a, b, x, d⟩
  exact ⟨v, Q ++ X, a, b, ⟨Q, x, rfl⟩, by rw [List.append_assoc]; exact d⟩

def penv : Nat → List Value → Env
  | _, [] => []
  | i, v :: l => (i, v) :: penv (i + 1) l
theorem look_penv : ∀ (l : List Value) (i s : Nat) (v : Value), look (penv i l) s = some v → i ≤ s ∧ l[s - i]? = some v
  | [], _, _, _, e => by simp [penv, look] at e
  | u :: l, i, s, v, e => by
    simp only [penv, look] at e
    by_cases h : i = s
    · subst h; simp at e; subst e; simp
    · have hb : Nat.beq i s = false := nbeq h
      simp [hb] at e
      obtain ⟨h1, h2⟩ := look_penv l (i + 1) s v e
      refine ⟨by omega, ?_⟩
      rw [show s - i = (s - (i + 1)) + 1 by omega, List.getElem?_cons_succ]; exact h2

/-- What a function hands back, read off the slots and the memory at its end. -/
def Res (P : Program) (N : Nat) (fn : Func) (L : Env) (H : List HP) (v : Value) : Prop := ∀ a w Y, At N L a → sat (H ++ Y) w → (results fn a.tmps).run P w = .ok v w
def KF (P : Program) (fn : Func) (R : Value → List HP → Prop) (F : List HP) : Kont
  | .normal, L, H => ∃ v Q, Res P fn.ntmps fn L H v ∧ R v Q ∧ Sb (Q ++ F) H
  | .ret, L, H => ∃ v Q, Res P fn.ntmps fn L H v ∧ R v Q ∧ Sb (Q ++ F) H
  | _, _, _ => False

theorem leaves_marks {P : Program} {fn : Func} {tmps : Array Value} {R : Ending → World → Prop} {v : Value} {l : List HP} : ∀ (ds : List Nat) (w : World), sat (l ++ ds.map dblk) w →
    (∀ w', Same w w' → sat l w' → (results fn tmps).run P w' = .ok v w' ∧ R (.returned v) w') → LeavesInM Fence.wide 0 P fn tmps R (ds.map mark) .returning w
  | [], w, s, h => by
    simp at s
    obtain ⟨h1, h2⟩ := h w (Same.refl w) s
    exact ⟨v, h1, h2⟩
  | d :: ds, w, s, h => by
    simp only [List.map_cons] at s
    have s' : sat (dblk d :: (l ++ ds.map dblk)) w := sat_perm List.perm_middle s
    have hb := sat_pt s'
    refine ⟨by simp, .inl ⟨d, _, rfl, run_takeDeferred hb, ?_⟩⟩
    refine leaves_marks ds _ ?_ (fun w' sm sl => h w' ((Same.putObj _ _ _).trans sm) sl)
    have := sat_upd (o' := .deferred none) (w' := w.putObj d (.deferred none)) s' (World.putObj_heap_same (Array.getElem?_eq_some_iff.1 hb).1) (fun k hk => World.putObj_heap_other hk)
    exact sat_right (l := [pt d (.deferred none)]) this

theorem Fn.mk {P : Program} {f : FuncId} {args : Array Value} {Pre : List HP} {R : Value → List HP → Prop} {fn : Func} {x : Code} (hf : P.funcs[f]? = some fn) (hb : fn.body = some x) (hN : Nat.ble args.size fn.ntmps = true)
    (h : ∀ w0 F, G P ⟨none, fn.ntmps, w0, [], [], false⟩ x (KF P fn R F) (penv 0 args.toList) (Pre ++ F)) : Fn P f args Pre R := by
  intro F w s
  have hN' : args.size ≤ fn.ntmps := by simpa using hN
  refine callsIn_of_wp_marks (fn := fn) (c := x) hf hb trivial ?_ rfl
  refine wpIn_mono (h w F _ w ⟨⟨?_, ?_⟩, Same.refl w, [], rfl, fun _ => rfl, by simpa using s⟩) ?_
  · simp; omega
  · intro t v e
    obtain ⟨_, h2⟩ := look_penv _ _ _ _ e
    simp at h2
    have hlt : t < args.size := by
      have := (Array.getElem?_eq_some_iff.1 h2).1; exact this
    rw [Array.getElem?_append_left hlt]; exact h2
  · rintro e a' w' ⟨L', H', ⟨h1, h2, ds, h3, _, h5⟩, q⟩
    have fin : (∃ v Q, Res P fn.ntmps fn L' H' v ∧ R v Q ∧ Sb (Q ++ F) H') → LeavesInM Fence.wide 0 P fn a'.tmps (Ret w F R) a'.defers .returning w' := by
      rintro ⟨v, Q, hr, hR, hsb⟩
      rw [show a'.defers = ds.map mark by simpa using h3]
      refine leaves_marks (l := H') (v := v) ds w' (by simpa using h5) fun w2 sm sl => ⟨?_, v, Q, rfl, h2.trans sm, hR, hsb.sat sl⟩
      exact hr a' w2 [] h1 (by simpa using sl)
    cases e with
    | normal => exact fin q
    | ret => exact fin q
    | _ => exact q.elim

end Go.Proofs.YtbconcohpfkncaaGreat
