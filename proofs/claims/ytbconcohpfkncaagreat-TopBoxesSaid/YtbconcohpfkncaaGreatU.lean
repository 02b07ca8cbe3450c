/-
  Slices that can be read; append out of one. Any program.
-/
import Derived.Test.YtbconcohpfkncaaGreatT
import Derived.Deep.Upon
namespace Go.Proofs.YtbconcohpfkncaaGreat
open Go
attribute [local irreducible] pt init exs pur own
/-- The value v is a slice of n elements of sz cells each, whose cells l can be read in q. -/
def Sl (q : HP) (v : Value) (n sz : Nat) (l : List Value) : Prop :=
  ∃ a cap, v = .slice a n cap ∧ l.length = n * sz ∧ (0 < n → ∃ b o, a = some ⟨b, o, none⟩ ∧ ∀ j u, l[j]? = some u → Rd q ⟨b, o + j, none⟩ u)
section
variable {P : Program} {c : Cx} {A : Array Oper} {rest : List Oper} {K : Kont} {L : Env} {H : List HP} {t : TypeId} {p : String} {e : Array Edge} {d : Nat}
theorem own_append (w : World) {at1 t el : TypeId} {sz by_ n m : Nat} {zl xs news : List Value} {v v2 : Value} {q : HP} {l : List HP} [hu : UL P at1 (.slice el)] [hs : SZ P el sz] [hb : BY P el by_] [hz : ZC P el zl]
    (hq : Sl q v2 m sz news) (h1 : ∀ u ∈ news, u.oneCell' = true) (hsz : 0 < sz ∧ zl.length = sz) (h63 : n + m ≤ maxLen) (hbytes : (n + m) * by_ ≤ 140737488355328)
    (s : sat (own el sz n v xs :: q :: l) w) : ∃ v' w', (Builtin.append_ #[at1, at1] t #[v, v2]).run P w = .ok v' w' ∧ Same w w' ∧ sat (own el sz (n + m) v' (xs ++ news) :: q :: l) w' := by
  have hso := hs.out
  have hzo := hz.out
  have hbo := hb.out
  obtain ⟨a2, c2, rfl, hlen, hrd⟩ := hq
  cases hqq : P.info? el with
  | none => simp [hqq] at hso
  | some ie =>
    cases hzz : ie.zero with
    | none => simp [hqq, hzz] at hzo
    | some z =>
      have hsz2 : ie.size = sz := by simpa [hqq] using hso
      have hby : ie.bytes = by_ := by simpa [hqq] using hbo
      have hzl : z.cells.toList = zl := by simpa [hqq, hzz] using hzo
      by_cases hm : 0 < m
      · obtain ⟨b2, o2, rfl, hr⟩ := hrd hm
        have s2 : sat (q :: (own el sz n v xs :: l)) w := sat_perm (List.Perm.swap _ _ _) s
        obtain ⟨v', w', hrun, hsame, hsat⟩ := sat_append (P := P) w at1 t el ie z sz by_ hu.out hqq hzz hsz2 hby (by rw [← Array.length_toList, hzl]; exact hsz.2) hsz.1 s ⟨b2, o2, none⟩ m c2 news hlen (fun j u hj => by
          rw [add_plain]; exact hr j u hj _ w s2) h1 h63 hbytes hm
        exact ⟨v', w', hrun, hsame, hsat⟩
      · have h0 : m = 0 := by omega
        subst h0
        have hn0 : news = [] := List.eq_nil_of_length_eq_zero (by omega)
        subst hn0
        have hsrc : Src P ie.size at1 (.slice a2 0 c2) 0 [] w := by
          cases a2 with
          | none => exact Src.ofNil w hu.out c2
          | some a => exact Src.ofSlice w hu.out a 0 c2 [] (by simp) (by simp) (by simp)
        rw [List.append_nil, Nat.add_zero]
        rcases own_shape s with ⟨rfl, rfl, rfl, _⟩ | ⟨b, cap, rest', rfl, _, h2, _⟩
        · exact ⟨_, w, run_append_nothing w at1 at1 t el ie hu.out hqq none 0 0 (Nat.le_refl _) _ hsrc, Same.refl w, s⟩
        · exact ⟨_, w, run_append_nothing w at1 at1 t el ie hu.out hqq (some ⟨b, 0, none⟩) n cap h2 _ hsrc, Same.refl w, s⟩
/-- append of a slice that can be read to one of our own. -/
theorem GO.appendFrom {el at1 : TypeId} {sz n m by_ : Nat} {zl xs news : List Value} {v v2 : Value} {x y : Operand} {q : HP} {F F2 : List HP} [hu : UL P at1 (.slice el)] [hs : SZ P el sz] [hb : BY P el by_] [hz : ZC P el zl]
    (hN : Nat.blt d c.N = true) (hx : evl L x = some v) (hy : evl L y = some v2) (tk : Tk (own el sz n v xs) H F) (tk2 : Tk q F F2)
    (hq : Sl q v2 m sz news) (h1 : ∀ u ∈ news, u.oneCell' = true) (hsz : 0 < sz ∧ zl.length = sz) (h63 : n + m ≤ maxLen) (hbytes : (n + m) * by_ ≤ 140737488355328)
    (k : ∀ v', GO P c A rest K ((d, v') :: L) (own el sz (n + m) v' (xs ++ news) :: F)) : GO P c A (⟨some d, .call ⟨.builtin .append, #[x, y], #[at1, at1]⟩, t, p, e, none⟩ :: rest) K L H :=
  GO.gen hN rfl (fun v' H' => H' = own el sz (n + m) v' (xs ++ news) :: F)
    (fun a w Y h s => by
      have s1 : sat (own el sz n v xs :: q :: (F2 ++ Y)) w := by
        have h2 : H.Perm (own el sz n v xs :: q :: F2) := tk.trans (List.Perm.cons _ tk2)
        exact sat_perm (List.Perm.append_right Y h2) s
      obtain ⟨v', w', hrun, hsame, hsat⟩ := own_append (P := P) w (t := t) (at1 := at1) hq h1 hsz h63 hbytes s1
      refine ⟨v', w', _, ?_, hsame, rfl, ?_⟩
      · simp only [execOp, resolve, invoke, builtin]
        simp [Sem.run_bind, Result.andThen, h.eval hx, h.eval hy, hrun]
      · have h3 : (own el sz (n + m) v' (xs ++ news) :: q :: F2).Perm (own el sz (n + m) v' (xs ++ news) :: F) := List.Perm.cons _ tk2.symm
        exact sat_perm (List.Perm.append_right Y h3) hsat)
    (by rintro v' _ rfl; exact k v')
/-- An empty slice literal. -/
theorem GO.buildSlice0 {ty el : TypeId} {n : Nat} [hu : UL P ty (.slice el)] [hs : SZ P el n] (hN : Nat.blt d c.N = true)
    (k : ∀ v, GO P c A rest K ((d, v) :: L) (own el n 0 v [] :: H)) : GO P c A (⟨some d, .buildSlice ty 0 #[], t, p, e, none⟩ :: rest) K L H :=
  GO.gen hN rfl (fun v H' => H' = own el n 0 v [] :: H)
    (fun a w Y h s => by
      have hso := hs.out
      cases hq : P.info? el with
      | none => simp [hq] at hso
      | some ie =>
        refine ⟨_, _, _, ?_, Same.alloc w (row [] el), rfl, own_in (rest := []) rfl (by simp) (Nat.le_refl _) (Nat.zero_le _) (by simp) (sat_alloc s (row [] el))⟩
        simp only [execOp]
        simp [Instr.buildSlice, Sem.run_bind, run_underlying hu.out, sizeOf, typeInfo, hq, Result.andThen, Instr.fill, newRow, row]
        have e0 : Array.range 0 = #[] := Array.eq_empty_of_size_eq_zero (by simp)
        rw [e0, Array.map_empty])
    (by rintro v _ rfl; exact k v)
/-- A slice of our own from now on read alone. -/
theorem GO.ownRd {el : TypeId} {sz n : Nat} {v : Value} {xs : List Value} {F : List HP} {os : List Oper} (tk : Tk (own el sz n v xs) H F) (k : ∀ q, Sl q v n sz xs → GO P c A os K L (q :: F)) : GO P c A os K L H := by
  refine GO.own_open tk (fun hv hn hx => ?_) (fun b cap rest' hv h1 h2 h3 h4 => ?_)
  · subst hv hn hx
    exact GO.imp (H' := Go.Proofs.YtbconcohpfkncaaGreat.pur True :: F) (fun _ _ s => sat_pur.2 ⟨trivial, s⟩) (k _ ⟨none, 0, rfl, by simp, fun h => absurd h (by omega)⟩)
  · subst hv
    refine k _ ⟨_, _, rfl, h1, fun _ => ⟨b, 0, rfl, fun j u hj => ?_⟩⟩
    rw [Nat.zero_add]
    exact Rd.row (by rw [List.getElem?_append_left (List.getElem?_eq_some_iff.1 hj).1]; exact hj)
theorem G.ownRd {el : TypeId} {sz n : Nat} {v : Value} {xs : List Value} {F : List HP} {C : Code} (tk : Tk (own el sz n v xs) H F) (k : ∀ q, Sl q v n sz xs → G P c C K L (q :: F)) : G P c C K L H := by
  rintro a w ⟨h1, h2, ds, h3, h4, h5⟩
  have s1 : sat (own el sz n v xs :: (F ++ (c.X ++ ds.map dblk))) w := sat_perm (List.Perm.append_right _ tk) h5
  rcases own_shape s1 with ⟨rfl, rfl, rfl, s2⟩ | ⟨b, cap, rest', rfl, g1, _, _, _, s2⟩
  · exact k (Go.Proofs.YtbconcohpfkncaaGreat.pur True) ⟨none, 0, rfl, by simp, fun h => absurd h (by omega)⟩ a w ⟨h1, h2, ds, h3, h4, sat_pur.2 ⟨trivial, s2⟩⟩
  · refine k (pt b (row (xs ++ rest') el)) ⟨_, _, rfl, g1, fun _ => ⟨b, 0, rfl, fun j u hj => ?_⟩⟩ a w ⟨h1, h2, ds, h3, h4, s2⟩
    rw [Nat.zero_add]
    exact Rd.row (by rw [List.getElem?_append_left (List.getElem?_eq_some_iff.1 hj).1]; exact hj)
/-- Structs held against each other. -/
def PartR (P : Program) (t : TypeId) (l : List Value) (o : Nat) (v : Value) : Prop := ∀ w, (part t l.toArray o).run P w = .ok v w
theorem PartR.one {t : TypeId} {ds : TypeDesc} [hu : UL P t ds] {l : List Value} {o : Nat} {v : Value} (hd : ds.isRow = false) (h : l[o]? = some v) : PartR P t l o v := fun w => run_part1 hd h w
theorem PartR.many {t : TypeId} {ds : TypeDesc} {n : Nat} [hu : UL P t ds] [hs : SZ P t n] {l l' : List Value} {o : Nat} (hd : ds.isRow = true) (h : (l.drop o).take n = l') : PartR P t l o (.agg l'.toArray) := fun w => by
  subst h
  simp only [part, Sem.run_bind, run_isAgg_UL, hd, Result.andThen_ok, run_sizeOf_SZ, if_true, Sem.run_pure]
  congr 1; congr 1
  apply Array.ext'
  simp [List.take_drop, Nat.add_comm]
def EqFs (P : Program) (d : Nat) (l l' : List Value) : List Field → Bool → Prop
  | [], r => r = true
  | f :: fs, r => ∃ a b q r', f.name ≠ "_" ∧ PartR P f.type l f.offset a ∧ PartR P f.type l' f.offset b ∧ EqR P d f.type a b q ∧ EqFs P d l l' fs r' ∧ r = (q && r')
theorem EqFs.run {d : Nat} {l l' : List Value} (w : World) : ∀ {fs : List Field} {r : Bool}, EqFs P d l l' fs r → (Op.eqFields d l.toArray l'.toArray fs).run P w = .ok r w
  | [], _, rfl => by simp [Op.eqFields]
  | f :: fs, r, ⟨a, b, q, r', hn, ha, hb, hq, hr, e⟩ => by
    subst e
    simp only [Op.eqFields, hn, ne_eq, not_false_eq_true, if_true, Sem.run_bind, ha w, hb w, hq w, Result.andThen_ok]
    cases q
    · simp
    · simp [EqFs.run w hr]
theorem EqR.struct {d : Nat} {t : TypeId} {fs : Array Field} {l l' : List Value} {r : Bool} [ht : UL P t (.struct fs)] [hp : SH P t] (h : EqFs P d l l' fs.toList r) : EqR P (d + 1) t (.agg l.toArray) (.agg l'.toArray) r := fun w => by
  have hf : P.fieldsOf t = fs := by unfold Program.fieldsOf; rw [ht.out]
  rw [run_equalIn_struct w d t _ _ (by rw [hf]; exact ht.out) hp.out, hf]
  exact h.run w
theorem kA_n {K' : Kont} {y : Code} (k : G P c y K' L H) : KA P c y K' .normal L H := k
theorem kB_n {J Sh F : List HP} {X : Code → List HP} (k : ImpS H (J ++ Sh ++ F)) : KB J X Sh F .normal L H := k
/-- What holds between a block and what comes behind it. -/
theorem G.midB {x y : Code} {id : Nat} (S : Env) (M : List HP) (hx : G P c x (kblock id (kthen (fun L' H' => SubE S L' ∧ ImpS H' M) K)) L H) (hy : G P c y K S M) : G P c x (kblock id (kthen (fun L H => G P c y K L H) K)) L H :=
  G.mono hx (fun e L' H' h => by
    cases e with
    | normal => exact G.subI h.1 h.2 hy
    | exit i =>
      simp only [kblock] at h ⊢
      cases hb : Nat.beq i id with
      | true => simp only [hb, cond_true] at h ⊢; exact G.subI h.1 h.2 hy
      | false => simp only [hb, cond_false] at h ⊢; exact h
    | _ => exact h)
end
end Go.Proofs.YtbconcohpfkncaaGreat
