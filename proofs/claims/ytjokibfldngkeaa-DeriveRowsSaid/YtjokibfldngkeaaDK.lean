/-
  The document's table: what is in it, the productions derive.
-/
import Derived.Test.YtjokibfldngkeaaDJ
namespace Go.Proofs.Ytjokibfldngkeaa
open Go
theorem body_ok {C : CnfD} (hok : okC C = true) (hwk : weakC C = true) {p : ProdD} (hp : p ∈ C.prods) : BodyOK C.nts.toNat p.2 := by
  unfold weakC at hwk
  rw [Bool.and_eq_true] at hwk
  have hw : weakB p.2 = true := List.all_eq_true.1 hwk.2 p hp
  have hn := okC_nts hok
  unfold okC at hok
  rw [Bool.and_eq_true] at hok
  have h2 := List.all_eq_true.1 hok.2 p hp
  unfold prodOK at h2
  rw [Bool.and_eq_true] at h2
  have h3 := h2.2
  generalize p.2 = ss at hw h3
  refine ⟨weakB_len hw, fun h s hs => ?_⟩
  match ss, h with
  | [s1, t1], _ =>
    have hl : s.1 = false := by
      obtain ⟨s1a, s1b⟩ := s1
      obtain ⟨t1a, t1b⟩ := t1
      simp only [List.mem_cons, List.not_mem_nil, or_false] at hs
      cases s1a with
      | true => cases hw
      | false =>
        cases t1a with
        | true => cases hw
        | false => rcases hs with rfl | rfl <;> rfl
    have h4 := List.all_eq_true.1 h3 s hs
    unfold symOK at h4
    rw [hl] at h4
    simp only [Bool.not_eq_true', Bool.or_eq_false_iff, decide_eq_false_iff_not, Bool.false_and, Bool.not_false, Bool.true_and] at h4
    omega
def SdK (C : CnfD) (w : List Int) (K : Nat → Bool) : Prop := ∀ A i j, A < C.nts.toNat → i ≤ w.length → j ≤ w.length → K (atN (w.length + 1) A i j) = true → Der C w (A : Nat) i j
def DoneP (w : List Int) (K : Nat → Bool) (p : ProdD) (i j : Nat) : Prop := i ≤ j → j ≤ w.length → ComeP K w p.2 i j → K (atN (w.length + 1) p.1.toNat i j) = true
theorem come_der {C : CnfD} {w : List Int} {K : Nat → Bool} (hok : okC C = true) (hwk : weakC C = true) (hs : SdK C w K) {p : ProdD} (hp : p ∈ C.prods) {i j : Nat} (hij : i ≤ j) (hj : j ≤ w.length) (h : ComeP K w p.2 i j) : Der C w p.1 i j := by
  have hb := body_ok hok hwk hp
  obtain ⟨A, ss⟩ := p
  dsimp only at h hb ⊢
  rcases h with ⟨rfl, rfl⟩ | ⟨s, rfl, rfl, h⟩ | ⟨s, t, rfl, k, h1, h2, h3, h4⟩
  · exact .none hp hj
  · exact .one hp h
  · have b1 := hb.2 rfl s (by simp)
    have b2 := hb.2 rfl t (by simp)
    have d1 := hs _ _ _ (by omega) (by omega) (by omega) h3
    have d2 := hs _ _ _ (by omega) (by omega) (by omega) h4
    rw [Int.toNat_of_nonneg b1.1] at d1
    rw [Int.toNat_of_nonneg b2.1] at d2
    exact .two hp d1 d2
theorem done_der {C : CnfD} {w : List Int} {K : Nat → Bool} (hd : ∀ p ∈ C.prods, ∀ i j, DoneP w K p i j) {A : Int} {i j : Nat} (h : Der C w A i j) : K (atN (w.length + 1) A.toNat i j) = true := by
  induction h with
  | none h hi => exact hd _ h _ _ (Nat.le_refl _) hi (.inl ⟨rfl, rfl⟩)
  | one h hi => exact hd _ h _ _ (by omega) (by have := (List.getElem?_eq_some_iff.1 hi).1; omega) (.inr (.inl ⟨_, rfl, rfl, hi⟩))
  | two h h1 h2 ih1 ih2 =>
    have l1 := h1.le
    have l2 := h2.le
    exact hd _ h _ _ (by omega) (by omega) (.inr (.inr ⟨_, _, rfl, _, l1.1, l2.1, ih1, ih2⟩))
/-- A pass over all: nothing new yet, or fewer are not known. -/
structure InvT (C : CnfD) (w : List Int) (N : Nat) (K0 K : Nat → Bool) (more : Bool) (Dn : Prop) : Prop where
  sd : SdK C w K
  st : (more = false ∧ K = K0 ∧ Dn) ∨ (more = true ∧ cntF K N < cntF K0 N)
theorem InvT.imp {C : CnfD} {w : List Int} {N : Nat} {K0 K : Nat → Bool} {more : Bool} {D E : Prop} (h : InvT C w N K0 K more D) (k : D → K = K0 → E) : InvT C w N K0 K more E :=
  ⟨h.sd, by rcases h.st with ⟨h1, h2, h3⟩ | h1
            · exact .inl ⟨h1, h2, k h3 h2⟩
            · exact .inr h1⟩
theorem InvT.new {C : CnfD} {w : List Int} {N : Nat} {K0 K : Nat → Bool} {more : Bool} {D E : Prop} {A i j : Nat} (h : InvT C w N K0 K more D) (hN : N = C.nts.toNat * (w.length + 1) * (w.length + 1)) (hA : A < C.nts.toNat) (hi : i ≤ w.length) (hj : j ≤ w.length) (hK : K (atN (w.length + 1) A i j) = false) (hd : Der C w (A : Nat) i j) :
    InvT C w N K0 (upd K (atN (w.length + 1) A i j) true) true E := by
  have hlt : atN (w.length + 1) A i j < N := by rw [hN]; exact atN_lt hA (by omega) (by omega)
  refine ⟨fun B k l hB hk hl h2 => ?_, .inr ⟨rfl, ?_⟩⟩
  · by_cases e : atN (w.length + 1) B k l = atN (w.length + 1) A i j
    · obtain ⟨rfl, rfl, rfl⟩ := atN_inj (by omega) (by omega) (by omega) (by omega) e
      exact hd
    · rw [upd_ne K true e] at h2
      exact h.sd B k l hB hk hl h2
  · have := cntF_upd K _ hK N hlt
    rcases h.st with ⟨_, h2, _⟩ | ⟨_, h2⟩
    · rw [← h2]; exact this
    · omega
theorem rep_false (N : Nat) : List.replicate N (Value.bool false) = boolsV (fun _ => false) N := by
  unfold boolsV rowV
  rw [List.map_const', List.length_range]
attribute [local irreducible] G GO GR GT Fn FnV pt init exs pur sat own ImpS symsV wordV atN cntF
set_option maxHeartbeats 32000000 in
theorem rtable_spec (q : HP) (C : CnfD) (w : List Int) (pv wv : Value) (hp : PrsR q pv C.prods) (hw : WordR q wv w) (hok : okC C = true) (hwk : weakC C = true) (hz : Fits C) (hl : ¬ 64 < w.length) (N : Nat) (hN : N = C.nts.toNat * (w.length + 1) * (w.length + 1)) :
    Fn Try.prog 29 #[.agg #[i64 C.nts, pv], wv] [q] (fun r Q => ∃ bo K, r = .slice (some ⟨bo, 0, none⟩) N N ∧ (∀ A i j, A < C.nts.toNat → i ≤ w.length → j ≤ w.length → (K (atN (w.length + 1) A i j) = true ↔ Der C w (A : Nat) i j)) ∧ Q = [knM bo N K, q]) := by
  have hpn : ¬ 140737488355328 < C.prods.length := by have := hz.1; omega
  have hn := okC_nts hok
  obtain ⟨m, hm⟩ := Int.eq_ofNat_of_zero_le (show 0 ≤ C.nts by omega)
  have hmt : C.nts.toNat = m := by rw [hm]; rfl
  have hcome := fun (bv : Value) (ss : List SymD) (hs : SymsR q bv ss) (hb : BodyOK m ss) (bo : Nat) (K : Nat → Bool) (i j : Nat) (hi : i ≤ j) (hj : j ≤ w.length) => come_spec q m (by omega) w wv bv ss hw hs hl hb bo N (by rw [hN, hmt]) K i j hi hj
  have n1 : m * (w.length + 1) ≤ 1024 * 65 := Nat.mul_le_mul (by omega) (by omega)
  have n2 : m * (w.length + 1) * (w.length + 1) ≤ 66560 * 65 := Nat.mul_le_mul n1 (by omega)
  have i1 : 0 ≤ (m : Int) * ((w.length : Int) + 1) ∧ (m : Int) * ((w.length : Int) + 1) ≤ 66560 := by
    have e : (m : Int) * ((w.length : Int) + 1) = ((m * (w.length + 1) : Nat) : Int) := by push_cast; rfl
    rw [e]; omega
  have hNN : (m : Int) * ((w.length : Int) + 1) * ((w.length : Int) + 1) = (N : Int) := by rw [hN, hmt]; push_cast; rfl
  have hNle : ¬ 4326400 < N := by rw [hN, hmt]; omega
  have i2 : 0 ≤ (m : Int) * ((w.length : Int) + 1) * ((w.length : Int) + 1) ∧ (m : Int) * ((w.length : Int) + 1) * ((w.length : Int) + 1) ≤ 4326400 := by rw [hNN]; omega
  obtain ⟨ap, cp, rfl⟩ := hp.form
  obtain ⟨aw, cw, rfl⟩ := hw.form
  refine Fn.mk2 Try.func29 rfl rfl fun w0 F => ?_
  rw [hmt, hm]
  (refine G.seq ?_; refine G.region ?_; refine GO.box rfl rfl rfl fun b2 => ?_; refine GO.assign rfl rfl ?_; refine GO.nil ?_; refine kthen_n ?_; refine G.seq ?_; refine G.region ?_; refine GO.move rfl rfl ?_; refine GO.lenS rfl rfl ?_; refine GO.addi rfl rfl rfl (by omega) ?_; refine GO.assign rfl rfl ?_; refine GO.nil ?_; refine kthen_n ?_; refine G.seq ?_; refine G.region ?_; refine GO.fieldAddr rfl rfl ?_; refine GO.load1 rfl rfl rfl Tk.h rfl ?_; refine GO.move rfl rfl ?_; refine GO.muli rfl rfl rfl (by omega) ?_; refine GO.move rfl rfl ?_; refine GO.muli rfl rfl rfl (by omega) ?_)
  rw [hNN]
  refine GO.make1 rfl rfl rfl ⟨rfl, rfl⟩ ⟨by omega, by omega⟩ fun bo => ?_
  rw [rep_false]
  (refine GO.assign rfl rfl ?_; refine GO.nil ?_; refine kthen_n ?_; refine G.seq ?_; refine G.region ?_; refine GO.assign rfl rfl ?_; refine GO.nil ?_; refine kthen_n ?_; refine G.seq ?_; refine G.block ?_)
  refine G.loop2 (fun (K : Nat → Bool) (more : Bool) => [(1, .slice aw w.length cw), (2, ptrT b2), (5, .int .i64 ((w.length : Int) + 1)), (6, .slice (some ⟨bo, 0, none⟩) N N), (7, .bool more)]) (fun K _ => knM bo N K :: pt b2 (row [i64 (m : Nat), .slice ap C.prods.length cp] 24) :: q :: F) (fun K more => SdK C w K ∧ (more = false → ∀ p ∈ C.prods, ∀ i j, DoneP w K p i j)) (fun K more => 2 * cntF K N + (if more then 1 else 0)) (fun _ => false) true ⟨(fun _ _ _ _ _ _ h => by cases h), (fun h => by cases h)⟩ ?_ ?_ ?_
  · (refine SubE.c rfl rfl ?_; refine SubE.c rfl rfl ?_; refine SubE.c rfl rfl ?_; refine SubE.c rfl rfl ?_; refine SubE.c rfl rfl ?_; exact SubE.n)
  · ((refine Sb.c Tk.h ?_; refine Sb.c Tk.h ?_; refine Sb.c Tk.h ?_); (exact Sb.r))
  · rintro K more ⟨hsd, hdn⟩
    cases more with
    | false =>
      (refine G.seq ?_; refine G.seq ?_; refine G.region ?_; refine GO.move rfl rfl ?_; refine GO.nil ?_; refine kthen_n ?_; refine G.condF rfl rfl ?_; refine G.exit ?_; refine kthen_x ?_; refine kthen_x ?_; refine kblock_x ?_; refine kthen_n ?_; refine G.seq ?_; refine G.region ?_; refine GO.move rfl rfl ?_; refine GO.assign rfl rfl ?_; refine GO.nil ?_; refine kthen_n ?_; refine G.ret ?_)
      refine KF2.r1 rfl (RV.t rfl) ⟨bo, K, rfl, fun A i j hA hi hj => ⟨fun h => hsd A i j (by omega) hi hj h, fun h => ?_⟩, rfl⟩ (ImpS.sb ?_)
      · exact done_der (hdn rfl) h
      · ((refine Sb.c Tk.h ?_; refine Sb.c (Tk.t Tk.h) ?_); (refine Sb.s ?_; exact Sb.r))
    | true =>
      (refine G.seq ?_; refine G.seq ?_; refine G.region ?_; refine GO.move rfl rfl ?_; refine GO.nil ?_; refine kthen_n ?_; refine G.condT rfl rfl ?_; refine G.skip ?_; refine kthen_n ?_; refine G.block ?_; refine G.seq ?_; refine G.region ?_; refine GO.assign rfl rfl ?_; refine GO.nil ?_; refine kthen_n ?_; refine G.seq ?_; refine G.region ?_; refine GO.assign rfl rfl ?_; refine GO.nil ?_; refine kthen_n ?_; refine G.block ?_)
      refine G.loop3 (fun (p : Nat) (_ : Nat → Bool) (more : Bool) => [(1, .slice aw w.length cw), (2, ptrT b2), (5, .int .i64 ((w.length : Int) + 1)), (6, .slice (some ⟨bo, 0, none⟩) N N), (7, .bool more), (8, i64 (p : Nat))]) (fun _ K _ => knM bo N K :: pt b2 (row [i64 (m : Nat), .slice ap C.prods.length cp] 24) :: q :: F) (fun p K1 more => p ≤ C.prods.length ∧ InvT C w N K K1 more (∀ r pr, r < p → C.prods[r]? = some pr → ∀ i j, DoneP w K pr i j)) (fun p _ _ => C.prods.length - p) 0 K false
        ⟨Nat.zero_le _, ⟨hsd, .inl ⟨rfl, rfl, fun r _ h => absurd h (Nat.not_lt_zero _)⟩⟩⟩ ?_ ?_ ?_
      · (refine SubE.c rfl rfl ?_; refine SubE.c rfl rfl ?_; refine SubE.c rfl rfl ?_; refine SubE.c rfl rfl ?_; refine SubE.c rfl rfl ?_; refine SubE.c rfl rfl ?_; exact SubE.n)
      · ((refine Sb.c Tk.h ?_; refine Sb.c Tk.h ?_; refine Sb.c Tk.h ?_); (exact Sb.r))
      · rintro p K1 more1 ⟨hp1, inv1⟩
        (refine G.seq ?_; refine G.seq ?_; refine G.region ?_; refine GO.move rfl rfl ?_; refine GO.fieldAddr rfl rfl ?_; refine GO.load1 rfl rfl rfl (Tk.t Tk.h) rfl ?_; refine GO.lenS rfl rfl ?_; refine GO.lti rfl rfl rfl ?_; refine GO.nil ?_; refine kthen_n ?_)
        refine G.condD rfl (fun hlt => ?_) (fun hge => ?_)
        · have hpl : p < C.prods.length := by omega
          obtain ⟨pr, hpk⟩ : ∃ pr, C.prods[p]? = some pr := ⟨_, List.getElem?_eq_getElem hpl⟩
          obtain ⟨b0, o0, bv, rfl, _, r1, r2, hss⟩ := hp.at hpk
          have hpm := List.mem_of_getElem? hpk
          have hbo := body_ok hok hwk hpm
          rw [hmt] at hbo
          have hhd := okC_prod hok hpm
          obtain ⟨A, ss⟩ := pr
          dsimp only at r1 r2 hss hbo hhd
          obtain ⟨a, rfl⟩ := Int.eq_ofNat_of_zero_le hhd.1
          have ham : a < m := by omega
          have hcm := hcome bv ss hss hbo bo
          obtain ⟨ab, cb, rfl⟩ := hss.form
          (refine G.skip ?_; refine kthen_n ?_; refine G.seq ?_; refine G.block ?_; refine G.seq ?_; refine G.region ?_; refine GO.assign rfl rfl ?_; refine GO.nil ?_; refine kthen_n ?_; refine G.block ?_)
          refine G.loop3 (fun (i : Nat) (_ : Nat → Bool) (more : Bool) => [(1, .slice aw w.length cw), (2, ptrT b2), (5, .int .i64 ((w.length : Int) + 1)), (6, .slice (some ⟨bo, 0, none⟩) N N), (7, .bool more), (8, i64 (p : Nat)), (9, i64 (i : Nat))]) (fun _ K _ => knM bo N K :: pt b2 (row [i64 (m : Nat), .slice (some ⟨b0, o0, none⟩) C.prods.length cp] 24) :: q :: F) (fun i K1 more => i ≤ w.length + 1 ∧ InvT C w N K K1 more ((∀ r pr, r < p → C.prods[r]? = some pr → ∀ i j, DoneP w K pr i j) ∧ ∀ x, x < i → ∀ j, DoneP w K ((a : Int), ss) x j)) (fun i _ _ => w.length + 1 - i) 0 K1 more1
            ⟨Nat.zero_le _, inv1.imp fun h _ => ⟨h, fun x hx => absurd hx (Nat.not_lt_zero _)⟩⟩ ?_ ?_ ?_
          · (refine SubE.c rfl rfl ?_; refine SubE.c rfl rfl ?_; refine SubE.c rfl rfl ?_; refine SubE.c rfl rfl ?_; refine SubE.c rfl rfl ?_; refine SubE.c rfl rfl ?_; refine SubE.c rfl rfl ?_; exact SubE.n)
          · ((refine Sb.c Tk.h ?_; refine Sb.c Tk.h ?_; refine Sb.c Tk.h ?_); (exact Sb.r))
          · rintro i K2 more2 ⟨hi1, inv2⟩
            (refine G.seq ?_; refine G.seq ?_; refine G.region ?_; refine GO.move rfl rfl ?_; refine GO.move rfl rfl ?_; refine GO.lti rfl rfl rfl ?_; refine GO.nil ?_; refine kthen_n ?_)
            refine G.condD rfl (fun hlt2 => ?_) (fun hge2 => ?_)
            · (refine G.skip ?_; refine kthen_n ?_; refine G.seq ?_; refine G.block ?_; refine G.seq ?_; refine G.region ?_; refine GO.move rfl rfl ?_; refine GO.assign rfl rfl ?_; refine GO.nil ?_; refine kthen_n ?_; refine G.block ?_)
              refine G.loop3 (fun (j : Nat) (_ : Nat → Bool) (more : Bool) => [(1, .slice aw w.length cw), (2, ptrT b2), (5, .int .i64 ((w.length : Int) + 1)), (6, .slice (some ⟨bo, 0, none⟩) N N), (7, .bool more), (8, i64 (p : Nat)), (9, i64 (i : Nat)), (10, i64 (j : Nat))]) (fun _ K _ => knM bo N K :: pt b2 (row [i64 (m : Nat), .slice (some ⟨b0, o0, none⟩) C.prods.length cp] 24) :: q :: F) (fun j K1 more => i ≤ j ∧ j ≤ w.length + 1 ∧ InvT C w N K K1 more (((∀ r pr, r < p → C.prods[r]? = some pr → ∀ i j, DoneP w K pr i j) ∧ ∀ x, x < i → ∀ j, DoneP w K ((a : Int), ss) x j) ∧ ∀ y, y < j → DoneP w K ((a : Int), ss) i y)) (fun j _ _ => w.length + 1 - j) i K2 more2
                ⟨Nat.le_refl _, by omega, inv2.imp fun h _ => ⟨h, fun y hy h1 => absurd h1 (by omega)⟩⟩ ?_ ?_ ?_
              · (refine SubE.c rfl rfl ?_; refine SubE.c rfl rfl ?_; refine SubE.c rfl rfl ?_; refine SubE.c rfl rfl ?_; refine SubE.c rfl rfl ?_; refine SubE.c rfl rfl ?_; refine SubE.c rfl rfl ?_; refine SubE.c rfl rfl ?_; exact SubE.n)
              · ((refine Sb.c Tk.h ?_; refine Sb.c Tk.h ?_; refine Sb.c Tk.h ?_); (exact Sb.r))
              · rintro j K3 more3 ⟨hj1, hj2, inv3⟩
                (refine G.seq ?_; refine G.seq ?_; refine G.region ?_; refine GO.move rfl rfl ?_; refine GO.move rfl rfl ?_; refine GO.lti rfl rfl rfl ?_; refine GO.nil ?_; refine kthen_n ?_)
                refine G.condD rfl (fun hlt3 => ?_) (fun hge3 => ?_)
                · have hxN : atN (w.length + 1) a i j < N := by rw [hN, hmt]; exact atN_lt ham (by omega) (by omega)
                  have hat := at_spec a i j (w.length + 1) (by omega) (by omega) (by omega) (by omega)
                  have hcall := hcm K3 i j hj1 (by omega)
                  rw [show i64 ((w.length + 1 : Nat) : Int) = .int .i64 ((w.length : Int) + 1) from rfl] at hat
                  generalize hX : atN (w.length + 1) a i j = x at hxN hat
                  (refine G.skip ?_; refine kthen_n ?_; refine G.seq ?_; refine G.block ?_; refine G.seq ?_; refine G.region ?_; refine GO.fieldAddr rfl rfl ?_; refine GO.load1 rfl rfl rfl (Tk.t Tk.h) rfl ?_; refine GO.move rfl rfl ?_; refine GO.idxS rfl rfl rfl ⟨rfl, by omega⟩ ?_; refine GO.fieldAddr rfl rfl ?_; refine GO.loadQ rfl rfl rfl (Tk.t (Tk.t Tk.h)) (by assumption) ?_; refine GO.move rfl rfl ?_; refine GO.move rfl rfl ?_; refine GO.move rfl rfl ?_)
                  refine GO.call4 rfl rfl rfl rfl rfl (hat) Tks.n ?_
                  rintro _ _ ⟨rfl, rfl⟩
                  (refine GO.assign rfl rfl ?_; refine GO.nil ?_; refine kthen_n ?_; refine G.seq ?_; refine G.region ?_; refine GO.move rfl rfl ?_; refine GO.move rfl rfl ?_; refine GO.idxS rfl rfl rfl ⟨rfl, by omega⟩ ?_; refine GO.load1 rfl rfl rfl Tk.h (rowV_get1 (by assumption)) ?_; refine GO.not rfl rfl ?_; refine GO.move rfl rfl ?_)
                  cases hK3 : K3 x with
                  | true =>
                    (refine GO.gF rfl rfl rfl rfl ?_; refine GO.gF rfl rfl rfl rfl ?_; refine GO.gF rfl rfl rfl rfl ?_; refine GO.gF rfl rfl rfl rfl ?_; refine GO.gF rfl rfl rfl rfl ?_; refine GO.gF rfl rfl rfl rfl ?_; refine GO.gF rfl rfl rfl rfl ?_; refine GO.gF rfl rfl rfl rfl ?_; refine GO.gF rfl rfl rfl rfl ?_; refine GO.gF rfl rfl rfl rfl ?_; refine GO.gF rfl rfl rfl rfl ?_; refine GO.pickF rfl rfl rfl ?_; refine GO.nil ?_; refine kthen_n ?_; refine G.condF rfl rfl ?_; refine G.skip ?_; refine kblock_n ?_; refine kthen_n ?_; refine G.region ?_; refine GO.move rfl rfl ?_; refine GO.addi rfl rfl rfl (by omega) ?_; refine GO.assign rfl rfl ?_; refine GO.nil ?_; refine kthen_n ?_)
                    refine ⟨j + 1, K3, more3, ⟨by omega, by omega, inv3.imp fun h e => ⟨h.1, fun y hy => ?_⟩⟩, by omega, ?_, ?_⟩
                    · by_cases ey : y = j
                      · subst ey
                        intro _ _ _
                        show K (atN (w.length + 1) a i y) = true
                        rw [hX, ← e]; exact hK3
                      · exact h.2 y (by omega)
                    · (refine SubE.c rfl rfl ?_; refine SubE.c rfl rfl ?_; refine SubE.c rfl rfl ?_; refine SubE.c rfl rfl ?_; refine SubE.c rfl rfl ?_; refine SubE.c rfl rfl ?_; refine SubE.c rfl rfl ?_; refine SubE.c rfl rfl ?_; exact SubE.n)
                    · ((refine Sb.c Tk.h ?_; refine Sb.c Tk.h ?_; refine Sb.c Tk.h ?_); (exact Sb.r))
                  | false =>
                    (refine GO.gT rfl rfl rfl ?_; refine GO.fieldAddr rfl rfl ?_; refine GO.gT rfl rfl rfl ?_; refine GO.load1 rfl rfl rfl (Tk.t Tk.h) rfl ?_; refine GO.gT rfl rfl rfl ?_; refine GO.move rfl rfl ?_; refine GO.gT rfl rfl rfl ?_; refine GO.idxS rfl rfl rfl ⟨rfl, by omega⟩ ?_; refine GO.gT rfl rfl rfl ?_; refine GO.fieldAddr rfl rfl ?_; refine GO.gT rfl rfl rfl ?_; refine GO.loadQ rfl rfl rfl (Tk.t (Tk.t Tk.h)) (by assumption) ?_; refine GO.gT rfl rfl rfl ?_; refine GO.move rfl rfl ?_; refine GO.gT rfl rfl rfl ?_; refine GO.move rfl rfl ?_; refine GO.gT rfl rfl rfl ?_; refine GO.move rfl rfl ?_; refine GO.gT rfl rfl rfl ?_; refine GO.move rfl rfl ?_; refine GO.gT rfl rfl rfl ?_)
                    refine GO.call5 rfl rfl rfl rfl rfl rfl (hcall) (Tks.c (Tk.t (Tk.t Tk.h)) (Tks.c Tk.h Tks.n)) ?_
                    rintro _ _ ⟨b, rfl, hb, rfl⟩
                    cases b with
                    | false =>
                      (refine GO.pickT rfl rfl rfl ?_; refine GO.nil ?_; refine kthen_n ?_; refine G.condF rfl rfl ?_; refine G.skip ?_; refine kblock_n ?_; refine kthen_n ?_; refine G.region ?_; refine GO.move rfl rfl ?_; refine GO.addi rfl rfl rfl (by omega) ?_; refine GO.assign rfl rfl ?_; refine GO.nil ?_; refine kthen_n ?_)
                      refine ⟨j + 1, K3, more3, ⟨by omega, by omega, inv3.imp fun h e => ⟨h.1, fun y hy => ?_⟩⟩, by omega, ?_, ?_⟩
                      · by_cases ey : y = j
                        · subst ey
                          intro _ _ hc
                          rw [← e] at hc
                          exact absurd (hb.2 hc) (by simp)
                        · exact h.2 y (by omega)
                      · (refine SubE.c rfl rfl ?_; refine SubE.c rfl rfl ?_; refine SubE.c rfl rfl ?_; refine SubE.c rfl rfl ?_; refine SubE.c rfl rfl ?_; refine SubE.c rfl rfl ?_; refine SubE.c rfl rfl ?_; refine SubE.c rfl rfl ?_; exact SubE.n)
                      · ((refine Sb.c (Tk.t Tk.h) ?_; refine Sb.c (Tk.t Tk.h) ?_; refine Sb.c Tk.h ?_); (exact Sb.r))
                    | true =>
                      have hd := come_der hok hwk inv3.sd hpm hj1 (by omega) (hb.1 rfl)
                      dsimp only at hd
                      (refine GO.pickT rfl rfl rfl ?_; refine GO.nil ?_; refine kthen_n ?_; refine G.condT rfl rfl ?_; refine G.seq ?_; refine G.region ?_; refine GO.move rfl rfl ?_; refine GO.move rfl rfl ?_; refine GO.idxS rfl rfl rfl ⟨rfl, by omega⟩ ?_)
                      refine GO.store1 (l := boolsV K3 N) rfl rfl rfl (Tk.t Tk.h) (by rw [rowV_len]; omega) ?_
                      rw [rowV_set]
                      (refine GO.nil ?_; refine kthen_n ?_; refine G.region ?_; refine GO.assign rfl rfl ?_; refine GO.nil ?_; refine kblock_n ?_; refine kthen_n ?_; refine G.region ?_; refine GO.move rfl rfl ?_; refine GO.addi rfl rfl rfl (by omega) ?_; refine GO.assign rfl rfl ?_; refine GO.nil ?_; refine kthen_n ?_)
                      refine ⟨j + 1, upd K3 x true, true, ⟨by omega, by omega, ?_⟩, by omega, ?_, ?_⟩
                      · rw [← hX] at hK3 ⊢
                        exact inv3.new hN (by omega) (by omega) (by omega) hK3 hd
                      · (refine SubE.c rfl rfl ?_; refine SubE.c rfl rfl ?_; refine SubE.c rfl rfl ?_; refine SubE.c rfl rfl ?_; refine SubE.c rfl rfl ?_; refine SubE.c rfl rfl ?_; refine SubE.c rfl rfl ?_; refine SubE.c rfl rfl ?_; exact SubE.n)
                      · ((refine Sb.c Tk.h ?_; refine Sb.c (Tk.t Tk.h) ?_; refine Sb.c Tk.h ?_); (exact Sb.r))
                · (refine G.exit ?_; refine kthen_x ?_; refine kthen_x ?_; refine kblock_x ?_; refine kblock_n ?_; refine kthen_n ?_; refine G.region ?_; refine GO.move rfl rfl ?_; refine GO.addi rfl rfl rfl (by omega) ?_; refine GO.assign rfl rfl ?_; refine GO.nil ?_; refine kthen_n ?_)
                  refine ⟨i + 1, K3, more3, ⟨by omega, inv3.imp fun h e => ⟨h.1.1, fun x hx => ?_⟩⟩, by omega, ?_, ?_⟩
                  · by_cases ex : x = i
                    · subst ex
                      intro y h1 h2
                      exact h.2 y (by omega) h1 h2
                    · exact h.1.2 x (by omega)
                  · (refine SubE.c rfl rfl ?_; refine SubE.c rfl rfl ?_; refine SubE.c rfl rfl ?_; refine SubE.c rfl rfl ?_; refine SubE.c rfl rfl ?_; refine SubE.c rfl rfl ?_; refine SubE.c rfl rfl ?_; exact SubE.n)
                  · ((refine Sb.c Tk.h ?_; refine Sb.c Tk.h ?_; refine Sb.c Tk.h ?_); (exact Sb.r))
            · (refine G.exit ?_; refine kthen_x ?_; refine kthen_x ?_; refine kblock_x ?_; refine kblock_n ?_; refine kthen_n ?_; refine G.region ?_; refine GO.move rfl rfl ?_; refine GO.addi rfl rfl rfl (by omega) ?_; refine GO.assign rfl rfl ?_; refine GO.nil ?_; refine kthen_n ?_)
              refine ⟨p + 1, K2, more2, ⟨by omega, inv2.imp fun h e r pr hr hrp => ?_⟩, by omega, ?_, ?_⟩
              · by_cases er : r = p
                · subst er
                  rw [hpk] at hrp
                  injection hrp with hrp
                  subst hrp
                  intro x y h1 h2
                  exact h.2 x (by omega) y h1 h2
                · exact h.1 r pr (by omega) hrp
              · (refine SubE.c rfl rfl ?_; refine SubE.c rfl rfl ?_; refine SubE.c rfl rfl ?_; refine SubE.c rfl rfl ?_; refine SubE.c rfl rfl ?_; refine SubE.c rfl rfl ?_; exact SubE.n)
              · ((refine Sb.c Tk.h ?_; refine Sb.c Tk.h ?_; refine Sb.c Tk.h ?_); (exact Sb.r))
        · have : p = C.prods.length := by omega
          subst this
          (refine G.exit ?_; refine kthen_x ?_; refine kthen_x ?_; refine kblock_x ?_; refine kblock_n ?_; refine kthen_n ?_)
          refine ⟨K1, more1, ⟨inv1.sd, fun h pr hprm i j => ?_⟩, ?_, ?_, ?_⟩
          · rcases inv1.st with ⟨_, e, hd⟩ | ⟨e, _⟩
            · obtain ⟨r, hr⟩ := List.getElem?_of_mem hprm
              rw [e]
              exact hd r pr (List.getElem?_eq_some_iff.1 hr).1 hr i j
            · rw [h] at e; cases e
          · rcases inv1.st with ⟨e1, e2, _⟩ | ⟨e1, e2⟩
            · rw [e1, e2]; simp
            · rw [e1]; simp; omega
          · (refine SubE.c rfl rfl ?_; refine SubE.c rfl rfl ?_; refine SubE.c rfl rfl ?_; refine SubE.c rfl rfl ?_; refine SubE.c rfl rfl ?_; exact SubE.n)
          · ((refine Sb.c Tk.h ?_; refine Sb.c Tk.h ?_; refine Sb.c Tk.h ?_); (exact Sb.r))
end Go.Proofs.Ytjokibfldngkeaa
