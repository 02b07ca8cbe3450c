/-
  The law DeriveBegins.
-/
import Derived.Test.YtjokibfldngkeaaDN
namespace Go.Proofs.Ytjokibfldngkeaa
open Go
theorem ImpS.un2 (x y q : HP) (F : List HP) : ImpS (star [y, star [x, q]] :: F) (q :: F) := fun l w s => by
  have s1 : sat ([y, star [x, q]] ++ (F ++ l)) w := sat_flat.1 s
  have s2 : sat (star [x, q] :: (F ++ l)) w := (Sb.s Sb.r).sat s1
  have s3 : sat ([x, q] ++ (F ++ l)) w := sat_flat.1 s2
  exact (Sb.s Sb.r : Sb (q :: (F ++ l)) (x :: q :: (F ++ l))).sat s3
attribute [local irreducible] G GO GR GT Fn FnV pt init exs pur sat own ImpS symsV wordV natL
set_option maxHeartbeats 8000000 in
theorem dbegins_law (q : HP) (v wv : Value) (C : CnfD) (nt : Int) (w : List Int) (hv : CnfR q v C) (hz : Fits C) (hw : WordR q wv w) :
    Fn Try.prog 4 #[v, i64 nt, wv] [q] (fun r Q => r = .bool true ∧ Q = [q]) := by
  obtain ⟨D, hD⟩ := der_ex C w
  have hcopy := fun (z : HP) (hs : Sup q z) => copy_spec z v C (hv.sup hs) hz
  have eB := fun (z : HP) (c : Value) (hc : CnfR z c C) (hs : Sup q z) => pbegins_spec z c C hc hz nt w wv (hw.sup hs) D hD
  have eW := fun (z : HP) (c : Value) (hc : CnfR z c C) (hs : Sup q z) => pwho_spec z c C hc hz w wv (hw.sup hs) D hD
  have rB := fun (z : HP) (hs : Sup q z) => rbegins_spec z v C (hv.sup hs) hz nt w wv (hw.sup hs) D hD
  have rW := fun (z : HP) (hs : Sup q z) => rwho_spec z v C (hv.sup hs) hz w wv (hw.sup hs) D hD
  have bB : ¬ 1000000 < (if askE C nt w.length = 0 then natL (fun k => D nt 0 k) (w.length + 1) else []).length := by
    split
    · rename_i h
      have h1 := (askE_zero h).2.2.2.2
      have h2 := natL_len (fun k => D nt 0 k) (w.length + 1)
      omega
    · simp
  have bW : ¬ 1000000 < (if askE C 0 w.length = 0 then natL (fun a => D (a : Int) 0 w.length) C.nts.toNat else []).length := by
    split
    · rename_i h
      have h1 := okC_nts (askE_zero h).1
      have h2 := natL_len (fun a => D (a : Int) 0 w.length) C.nts.toNat
      omega
    · simp
  generalize (if askE C nt w.length = 0 then natL (fun k => D nt 0 k) (w.length + 1) else []) = lb at eB rB bB
  generalize (if askE C 0 w.length = 0 then natL (fun a => D (a : Int) 0 w.length) C.nts.toNat else []) = lw at eW rW bW
  generalize askE C nt w.length = e at eB rB
  generalize askE C 0 w.length = e' at eW rW
  have sB := sameI_spec lb bB
  have sW := sameI_spec lw bW
  obtain ⟨pv, rfl, hp⟩ := hv
  obtain ⟨ap, cp, rfl⟩ := hp.form
  obtain ⟨aw, cw, rfl⟩ := hw.form
  have de : decide (e = e) = true := decide_eq_true rfl
  have de' : decide (e' = e') = true := decide_eq_true rfl
  refine Fn.mk2 Try.func4 rfl rfl fun w0 F => ?_
  (refine G.seq ?_; refine G.region ?_; refine GO.box rfl rfl rfl fun b3 => ?_; refine GO.assign rfl rfl ?_; refine GO.nil ?_; refine kthen_n ?_; refine G.seq ?_; refine G.region ?_; refine GO.loadW rfl rfl rfl Tk.h rfl ?_)
  refine GO.call1 rfl rfl (hcopy q (Sup.refl q)) (Tks.c (Tk.t Tk.h) Tks.n) ?_
  rintro c _ ⟨z, hz1, rfl⟩
  refine GO.merge (x := z) (y := q) (Tks.c Tk.h (Tks.c Tk.h Tks.n)) ?_
  have h1 : Sup q (star [z, q]) := Sup.right z q
  (refine GO.move rfl rfl ?_; refine GO.move rfl rfl ?_)
  refine GO.call3 rfl rfl rfl rfl (eB (star [z, q]) c (hz1.sup (Sup.left z q)) h1) (Tks.c Tk.h Tks.n) ?_
  rintro _ _ ⟨u1, l1, rfl, rfl, rfl⟩
  (refine GO.move rfl rfl ?_; refine GO.extract rfl rfl rfl ?_; refine GO.extract rfl rfl rfl ?_; refine GO.assign rfl rfl ?_; refine GO.assign rfl rfl ?_; refine GO.nil ?_; refine kthen_n ?_; refine G.seq ?_; refine G.region ?_; refine GO.loadW rfl rfl rfl (Tk.t (Tk.t Tk.h)) rfl ?_)
  refine GO.call1 rfl rfl (hcopy (star [z, q]) h1) (Tks.c (Tk.t Tk.h) Tks.n) ?_
  rintro c2 _ ⟨y, hy1, rfl⟩
  refine GO.merge (x := y) (y := star [z, q]) (Tks.c Tk.h (Tks.c Tk.h Tks.n)) ?_
  have h2 : Sup q (star [y, star [z, q]]) := h1.trans (Sup.right y _)
  (refine GO.move rfl rfl ?_)
  refine GO.call2 rfl rfl rfl (eW (star [y, star [z, q]]) c2 (hy1.sup (Sup.left y _)) h2) (Tks.c Tk.h Tks.n) ?_
  rintro _ _ ⟨u2, l2, rfl, rfl, rfl⟩
  (refine GO.move rfl rfl ?_; refine GO.extract rfl rfl rfl ?_; refine GO.extract rfl rfl rfl ?_; refine GO.assign rfl rfl ?_; refine GO.assign rfl rfl ?_; refine GO.nil ?_; refine kthen_n ?_; refine G.seq ?_; refine G.region ?_; refine GO.loadW rfl rfl rfl (Tk.t (Tk.t (Tk.t Tk.h))) rfl ?_; refine GO.move rfl rfl ?_; refine GO.move rfl rfl ?_)
  refine GO.call3 rfl rfl rfl rfl (rB (star [y, star [z, q]]) h2) (Tks.c (Tk.t Tk.h) Tks.n) ?_
  rintro _ _ ⟨u3, l3, rfl, rfl, rfl⟩
  (refine GO.move rfl rfl ?_; refine GO.extract rfl rfl rfl ?_; refine GO.extract rfl rfl rfl ?_; refine GO.assign rfl rfl ?_; refine GO.assign rfl rfl ?_; refine GO.nil ?_; refine kthen_n ?_; refine G.seq ?_; refine G.region ?_; refine GO.loadW rfl rfl rfl (Tk.t (Tk.t (Tk.t (Tk.t Tk.h)))) rfl ?_; refine GO.move rfl rfl ?_)
  refine GO.call2 rfl rfl rfl (rW (star [y, star [z, q]]) h2) (Tks.c (Tk.t Tk.h) Tks.n) ?_
  rintro _ _ ⟨u4, l4, rfl, rfl, rfl⟩
  (refine GO.move rfl rfl ?_; refine GO.extract rfl rfl rfl ?_; refine GO.extract rfl rfl rfl ?_; refine GO.assign rfl rfl ?_; refine GO.assign rfl rfl ?_; refine GO.nil ?_; refine kthen_n ?_; refine G.seq ?_; refine G.region ?_)
  refine GO.call0 rfl (dhead_spec) Tks.n ?_
  rintro _ _ ⟨rfl, rfl⟩
  (refine GO.move rfl rfl ?_; refine GO.gT rfl rfl rfl ?_; refine GO.move rfl rfl ?_; refine GO.gT rfl rfl rfl ?_; refine GO.move rfl rfl ?_; refine GO.gT rfl rfl rfl ?_; refine GO.eqT rfl rfl rfl rfl ?_; refine GO.pickT rfl rfl rfl ?_; refine GO.move rfl rfl ?_; refine GO.gT rfl rfl rfl ?_; refine GO.move rfl rfl ?_; refine GO.gT rfl rfl rfl ?_; refine GO.move rfl rfl ?_; refine GO.gT rfl rfl rfl ?_; refine GO.eqT rfl rfl rfl rfl ?_; refine GO.pickT rfl rfl rfl ?_; refine GO.move rfl rfl ?_; refine GO.gT rfl rfl rfl ?_; refine GO.move rfl rfl ?_; refine GO.gT rfl rfl rfl ?_; refine GO.move rfl rfl ?_; refine GO.gT rfl rfl rfl ?_)
  refine GO.call2 rfl rfl rfl (sB u1 u3) (Tks.c (Tk.t (Tk.t (Tk.t (Tk.t Tk.h)))) (Tks.c (Tk.t (Tk.t Tk.h)) Tks.n)) ?_
  rintro _ _ ⟨rfl, rfl⟩
  (refine GO.pickT rfl rfl rfl ?_; refine GO.move rfl rfl ?_; refine GO.gT rfl rfl rfl ?_; refine GO.move rfl rfl ?_; refine GO.gT rfl rfl rfl ?_; refine GO.move rfl rfl ?_; refine GO.gT rfl rfl rfl ?_)
  refine GO.call2 rfl rfl rfl (sW u2 u4) (Tks.c (Tk.t (Tk.t (Tk.t (Tk.t Tk.h)))) (Tks.c (Tk.t (Tk.t Tk.h)) Tks.n)) ?_
  rintro _ _ ⟨rfl, rfl⟩
  (refine GO.pickT rfl rfl rfl ?_; refine GO.assign rfl rfl ?_; refine GO.nil ?_; refine kthen_n ?_; refine G.ret ?_)
  refine KF2.r1 rfl (RV.t rfl) ⟨rfl, rfl⟩ (ImpS.trans (ImpS.sb (M := star [y, star [z, q]] :: F) ?_) (ImpS.un2 z y q F))
  ((refine Sb.c (Tk.t (Tk.t (Tk.t (Tk.t Tk.h)))) ?_); (refine Sb.s ?_; refine Sb.s ?_; refine Sb.s ?_; refine Sb.s ?_; refine Sb.s ?_; exact Sb.r))
end Go.Proofs.Ytjokibfldngkeaa
