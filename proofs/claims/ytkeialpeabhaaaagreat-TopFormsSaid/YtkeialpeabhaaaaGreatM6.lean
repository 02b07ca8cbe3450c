/-
  The law TopForms, part 6.
-/
import Derived.Test.YtkeialpeabhaaaaGreatM5
import Derived.Laws.IdiomStrings
import Derived.Test.YtkeialpeabhaaaaGreatRows
import Derived.WalkKit
import Derived.ProofKit
import Derived.OpenShut
import Derived.ChangeOld
import Derived.ChangeSame
import Derived.SizedLaws
import Derived.ChangeMaps5
import Derived.Deep.Slices
namespace Go.Proofs.YtkeialpeabhaaaaGreat
open Go
set_option synthInstance.maxHeartbeats 0
set_option synthInstance.maxSize 100000
set_option maxHeartbeats 128000000
set_option maxRecDepth 40000
set_option linter.all false
section
theorem qJ:∀ (b:List cc) (st:WkS) (s:cc),cI st (b++[s])=((dz (cI st b).1 s).1,(cI st b).2++[(dz (cI st b).1 s).2])
 | [],st,s=>rfl
 | x::b,st,s=>by
  have ih:=qJ b (dz st x).1 s
  show ((cI (dz st x).1 (b++[s])).1,(dz st x).2::(cI (dz st x).1 (b++[s])).2)=_
  rw [ih]
  rfl
theorem xr (st:WkS) (s:cc):st.nts≤(dz st s).1.nts∧(dz st s).1.nts≤st.nts+1∧(dz st s).1.prods.length≤st.prods.length+1:=by
 unfold dz
 split
 ·split
  ·dsimp only;exact ⟨Int.le_refl _,by omega,by omega⟩
  ·exact ⟨by show st.nts≤st.nts+1;omega,Int.le_refl _,by show (st.prods++_).length≤_;rw [List.length_append];exact Nat.le_refl _⟩
 ·dsimp only;exact ⟨Int.le_refl _,by omega,by omega⟩
theorem nE:∀ (b:List cc) (st:WkS),st.nts≤(cI st b).1.nts∧(cI st b).1.nts≤st.nts+b.length∧(cI st b).1.prods.length≤st.prods.length+b.length∧(cI st b).2.length=b.length
 | [],st=>⟨Int.le_refl _,by show st.nts≤st.nts+((0:Nat):Int);omega,Nat.le_refl _,rfl⟩
 | s::b,st=>by
  obtain ⟨h1,h2,h3⟩:=xr st s
  obtain ⟨k1,k2,k3,k4⟩:=nE b (dz st s).1
  refine ⟨by show st.nts≤(cI (dz st s).1 b).1.nts;omega,?_,?_,?_⟩
  ·show (cI (dz st s).1 b).1.nts≤_;rw [List.length_cons];omega
  ·show (cI (dz st s).1 b).1.prods.length≤_;rw [List.length_cons];omega
  ·show (cI (dz st s).1 b).2.length+1=_;rw [k4];rfl
attribute [local irreducible] bO cz G GO GR GT GW Fn FnX FnV FnXV Dfr pt init exs pur sat own ImpS az aP cO Pr.symsV fa mkS fj
theorem y2 (bm mb:Nat) (st:WkS) (q:HP) (v:Value) (b:List cc) (hb:Pr.SymsR q v b) (h0:0≤st.nts) (hn:¬ 2048 < st.nts) (hl:¬ 1024 < b.length) (hp:¬ 8388608 < st.prods.length) :
  Fn Tryz.prog 109 #[ah bm,v] [mkS bm mb st,q] (fun r Q=>Q=[own 3 1 b.length r ((cI st b).2.map i64),mkS bm mb (cI st b).1,q]):=by
 have hhelp:=fun st' h=>lx bm mb st' h
 have hput:=fun st' A q' v' b' h1 h2=>ke bm mb st' A q' v' b' h1 h2
 obtain ⟨a,cap,rfl⟩:=hb.form
 refine Fn.mk2 Tryz.func109 rfl rfl fun w0 F=>?_
 refine G.ownNil (T:=3) (sz:=1) ?_
 apply Ru
 refine G.loopI (σ:=Nat × Value) (fun x=>[(0,ah bm),(5,x.2),(11,.slice a b.length cap),(12,i64 (b.length:Nat)),(13,i64 (x.1:Nat))]) (fun x=>own 3 1 x.1 x.2 ((cI st (b.take x.1)).2.map i64)::mkS bm mb (cI st (b.take x.1)).1::q::F) (fun x=>x.1≤b.length) (fun x=>b.length - x.1) (0,.slice none 0 0) (Nat.zero_le _) ?_ ?_ ?_
 ·exact SE rfl
 ·rw [List.take_zero]
  exact ImpS.sb (by ((refine Sb.c Tk.h ?_;refine Sb.c Tk.h ?_;exact SB);skip))
 rintro ⟨i,v5⟩ hi
 dsimp only at hi ⊢
 apply Ru
 by_cases hlt:i < b.length
 ·have d1:decide ((i:Int) < (b.length:Int))=true:=decide_eq_true (by omega)
  obtain ⟨s,hs⟩:∃ s,b[i]?=some s:=⟨_,List.getElem?_eq_getElem hlt⟩
  obtain ⟨bb,o,rfl,_,r1,r2⟩:=hb.at hs
  obtain ⟨g1,g2,g3,g4⟩:=nE (b.take i) st
  have hsn:=qJ (b.take i) st s
  rw [← aG hs] at hsn
  rw [List.length_take,Nat.min_eq_left hi] at g2 g3 g4
  generalize hX:cI st (b.take i)=X at *
  obtain ⟨st1,ks⟩:=X
  dsimp only at g1 g2 g3 g4 ⊢
  obtain ⟨c,n⟩:=s
  dsimp only at r1 r2
  (refine scT ?_;refine six ?_;refine sl2 (by assumption) (by assumption) ?_;refine sal fun b7=>?_;apply Ru)
  cases c with
  | false=>
   have hw:dz st1 (false,n)=(st1,n):=by unfold dz;rw [if_neg Bool.false_ne_true]
   apply Ru
   refine GO.buildSlice1 (n:=1) rfl rfl (fun v hv=>by rw [List.mem_singleton.1 hv];rfl) rfl ⟨by decide,by decide⟩ fun bs8=>?_
   refine GO.appendOwn (m:=1) (news:=[i64 n]) rfl rfl rfl (Tk.t (Tk.t Tk.h)) Tk.h rfl (by simp [Value.oneCell']) ⟨by decide,rfl⟩ Nat.one_pos (by unfold maxLen;omega) (by omega) fun v8=>?_
   (apply Ru;refine sad ?_)
   refine ⟨(i+1,v8),hlt,by dsimp only;omega,?_,ImpS.sb ?_⟩
   ·exact SE rfl
   ·dsimp only
    rw [hsn,hw]
    dsimp only
    rw [List.map_append]
    ((refine Sb.c Tk.h ?_;exact SB);skip)
  | true=>
   refine G.back (ImpS.sb (M:=mkS bm mb st1::pt b7 (row [.bool true,i64 n] 85)::own 3 1 i v5 (ks.map i64)::q::F) SB) ?_
   refine G.mkSOut fun pv xs zc hC o1=>?_
   have hxl:=hC.len
   apply Ru
   cases hl:fj st1.labs n with
   | some k=>
    have hlook:rL n st1.labs=.tuple #[i64 k,.bool true]:=by unfold rL;rw [hl]
    have hw:dz st1 (true,n)=(st1,k):=by unfold dz;rw [if_pos rfl,hl]
    refine dr 12 ?_
    apply Ru
    apply GQ.step;focus (intro Z;refine GO.lookupJ rfl rfl rfl (Tk.t (Tk.t Tk.h)) ?_;exact KQ.z)
    rw [hlook]
    apply Ru
    (refine G.condF rfl rfl ?_;apply Ru)
    refine GO.back (ImpS.trans (ImpS.sb (M:=own 82 2 xs.length pv (Pr.pvs xs)::pt bm (gy st1.nts pv mb st1.emp)::pt mb (fa st1.labs)::zc::pt b7 (row [.bool true,i64 n] 85)::own 3 1 i v5 (ks.map i64)::q::F) SB) (gx (st:=st1) hC o1)) ?_
    refine GO.buildSlice1 (n:=1) rfl rfl (fun v hv=>by rw [List.mem_singleton.1 hv];rfl) rfl ⟨by decide,by decide⟩ fun bs8=>?_
    refine GO.appendOwn (m:=1) (news:=[i64 k]) rfl rfl rfl (Tk.t (Tk.t (Tk.t Tk.h))) Tk.h rfl (by simp [Value.oneCell']) ⟨by decide,rfl⟩ Nat.one_pos (by unfold maxLen;omega) (by omega) fun v8=>?_
    (apply Ru;refine sad ?_)
    refine ⟨(i+1,v8),hlt,by dsimp only;omega,?_,ImpS.sb ?_⟩
    ·exact SE rfl
    ·dsimp only
     rw [hsn,hw]
     dsimp only
     rw [List.map_append]
     ((refine Sb.c Tk.h ?_;exact SB);skip)
   | none=>
    have hlook:rL n st1.labs=.tuple #[i64 0,.bool false]:=by unfold rL;rw [hl]
    have hw:dz st1 (true,n)=(⟨st1.nts+1,st1.prods++[(st1.nts,[(true,n)])],st1.labs++[(n,st1.nts)],st1.emp⟩,st1.nts):=by unfold dz;rw [if_pos rfl,hl]
    refine dr 12 ?_
    apply Ru
    apply GQ.step;focus (intro Z;refine GO.lookupJ rfl rfl rfl (Tk.t (Tk.t Tk.h)) ?_;exact KQ.z)
    rw [hlook]
    apply Ru
    (refine G.condT rfl rfl ?_;apply Ru)
    refine GO.back (ImpS.trans (ImpS.sb (M:=own 82 2 xs.length pv (Pr.pvs xs)::pt bm (gy st1.nts pv mb st1.emp)::pt mb (fa st1.labs)::zc::pt b7 (row [.bool true,i64 n] 85)::own 3 1 i v5 (ks.map i64)::q::F) SB) (gx (st:=st1) hC o1)) ?_
    refine scl (hhelp st1 ⟨by omega,by omega⟩) ?_
    rintro _ _ ⟨rfl,rfl⟩
    refine GO.mkSOut Tk.h fun pv xs zc hC o1=>?_
    apply Ru
    refine dr 7 ?_
    (apply Ru;(apply GQ.step;focus (intro Z;refine GO.load1 rfl rfl rfl (Tk.t (Tk.t (Tk.t (Tk.t Tk.h)))) rfl ?_;exact KQ.z));apply Ru)
    refine GO.insertJ rfl rfl rfl (Tk.t (Tk.t Tk.h)) hl ?_
    (apply Ru;refine GO.loadW rfl rfl rfl (Tk.t (Tk.t (Tk.t (Tk.t Tk.h)))) rfl ?_)
    refine GO.buildSlice1 (n:=2) (v1:=.agg #[.bool true,i64 n]) rfl rfl (fun v hv=>by rw [List.mem_singleton.1 hv];rfl) rfl ⟨by decide,by decide⟩ fun bs9=>?_
    refine GO.ownIn (n:=1) (sz:=2) Tk.h rfl (by decide) ?_
    refine GO.ownRd (n:=1) (sz:=2) Tk.h fun q9 h9=>?_
    have h9:Pr.SymsR q9 (.slice (some ⟨bs9,0,none⟩) 1 1) [(true,n)]:=by unfold Pr.SymsR Pr.symsV;exact h9
    refine GO.back (ImpS.trans (ImpS.sb (M:=own 82 2 xs.length pv (Pr.pvs xs)::pt bm (gy (st1.nts+1) pv mb st1.emp)::pt mb (fa (st1.labs++[(n,st1.nts)]))::zc::q9::pt b7 (row [.bool true,i64 n] 85)::own 3 1 i v5 (ks.map i64)::q::F) SB) (gx (st:=⟨st1.nts+1,st1.prods,st1.labs++[(n,st1.nts)],st1.emp⟩) hC o1)) ?_
    refine scl (hput ⟨st1.nts+1,st1.prods,st1.labs++[(n,st1.nts)],st1.emp⟩ st1.nts q9 (.slice (some ⟨bs9,0,none⟩) 1 1) [(true,n)] h9 (by dsimp only;omega)) ?_
    rintro _ _ rfl
    apply Ru
    refine GO.buildSlice1 (n:=1) rfl rfl (fun v hv=>by rw [List.mem_singleton.1 hv];rfl) rfl ⟨by decide,by decide⟩ fun bs8=>?_
    refine GO.appendOwn (m:=1) (news:=[i64 st1.nts]) rfl rfl rfl (Tk.t (Tk.t (Tk.t Tk.h))) Tk.h rfl (by simp [Value.oneCell']) ⟨by decide,rfl⟩ Nat.one_pos (by unfold maxLen;omega) (by omega) fun v8=>?_
    (apply Ru;refine sad ?_)
    refine ⟨(i+1,v8),hlt,by dsimp only;omega,?_,ImpS.sb ?_⟩
    ·exact SE rfl
    ·dsimp only
     rw [hsn,hw]
     dsimp only
     rw [List.map_append]
     ((refine Sb.c Tk.h ?_;exact SB);skip)
 ·have d1:decide ((i:Int) < (b.length:Int))=false:=decide_eq_false (by omega)
  have hib:i=b.length:=by omega
  subst hib
  rw [List.take_length]
  refine scF ?_
  exact kr1 rfl rfl
end
section
attribute [local irreducible] bO cz G GO GR GT GW Fn FnX FnV FnXV Dfr pt init exs pur sat own ImpS az aP cO Pr.symsV fa mkS fj
theorem mQ (bm mb:Nat) (st:WkS) (A x y:Int) (q:HP) (v:Value) (hq:Sl q v 2 1 [i64 x,i64 y]) (hp:¬ 16777216 < st.prods.length) :
  Fn Tryz.prog 111 #[ah bm,i64 A,v] [mkS bm mb st,q] (fun _ Q=>Q=[mkS bm mb (eV st A [x,y]),q]):=by
 have hput:=fun q' v' b' h1=>ke bm mb st A q' v' b' h1 hp
 obtain ⟨a,cap,rfl,_,hr⟩:=hq
 obtain ⟨b2,o2,rfl,hr2⟩:=hr (by decide)
 have r0:=hr2 0 (i64 x) rfl
 have r1:=hr2 1 (i64 y) rfl
 have hst:eV st A [x,y]=⟨st.nts,st.prods++[(A,[(false,x),(false,y)])],st.labs,st.emp⟩:=by
  unfold eV gR
  rw [show ([x,y].length - 2:Nat)=0 from rfl,Int.natCast_zero,Int.add_zero]
 rw [hst]
 refine Fn.mk2 Tryz.func111 rfl rfl fun w0 F=>?_
 apply Ru
 refine GO.buildSlice1 (n:=1) rfl rfl (fun v hv=>by rw [List.mem_singleton.1 hv];rfl) rfl ⟨by decide,by decide⟩ fun bs=>?_
 apply Ru
 refine GO.mkBound rfl rfl ?_
 (apply Ru;refine ssu ?_)
 refine G.loopI (σ:=Unit) (fun _=>[(0,ah bm),(2,.slice (some ⟨b2,o2,none⟩) 2 cap),(6,.slice (some ⟨bs,0,none⟩) 1 1),(17,i64 ((0:Nat):Int)),(18,i64 ((0:Nat):Int))]) (fun _=>pt bs (row [i64 A] 3)::mkS bm mb st::q::F) (fun _=>True) (fun _=>0) () trivial ?_ ?_ ?_
 ·exact SE rfl
 ·exact ImpS.sb (by ((refine Sb.c Tk.h ?_;exact SB);skip))
 intro _ _
 (apply Ru;refine G.condF rfl rfl ?_;apply Ru;refine ssu ?_)
 refine GO.sliceHi (l:=0) rfl rfl rfl ⟨rfl,by omega⟩ ?_
 apply Ru
 refine G.loopI (σ:=Unit) (fun _=>[(0,ah bm),(2,.slice (some ⟨b2,o2,none⟩) 2 cap),(6,.slice (some ⟨bs,0,none⟩) 1 1),(8,i64 ((0:Nat):Int)),(32,i64 ((0:Nat):Int)),(33,i64 ((0:Nat):Int))]) (fun _=>pt bs (row [i64 A] 3)::mkS bm mb st::q::F) (fun _=>True) (fun _=>0) () trivial ?_ ?_ ?_
 ·exact SE rfl
 ·exact ImpS.sb SB
 intro _ _
 (apply Ru;refine G.condF rfl rfl ?_;apply Ru)
 refine drT 18 196608 [pt bs (row [i64 A] 3),q] ?_
 (apply Ru;refine rix ?_;refine rix ?_;refine rld (by assumption) ?_)
 apply GR.step rfl;focus (intro Z;refine GO.buildPart1 (lq _) rfl rfl ?_;exact KQ.z)
 (apply Ru;(apply GR.step rfl;focus (intro Z;refine GO.addi rfl rfl rfl (by omega) ?_;exact KQ.z));(apply GR.step rfl;focus (intro Z;refine GO.idxS (j:=1) rfl rfl rfl ⟨rfl,by simp⟩ ?_;exact KQ.z));refine rld (by assumption) ?_)
 apply GR.step rfl;focus (intro Z;refine GO.buildPart1 (lq _) rfl rfl ?_;exact KQ.z)
 apply Ru
 (repeat refine GT.skip rfl ?_)
 refine GT.step rfl ?_
 refine GO.buildSlice2 (n:=2) (v1:=.agg #[.bool false,i64 x]) (v2:=.agg #[.bool false,i64 y]) rfl rfl rfl (fun v hv=>by simp only [List.mem_cons,List.not_mem_nil,or_false] at hv;rcases hv with rfl | rfl <;> rfl) rfl ⟨by decide,by decide⟩ fun bs9=>?_
 rw [show aA [.agg #[.bool false,i64 x],.agg #[.bool false,i64 y]]=Pr.symsV [(false,x),(false,y)] by unfold Pr.symsV;rfl]
 refine GO.ownIn (n:=2) (sz:=2) Tk.h (by rw [Pr.symsV_len];rfl) (by decide) ?_
 refine GO.ownRd (n:=2) (sz:=2) Tk.h fun q9 h9=>?_
 have h9:Pr.SymsR q9 (.slice (some ⟨bs9,0,none⟩) 2 2) [(false,x),(false,y)]:=h9
 refine gtn ?_
 refine GT.step rfl ?_
 refine scl (hput q9 (.slice (some ⟨bs9,0,none⟩) 2 2) [(false,x),(false,y)] h9) ?_
 rintro _ _ rfl
 refine gtn ?_
 refine KF2.n0 rfl rfl (ImpS.sb ?_)
 exact SB
end
section
theorem oM {b:List cc} (h:jr b=true):Pr.formB b=1∨Pr.formB b=2:=by
 match b,h with
 | [],_=>exact .inl rfl
 | [(true,n)],_=>exact .inr rfl
 | [(false,n)],h=>exact absurd h (by show ¬ false=true;decide)
 | _::_::_,h=>exact absurd h (by show ¬ false=true;decide)
theorem rC {b:List cc} (h:¬ jr b=true) (hl:b.length≤2):(Pr.formB b=0∨Pr.formB b=3)∧1≤b.length:=by
 match b,h,hl with
 | [],h,_=>exact absurd rfl h
 | [(true,n)],h,_=>exact absurd rfl h
 | [(false,n)],_,_=>exact ⟨.inl rfl,Nat.le_refl _⟩
 | [(true,m),(c,n)],_,_=>exact ⟨.inl rfl,by simp⟩
 | [(false,m),(true,n)],_,_=>exact ⟨.inl rfl,by simp⟩
 | [(false,m),(false,n)],_,_=>exact ⟨.inr rfl,by simp⟩
 | _::_::_::_,_,hl=>exact absurd hl (by simp)
attribute [local irreducible] bO cz G GO GR GT GW Fn FnX FnV FnXV Dfr pt init exs pur sat own ImpS az aP cO Pr.symsV fa mkS fj cI bD eV
theorem y8 (bm mb:Nat) (st:WkS) (p:PrW) (q:HP) (v:Value) (hb:Pr.SymsR q v p.2) (h0:0≤st.nts) (hn:¬ 2000 < st.nts) (hl:p.2.length≤2) (hp:¬ 8388600 < st.prods.length) :
  Fn Tryz.prog 44 #[ah bm,.agg #[i64 p.1,v]] [mkS bm mb st,q] (fun _ Q=>Q=[mkS bm mb (md st p),q]):=by
 have hof:=Pr.of_spec q v p.2 hb (by omega)
 have hcl:=Pr.cloneS_spec q v p.2 hb (by omega)
 have hns:=y2 bm mb st q v p.2 hb h0 (by omega) (by omega) (by omega)
 obtain ⟨g1,g2,g3,g4⟩:=nE p.2 st
 obtain ⟨A,b⟩:=p
 dsimp only at *
 obtain ⟨a,cap,rfl⟩:=hb.form
 refine Fn.mk2 Tryz.func44 rfl rfl fun w0 F=>?_
 unfold md
 dsimp only
 (apply Ru;refine sbx fun b3=>?_;apply Ru)
 refine scl (hof) ?_
 rintro _ _ ⟨rfl,rfl⟩
 by_cases hw:jr b=true
 ·rw [if_pos hw]
  have hput:=fun q' v' h1=>ke bm mb st A q' v' b h1 (by omega)
  have hf:=oM hw
  rcases hf with hf | hf
  ·rw [hf]
   apply Ru
   refine drT 7 96 [pt b3 (row [i64 A,.slice a b.length cap] 82)] ?_
   apply Ru
   (repeat refine GT.skip rfl ?_)
   refine GT.step rfl ?_
   refine scl (hcl) ?_
   rintro v17 _ ⟨z5,h5,rfl⟩
   obtain ⟨a5,c5,rfl⟩:=h5.form
   refine gtn ?_
   refine GT.step rfl ?_
   refine scl (hput z5 (.slice a5 b.length c5) h5) ?_
   rintro _ _ rfl
   refine gtn ?_
   refine KF2.n0 rfl rfl (ImpS.sb ?_)
   exact SB
  ·rw [hf]
   (apply Ru;refine G.condF rfl rfl ?_;apply Ru)
   refine drT 7 96 [pt b3 (row [i64 A,.slice a b.length cap] 82)] ?_
   apply Ru
   (repeat refine GT.skip rfl ?_)
   refine GT.step rfl ?_
   refine scl (hcl) ?_
   rintro v17 _ ⟨z5,h5,rfl⟩
   obtain ⟨a5,c5,rfl⟩:=h5.form
   refine gtn ?_
   refine GT.step rfl ?_
   refine scl (hput z5 (.slice a5 b.length c5) h5) ?_
   rintro _ _ rfl
   refine gtn ?_
   refine KF2.n0 rfl rfl (ImpS.sb ?_)
   exact SB
 ·rw [if_neg hw]
  obtain ⟨hf,hb1⟩:=rC hw hl
  have d1:decide (Pr.formB b=1)=false:=decide_eq_false (by omega)
  have d2:decide (Pr.formB b=2)=false:=decide_eq_false (by omega)
  generalize hX:cI st b=X at *
  obtain ⟨st1,ks⟩:=X
  dsimp only at g1 g2 g3 g4 hns ⊢
  (apply Ru;refine scF ?_;refine scF ?_)
  refine scl (hns) ?_
  rintro v22 _ rfl
  by_cases h1:ks.length=1
  ·rw [if_pos h1]
   obtain ⟨k,rfl⟩:∃ k,ks=[k]:=by
    match ks,h1 with
    | [k],_=>exact ⟨k,rfl⟩
   have hbl:b.length=1:=by rw [← g4];rfl
   rw [hbl]
   have hno:=qA bm mb st1 ⟨by omega,by omega⟩ (by omega)
   have d3:decide (((1:Nat):Int)=1)=true:=rfl
   apply Ru
   refine scl (hno) ?_
   rintro _ _ ⟨rfl,rfl⟩
   have hnl:(bD st1).1.prods.length≤st1.prods.length+1:=by
    unfold bD
    split
    ·show (st1.prods++_).length≤_;rw [List.length_append];exact Nat.le_refl _
    ·dsimp only;omega
   generalize bD st1=Y at *
   obtain ⟨st2,k2⟩:=Y
   dsimp only at hnl ⊢
   refine GO.buildSlice1 (n:=1) rfl rfl (fun v hv=>by rw [List.mem_singleton.1 hv];rfl) rfl ⟨by decide,by decide⟩ fun bs8=>?_
   refine GO.appendOwn (m:=1) (news:=[i64 k2]) rfl rfl rfl (Tk.t (Tk.t Tk.h)) Tk.h rfl (by simp [Value.oneCell']) ⟨by decide,rfl⟩ Nat.one_pos (by unfold maxLen;omega) (by omega) fun v8=>?_
   refine GO.ownRd Tk.h fun q9 h9=>?_
   have h9:Sl q9 v8 2 1 [i64 k,i64 k2]:=h9
   have hch:=mQ bm mb st2 A k k2 q9 v8 h9 (by omega)
   obtain ⟨a9,c9,rfl,_,_⟩:=h9
   apply Ru
   refine scl (hch) ?_
   rintro _ _ rfl
   apply Ru
   refine KF2.n0 rfl rfl (ImpS.sb ?_)
   ((refine Sb.c Tk.h ?_;exact SB);skip)
  ·rw [if_neg h1]
   have hbl:b.length=2:=by omega
   obtain ⟨k,k2,rfl⟩:∃ k k2,ks=[k,k2]:=by
    match ks,(show ks.length=2 by omega) with
    | [k,k2],_=>exact ⟨k,k2,rfl⟩
   rw [hbl]
   have d3:decide (((2:Nat):Int)=1)=false:=rfl
   refine GO.ownRd Tk.h fun q9 h9=>?_
   have h9:Sl q9 v22 2 1 [i64 k,i64 k2]:=h9
   have hch:=mQ bm mb st1 A k k2 q9 v22 h9 (by omega)
   obtain ⟨a9,c9,rfl,_,_⟩:=h9
   (apply Ru;refine G.condF rfl rfl ?_;apply Ru)
   refine scl (hch) ?_
   rintro _ _ rfl
   apply Ru
   refine KF2.n0 rfl rfl (ImpS.sb ?_)
   exact SB
end
section
def kT (s:cc):Prop:=s.1=true→0≤s.2∧s.2 < 16
structure WBd (n0:Int) (st:WkS):Prop where
 one:1≤n0
 nts:st.nts=n0+(st.labs.length:Nat)+(if st.emp=0 then 0 else 1)
 nd:(st.labs.map (·.1)).Nodup
 rng:∀ x∈st.labs,0≤x.1∧x.1 < 16
 weak:∀ p∈st.prods,Pr.weakB p.2=true
 lab:∀ p∈st.prods,∀ s∈p.2,kT s
theorem nU:∀ {l:List (Int × Int)} {n:Int},fj l n=none→n ∉ l.map (·.1)
 | [],_,_=>by simp
 | x::l,n,h=>by
  change (if n=x.1 then some x.2 else fj l n)=none at h
  by_cases e:n=x.1
  ·rw [if_pos e] at h;cases h
  ·rw [if_neg e] at h
   rw [List.map_cons,List.mem_cons,not_or]
   exact ⟨e,nU h⟩
section
variable {n0:Int} {st:WkS}
theorem WBd.few (h:WBd n0 st):st.labs.length≤16:=by
 have:=Pr.nodup_len (m:=(List.range 16).map Int.ofNat) h.nd (fun x hx=>by
  obtain ⟨y,hy,rfl⟩:=List.mem_map.1 hx
  have:=h.rng y hy
  exact List.mem_map.2 ⟨y.1.toNat,List.mem_range.2 (by omega),Int.toNat_of_nonneg this.1⟩)
 rw [List.length_map,List.length_map,List.length_range] at this
 exact this
theorem WBd.le (h:WBd n0 st):n0≤st.nts∧st.nts≤n0+17:=by
 have h1:=h.few
 have h2:=h.nts
 split at h2 <;> omega
theorem WBd.put (h:WBd n0 st) {A:Int} {b:List cc} (hw:Pr.weakB b=true) (hl:∀ s∈b,kT s):WBd n0 ⟨st.nts,st.prods++[(A,b)],st.labs,st.emp⟩:=
 ⟨h.one,h.nts,h.nd,h.rng,fun p hp=>by
  rcases List.mem_append.1 hp with hp | hp
  ·exact h.weak p hp
  ·rw [List.mem_singleton.1 hp];exact hw,fun p hp=>by
  rcases List.mem_append.1 hp with hp | hp
  ·exact h.lab p hp
  ·rw [List.mem_singleton.1 hp];exact hl⟩
theorem WBd.sym (h:WBd n0 st) {s:cc} (hs:kT s):WBd n0 (dz st s).1∧(dz st s).1.prods.length≤st.prods.length+1:=by
 refine ⟨?_,(xr st s).2.2⟩
 obtain ⟨c,n⟩:=s
 unfold dz
 cases c with
 | false=>exact h
 | true=>
  rw [if_pos rfl]
  cases hl:fj st.labs n with
  | some k=>exact h
  | none=>
   have hp:=h.put (A:=st.nts) (b:=[(true,n)]) rfl (fun s hs'=>by rw [List.mem_singleton.1 hs'];exact hs)
   refine ⟨h.one,?_,?_,fun x hx=>?_,hp.weak,hp.lab⟩
   ·show st.nts+1=n0+((st.labs++[(n,st.nts)]).length:Nat)+_
    have:=h.nts
    rw [List.length_append,List.length_cons,List.length_nil]
    dsimp only
    omega
   ·show ((st.labs++[(n,st.nts)]).map (·.1)).Nodup
    rw [List.map_append]
    exact List.nodup_append.2 ⟨h.nd,by simp,fun a ha b hb e=>by
     rw [List.map_cons,List.map_nil,List.mem_singleton] at hb
     subst hb e
     exact nU hl ha⟩
   ·rcases List.mem_append.1 hx with hx | hx
    ·exact h.rng x hx
    ·rw [List.mem_singleton.1 hx];exact hs rfl
theorem WBd.syms:∀ {b:List cc} {st:WkS},WBd n0 st→(∀ s∈b,kT s)→WBd n0 (cI st b).1∧(cI st b).1.prods.length≤st.prods.length+b.length
 | [],st,h,_=>⟨h,Nat.le_refl _⟩
 | s::b,st,h,hb=>by
  obtain ⟨h1,h2⟩:=h.sym (s:=s) (hb s (by simp))
  obtain ⟨h3,h4⟩:=WBd.syms (b:=b) h1 fun x hx=>hb x (by simp [hx])
  exact ⟨h3,by show (cI (dz st s).1 b).1.prods.length≤_;rw [List.length_cons];omega⟩
theorem WBd.none (h:WBd n0 st):WBd n0 (bD st).1∧(bD st).1.prods.length≤st.prods.length+1:=by
 have h1:=h.le;have h2:=h.one
 unfold bD
 by_cases he:st.emp=0
 ·rw [if_pos he]
  have hp:=h.put (A:=st.nts) (b:=[]) rfl (fun s hs=>by cases hs)
  refine ⟨⟨h.one,?_,h.nd,h.rng,hp.weak,hp.lab⟩,by show (st.prods++_).length≤_;rw [List.length_append];exact Nat.le_refl _⟩
  have:=h.nts
  rw [if_pos he] at this
  show st.nts+1=n0+(st.labs.length:Nat)+(if st.nts=0 then 0 else 1)
  rw [if_neg (by omega)]
  omega
 ·rw [if_neg he]
  exact ⟨h,Nat.le_succ _⟩
theorem WBd.chain (h:WBd n0 st) {A x y:Int}:WBd n0 (eV st A [x,y])∧(eV st A [x,y]).prods.length≤st.prods.length+1:=by
 have hst:eV st A [x,y]=⟨st.nts,st.prods++[(A,[(false,x),(false,y)])],st.labs,st.emp⟩:=by
  unfold eV gR
  rw [show ([x,y].length - 2:Nat)=0 from rfl,Int.natCast_zero,Int.add_zero]
 rw [hst]
 exact ⟨h.put rfl (fun s hs=>by
  simp only [List.mem_cons,List.not_mem_nil,or_false] at hs
  rcases hs with rfl | rfl
  ·intro e;cases e
  ·intro e;cases e),by show (st.prods++_).length≤_;rw [List.length_append];exact Nat.le_refl _⟩
theorem WBd.add (h:WBd n0 st) {p:PrW} (hl:p.2.length≤2) (hb:∀ s∈p.2,kT s):WBd n0 (md st p)∧(md st p).prods.length≤st.prods.length+4:=by
 unfold md
 by_cases hw:jr p.2=true
 ·rw [if_pos hw]
  have hwk:Pr.weakB p.2=true:=by
   unfold Pr.weakB
   rcases oM hw with e | e <;> rw [e] <;> rfl
  exact ⟨h.put hwk hb,by show (st.prods++_).length≤_;rw [List.length_append,List.length_cons,List.length_nil];omega⟩
 ·rw [if_neg hw]
  obtain ⟨h1,h2⟩:=h.syms hb
  have h4:=(nE p.2 st).2.2.2
  have h5:=(rC hw hl).2
  generalize cI st p.2=X at *
  obtain ⟨st1,ks⟩:=X
  dsimp only at h1 h2 h4 ⊢
  split
  ·rename_i h3
   obtain ⟨k,rfl⟩:∃ k,ks=[k]:=by
    match ks,h3 with
    | [k],_=>exact ⟨k,rfl⟩
   obtain ⟨h6,h7⟩:=h1.none
   obtain ⟨h8,h9⟩:=h6.chain (A:=p.1) (x:=k) (y:=(bD st1).2)
   exact ⟨h8,by show (eV _ _ [k,(bD st1).2]).prods.length≤_;omega⟩
  ·rename_i h3
   obtain ⟨k,k2,rfl⟩:∃ k k2,ks=[k,k2]:=by
    match ks,(show ks.length=2 by omega) with
    | [k,k2],_=>exact ⟨k,k2,rfl⟩
   obtain ⟨h8,h9⟩:=h1.chain (A:=p.1) (x:=k) (y:=k2)
   exact ⟨h8,by omega⟩
theorem WBd.all:∀ {l:List PrW} {st:WkS},WBd n0 st→(∀ p∈l,p.2.length≤2∧∀ s∈p.2,kT s)→WBd n0 (dK st l)∧(dK st l).prods.length≤st.prods.length+l.length * 4
 | [],st,h,_=>⟨h,Nat.le_refl _⟩
 | p::l,st,h,hl=>by
  obtain ⟨h1,h2⟩:=h.add (hl p (by simp)).1 (hl p (by simp)).2
  obtain ⟨h3,h4⟩:=WBd.all (l:=l) h1 fun q hq=>hl q (by simp [hq])
  refine ⟨h3,?_⟩
  show (dK (md st p) l).prods.length≤_
  rw [List.length_cons]
  omega
end
def wk0 (n:Int):WkS:=⟨n,[],[],0⟩
theorem sE {n:Int} (h:1≤n):WBd n (wk0 n):=⟨h,by show n=n+((0:Nat):Int)+0;omega,by simp [wk0],fun x hx=>(by cases hx),fun p hp=>(by cases hp),fun p hp=>(by cases hp)⟩
theorem y9 (st:WkS) {l:List PrW} {i:Nat} {p:PrW} (h:l[i]?=some p):dK st (l.take (i+1))=md (dK st (l.take i)) p:=by
 unfold dK;rw [aG h,List.foldl_append];rfl
theorem gg {C:Pr.CnfD} (h:Pr.okC C=true):(1≤C.nts∧C.nts≤1024)∧∀ p∈C.prods,(0≤p.1∧p.1 < C.nts)∧∀ s∈p.2,kT s∧0≤s.2∧(s.1=false→s.2 < C.nts):=by
 refine ⟨Pr.okC_nts h,fun p hp=>⟨Pr.okC_prod h hp,fun s hs=>?_⟩⟩
 unfold Pr.okC at h
 rw [Bool.and_eq_true] at h
 have h2:=List.all_eq_true.1 h.2 p hp
 unfold Pr.prodOK at h2
 rw [Bool.and_eq_true] at h2
 have h3:=List.all_eq_true.1 h2.2 s hs
 unfold Pr.symOK at h3
 simp only [Bool.not_eq_true',Bool.or_eq_false_iff,decide_eq_false_iff_not] at h3
 unfold kT
 cases hc:s.1
 ·rw [hc] at h3
  refine ⟨fun e=>(by cases e),by omega,fun _=>?_⟩
  have:¬ C.nts≤s.2:=by simpa using h3.2
  omega
 ·rw [hc] at h3
  have:¬ 16≤s.2:=by simpa using h3.1.2
  exact ⟨fun _=>by omega,by omega,fun e=>(by cases e)⟩
theorem CU {n:Int} {ps:List PrW} (h1:1≤n∧n≤1024) (h2:∀ p∈ps,(0≤p.1∧p.1 < n)∧∀ s∈p.2,kT s∧0≤s.2∧(s.1=false→s.2 < n)):Pr.okC ⟨n,ps⟩=true:=by
 unfold Pr.okC
 rw [Bool.and_eq_true,List.all_eq_true]
 refine ⟨by simp only [Bool.not_eq_true',Bool.or_eq_false_iff,decide_eq_false_iff_not];omega,fun p hp=>?_⟩
 obtain ⟨a,c⟩:=h2 p hp
 unfold Pr.prodOK
 rw [Bool.and_eq_true,List.all_eq_true]
 refine ⟨by simp only [Bool.not_eq_true',Bool.or_eq_false_iff,decide_eq_false_iff_not];omega,fun s hs=>?_⟩
 obtain ⟨c1,c2,c3⟩:=c s hs
 unfold kT at c1
 unfold Pr.symOK
 simp only [Bool.not_eq_true',Bool.or_eq_false_iff,decide_eq_false_iff_not]
 cases hc:s.1
 ·have:=c3 hc
  simp
  omega
 ·have:=c1 hc
  simp
  omega
theorem A8 {C:Pr.CnfD} (hok:Pr.okC C=true) (h2:∀ p∈C.prods,p.2.length≤2) (hn:C.nts≤1000) {zs:List PrW} (hz:∀ p,p∈zs↔p∈(dK (wk0 C.nts) C.prods).prods) :
  Pr.weakC ⟨(dK (wk0 C.nts) C.prods).nts,zs⟩=true∧(C.nts≤(dK (wk0 C.nts) C.prods).nts∧(dK (wk0 C.nts) C.prods).nts≤C.nts+17)∧∀ A,0≤A→A < C.nts→∀ w,Pr.Der ⟨(dK (wk0 C.nts) C.prods).nts,zs⟩ w A 0 w.length↔Has (PrR C.prods) A w:=by
 obtain ⟨hnt,hf⟩:=gg hok
 have hB:=(WBd.all (sE hnt.1) (l:=C.prods) fun p hp=>⟨h2 p hp,fun s hs=>((hf p hp).2 s hs).1⟩).1
 have hle:=hB.le
 obtain ⟨I,rk,hI⟩:=nW C.prods [] (wk0 C.nts) (fun A=>[(false,A)]) (fun _=>0) ⟨hnt.1,Int.le_refl _,fun _ _ _=>⟨rfl,rfl⟩,fun p hp=>(by cases hp),fun p hp=>(by cases hp),fun p hp=>(by cases hp),fun p hp=>(by cases hp),fun A h2 h3=>by
  have h3:A < C.nts:=h3
  omega,fun x hx=>(by cases hx),fun he=>absurd rfl he⟩ fun p hp=>⟨(hf p hp).1,fun s hs hf'=>⟨((hf p hp).2 s hs).2.1,((hf p hp).2 s hs).2.2 hf'⟩⟩
 have hokz:Pr.okC ⟨(dK (wk0 C.nts) C.prods).nts,zs⟩=true:=CU ⟨by omega,by omega⟩ fun p hp=>by
  have hp:=(hz p).1 hp
  refine ⟨(hI.rng p hp).1,fun s hs=>⟨hB.lab p hp s hs,?_,fun hf=>((hI.rng p hp).2 s hs hf).2⟩⟩
  cases hc:s.1
  ·exact ((hI.rng p hp).2 s hs hc).1
  ·exact (hB.lab p hp s hs hc).1
 have hwk:∀ p∈zs,Pr.weakB p.2=true:=fun p hp=>hB.weak p ((hz p).1 hp)
 refine ⟨?_,hle,fun A hA hA2 w=>?_⟩
 ·unfold Pr.weakC
  rw [hokz,Bool.true_and,List.all_eq_true]
  exact hwk
 ·rw [Ab hwk A w,← Ad hnt.1 (l:=C.prods) (fun p hp=>⟨(hf p hp).1,fun s hs hf'=>⟨((hf p hp).2 s hs).2.1,((hf p hp).2 s hs).2.2 hf'⟩⟩) ⟨hA,hA2⟩ w]
  exact rW (fun A b=>hz (A,b)) A w
end
section
theorem vO (n:Int) (b:Nat):Tryz.prog.built 115 [(0,.agg #[i64 n,.slice none 0 0]),(1,.map (some b))]=some [i64 n,.slice none 0 0,.map (some b),i64 0].toArray:=by kernel_rfl
attribute [local irreducible] bO cz G GO GR GT GW Fn FnX FnV FnXV Dfr pt init exs pur sat own ImpS az aP cO Pr.symsV fa mkS fj cI bD eV md dK
theorem mP (q:HP) (v:Value) (C:Pr.CnfD) (hv:Pr.CnfR q v C) (hok:Pr.okC C=true) (h2:∀ p∈C.prods,p.2.length≤2) (hn:C.nts≤1000) (hpl:C.prods.length≤1048576) :
  Fn Tryz.prog 17 #[v] [q] (fun r Q=>∃ v' zs z,r=.tuple #[v',i64 0]∧Pr.CnfR z v' ⟨(dK (wk0 C.nts) C.prods).nts,zs⟩∧Pr.Ups zs∧(∀ p,p∈zs↔p∈(dK (wk0 C.nts) C.prods).prods)∧Q=[z,q]):=by
 have hz:Pr.Fits C:=⟨by omega,fun p hp=>by have:=h2 p hp;omega⟩
 have hck:=Pr.check_spec q v C hv hz
 rw [hok,if_pos rfl] at hck
 obtain ⟨hnt,hf⟩:=gg hok
 have hB:=fun i=>WBd.all (sE hnt.1) (l:=C.prods.take i) fun p hp=>⟨h2 p (List.mem_of_mem_take hp),fun s hs=>((hf p (List.mem_of_mem_take hp)).2 s hs).1⟩
 have hokw:∀ zs:List PrW,(∀ p,p∈zs↔p∈(dK (wk0 C.nts) C.prods).prods)→Pr.okC ⟨(dK (wk0 C.nts) C.prods).nts,zs⟩=true:=fun zs hzs=>by
  have:=(A8 hok h2 hn hzs).1
  unfold Pr.weakC at this
  rw [Bool.and_eq_true] at this
  exact this.1
 obtain ⟨pv0,rfl,hp⟩:=hv
 obtain ⟨a0,cap0,rfl⟩:=hp.form
 refine Fn.mk2 Tryz.func17 rfl rfl fun w0 F=>?_
 (apply Ru;refine sbx fun b1=>?_;refine sal fun b2=>?_;apply Ru;refine GO.loadW rfl rfl rfl (Tk.t Tk.h) rfl ?_)
 refine scl (hck) ?_
 rintro _ _ ⟨rfl,rfl⟩
 apply Ru
 refine GO.buildPart1 (pP _) rfl rfl ?_
 refine GO.makeMapJ rfl fun mb=>?_
 refine GO.buildPart2 (vO C.nts mb) rfl rfl rfl ?_
 (refine sbx fun b19=>?_;apply Ru)
 refine G.ownNil (T:=82) (sz:=2) ?_
 refine G.back ImpS.tt ?_
 have hB0:dK (wk0 C.nts) []=wk0 C.nts:=by unfold dK;rfl
 refine G.loopI (σ:=Nat) (fun i=>[(1,ah b1),(2,ah b2),(5,ah b19),(21,.slice a0 C.prods.length cap0),(22,i64 (C.prods.length:Nat)),(23,i64 (i:Nat))]) (fun i=>mkS b19 mb (dK (wk0 C.nts) (C.prods.take i))::pt b1 (row [i64 C.nts,.slice a0 C.prods.length cap0] 33)::pt b2 (row [i64 0,.slice none 0 0] 33)::q::F) (fun i=>i≤C.prods.length) (fun i=>C.prods.length - i) 0 (Nat.zero_le _) ?_ ?_ ?_
 ·exact SE rfl
 ·rw [List.take_zero,hB0]
  refine ImpS.trans (ImpS.sb (M:=own 82 2 ([]:List (Int × Value)).length (.slice none 0 0) (Pr.pvs [])::pt b19 (gy C.nts (.slice none 0 0) mb 0)::pt mb (fa [])::Go.Proofs.YtkeialpeabhaaaaGreat.pur True::pt b1 (row [i64 C.nts,.slice a0 C.prods.length cap0] 33)::pt b2 (row [i64 0,.slice none 0 0] 33)::q::F) ?_) (gx (st:=wk0 C.nts) trivial rfl)
  rw [show Pr.pvs []=[] from rfl,List.length_nil]
  exact SB
 intro i hi
 obtain ⟨hB1,hB2⟩:=hB i
 have hle:=hB1.le
 rw [List.length_take,Nat.min_eq_left hi] at hB2
 rw [show (wk0 C.nts).prods.length=0 from rfl] at hB2
 apply Ru
 by_cases hlt:i < C.prods.length
 ·have d1:decide ((i:Int) < (C.prods.length:Int))=true:=decide_eq_true (by omega)
  obtain ⟨p,hpi⟩:∃ p,C.prods[i]?=some p:=⟨_,List.getElem?_eq_getElem hlt⟩
  have hsn:=y9 (wk0 C.nts) hpi
  have hle2:=(hB (i+1)).1.le
  rw [hsn] at hle2
  have hp2:=h2 p (List.mem_of_getElem? hpi)
  obtain ⟨b,o,bv,rfl,_,r1,r2,hsy⟩:=hp.at hpi
  obtain ⟨ab,capb,rfl⟩:=hsy.form
  have d2:decide ((2:Int) < (p.2.length:Int))=false:=decide_eq_false (by omega)
  have hadd:=y8 b19 mb (dK (wk0 C.nts) (C.prods.take i)) p q (.slice ab p.2.length capb) hsy (by omega) (by omega) hp2 (by omega)
  generalize hX:dK (wk0 C.nts) (C.prods.take i)=st at *
  generalize hY:md st p=st2 at *
  have d3:decide ((1024:Int) < st2.nts)=false:=decide_eq_false (by omega)
  (refine scT ?_;refine six ?_;refine sl2 (by assumption) (by assumption) ?_;refine sal fun b7=>?_;apply Ru)
  refine dr 16 ?_
  (apply Ru;refine qgF ?_;refine qgF ?_;refine qgF ?_;refine qgF ?_;refine qgF ?_;refine qgF ?_;refine qgF ?_;refine qgF ?_;refine qgF ?_;refine qgF ?_;refine qgF ?_)
  (refine spF ?_;refine GO.loadW rfl rfl rfl Tk.h rfl ?_)
  refine scl (hadd) ?_
  rintro _ _ rfl
  refine GO.mkSOut Tk.h fun pv xs zc hC o1=>?_
  (apply Ru;refine scF ?_;refine sad ?_)
  rw [d3]
  refine ⟨i+1,hlt,by omega,?_,ImpS.trans (ImpS.sb (M:=own 82 2 xs.length pv (Pr.pvs xs)::pt b19 (gy st2.nts pv mb st2.emp)::pt mb (fa st2.labs)::zc::pt b1 (row [i64 C.nts,.slice (some ⟨b,o,none⟩) C.prods.length cap0] 33)::pt b2 (row [i64 0,.slice none 0 0] 33)::q::F) ?_) ?_⟩
  ·exact SE rfl
  ·exact SB
  ·rw [hsn]
   exact gx hC o1
 ·have d1:decide ((i:Int) < (C.prods.length:Int))=false:=decide_eq_false (by omega)
  rw [List.take_of_length_le (by omega)] at hB1 ⊢
  have hzst:=hokw
  generalize hX:dK (wk0 C.nts) C.prods=st at *
  refine G.mkSOut fun pv xs zc hC o1=>?_
  have hxl:=hC.len
  have hpl2:st.prods.length≤4194304:=by rw [← hX];have:=(hB C.prods.length).2;rw [List.take_length] at this;have e0:(wk0 C.nts).prods.length=0:=rfl;omega
  refine G.ownRd (v:=pv) Tk.h fun qp hqp=>?_
  have hP2:Pr.PrsR (aL [qp,zc]) pv st.prods:=hC.prs (Sup.right qp zc) (hqp.sup (Sup.left qp zc))
  refine G.merge (x:=qp) (y:=zc) (Tks.c Tk.h (Tks.c (Tk.t (Tk.t Tk.h)) Tks.n)) ?_
  have hso:=Pr.sort_spec (aL [qp,zc]) (.agg #[i64 st.nts,pv]) ⟨st.nts,st.prods⟩ ⟨pv,rfl,hP2⟩ ⟨by show st.prods.length * 32≤_;omega,fun p hp=>by
   have:=Pr.weakB_len (hB1.weak p hp)
   omega⟩
  have hokz:=hokw st.prods fun _=>Iff.rfl
  generalize aL [qp,zc]=z5 at *
  have rmk:∀ j u,[i64 st.nts,pv][j]?=some u→Rd (pt b19 (gy st.nts pv mb st.emp)) ⟨b19,0+0+j,none⟩ u:=fun j u hj=>by
   match j,hj with
   | 0,hj=>cases hj;exact Rd.row rfl
   | 1,hj=>cases hj;exact Rd.row rfl
  refine scF ?_
  refine GO.loadM (vs:=[i64 st.nts,pv]) rfl rfl rfl (Tk.t Tk.h) rfl rmk ?_
  refine scl (hso) ?_
  rintro _ _ (⟨_,pv2,ys,z6,zs,rfl,hzc,hzu,hzm,rfl⟩ | ⟨hno,_⟩)
  ·refine GO.ownOne (v:=pv2) Tk.h fun o2=>?_
   refine GO.ownRd (v:=pv2) Tk.h fun qq hqq=>?_
   have hP3:Pr.PrsR (aL [qq,z6]) pv2 zs:=hzc.prs (Sup.right qq z6) (hqq.sup (Sup.left qq z6))
   refine GO.merge (x:=qq) (y:=z6) (Tks.c Tk.h (Tks.c Tk.h Tks.n)) ?_
   generalize aL [qq,z6]=z7 at *
   (apply Ru;refine GO.storeW rfl rfl (Tk.t (Tk.t (Tk.t (Tk.t (Tk.t Tk.h))))) ⟨rfl,rfl⟩ (by simp [Value.oneCell'];assumption) ?_;apply Ru)
   exact kr2 rfl ⟨.agg #[i64 st.nts,pv2],zs,z7,rfl,⟨pv2,rfl,hP3⟩,hzu,hzm,rfl⟩
  ·rw [hokz] at hno;cases hno
end
theorem mS:∀ {a b:List (List UInt8)},(a.Pairwise fun x y=>x≤y)→(b.Pairwise fun x y=>x≤y)→a.Nodup→b.Nodup→(∀ x,x∈a↔x∈b)→a=b
 | [],[],_,_,_,_,_=>rfl
 | [],y::b,_,_,_,_,h=>absurd ((h y).2 (by simp)) (by simp)
 | x::a,[],_,_,_,_,h=>absurd ((h x).1 (by simp)) (by simp)
 | x::a,y::b,ha,hb,na,nb,h=>by
  rw [List.pairwise_cons] at ha hb
  rw [List.nodup_cons] at na nb
  have e:x=y:=by
   rcases List.mem_cons.1 ((h x).1 (by simp)) with e | h1
   ·exact e
   ·rcases List.mem_cons.1 ((h y).2 (by simp)) with e | h2
    ·exact e.symm
    ·exact List.le_antisymm (ha.1 y h2) (hb.1 x h1)
  subst e
  rw [mS ha.2 hb.2 na.2 nb.2 fun z=>?_]
  constructor
  ·intro hz
   rcases List.mem_cons.1 ((h z).1 (by simp [hz])) with e | h1
   ·subst e;exact absurd hz na.1
   ·exact h1
  ·intro hz
   rcases List.mem_cons.1 ((h z).2 (by simp [hz])) with e | h1
   ·subst e;exact absurd hz nb.1
   ·exact h1
theorem oz (l:List (List UInt8)):(dc l).Pairwise fun x y=>x≤y:=by
 have:=List.pairwise_mergeSort (le:=fun (x y:List UInt8)=>decide (x≤y)) (fun a b c h1 h2=>by
  simp only [decide_eq_true_eq] at *
  exact List.le_trans h1 h2) (fun a b=>by
  simp only [Bool.or_eq_true,decide_eq_true_eq]
  exact List.le_total a b) l
 exact this.imp fun {a b} h=>of_decide_eq_true h
theorem uX {l:List SN} {s t:List (List UInt8)} (hs:kc l s) (ht:kc l t):dc s=dc t:=
 mS (oz s) (oz t) (gV hs.1) (gV ht.1) fun x=>by rw [mA,mA,hs.2,ht.2]
section
section
variable {g:List RuleD} {ns ls:List (List UInt8)}
theorem BC (h:TabOK g ns ls) (s:List UInt8):(cj (aB ns ls) (aD s g)).length≤4225:=by
 have hn:(cj (aB ns ls) (aD s g)).Nodup:=by
  unfold cj
  refine (pL orderA_ord _).imp fun {a b} hab e=>?_
  subst e
  have:=orderA_ord.self a
  omega
 have ha:=gJ h s
 have:=Pr.nodup_len (m:=(List.range 65).flatMap fun p=>(List.range 65).map fun q=>(⟨p,ce (dl (aB ns ls) (aD s g)).2.1 q,q⟩:ArD)) hn (fun x hx=>by
  obtain ⟨h1,h2⟩:=ha.arc x hx
  have h65:=ha.n65
  refine List.mem_flatMap.2 ⟨x.src,List.mem_range.2 (by omega),List.mem_map.2 ⟨x.dst,List.mem_range.2 (by omega),?_⟩⟩
  have hs:x.sym=ce (dl (aB ns ls) (aD s g)).2.1 x.dst:=by
   rcases List.mem_append.1 (k9.1 hx) with hx | hx
   ·exact ((i5 (leaf:=aB ns ls) (ts:=aD s g) fun t ht=>let ⟨_,_,_,_,e⟩:=cJ h ht;e).2.1.arc x hx).2.2
   ·exact (dw.1 hx).2.2
  obtain ⟨a,b,c⟩:=x
  dsimp only at hs ⊢
  rw [hs])
 refine Nat.le_trans this ?_
 have:∀ (l:List Nat) (f:Nat→List ArD),(∀ x∈l,(f x).length=65)→(l.flatMap f).length=l.length * 65:=by
  intro l f
  induction l with
  | nil=>intro _;rfl
  | cons x l ih=>intro hf;rw [List.flatMap_cons,List.length_append,hf x (by simp),ih fun y hy=>hf y (by simp [hy]),List.length_cons];omega
 rw [this _ _ fun x _=>by rw [List.length_map,List.length_range],List.length_range]
 exact Nat.le_refl _
theorem nI {p:PaD} (hp:p∈psM ns ls g):∃ j,j < ns.length∧p=⟨r9 ns ls g j,iC ns ls g j,i6 ns ls g j,ff ns ls g j⟩:=by
 obtain ⟨j,hj⟩:=List.getElem?_of_mem hp
 have hlt:=(List.getElem?_eq_some_iff.1 hj).1
 rw [psM_len] at hlt
 rw [fR hlt] at hj
 exact ⟨j,hlt,(Option.some.inj hj).symm⟩
theorem xC (h:TabOK g ns ls):dt (psM ns ls g)≤80:=by
 have:=qZ h
 have hn16:ns.length≤16:=by rw [h.hd];exact h.gr.nts
 rw [iW]
 omega
theorem CQ (h:TabOK g ns ls):PsOK (psM ns ls g):=by
 have hn16:ns.length≤16:=by rw [h.hd];exact h.gr.nts
 have hs:=xC h
 refine ⟨by rw [psM_len];exact hn16,fun p hp=>?_,fun p hp=>?_,fun p hp=>?_⟩
 ·obtain ⟨j,hj,rfl⟩:=nI hp
  have ha:=gJ h (ns[j]?.getD [])
  exact ⟨(mL h _).1,fun q hq=>by have:=ha.fin q hq;have:=ha.n65;omega⟩
 ·obtain ⟨j,hj,rfl⟩:=nI hp
  have ha:=gJ h (ns[j]?.getD [])
  exact ⟨(mL h _).2,fun x hx=>by have:=ha.arc x hx;have:=ha.n65;omega⟩
 ·obtain ⟨j,hj⟩:=List.getElem?_of_mem hp
  have:=(dJ cZ hj).2.1
  omega
theorem AJ (h:TabOK g ns ls):(aN (psM ns ls g)).length≤1040∧(aQ (psM ns ls g)).length≤67600:=by
 have hn16:ns.length≤16:=by rw [h.hd];exact h.gr.nts
 have key:∀ (l:List PaD),(∀ p∈l,p∈psM ns ls g)→(aN l).length≤l.length * 65∧(aQ l).length≤l.length * 4225:=by
  intro l
  unfold aN aQ
  induction l with
  | nil=>intro _;exact ⟨Nat.le_refl _,Nat.le_refl _⟩
  | cons p l ih=>
   intro hl
   obtain ⟨h1,h2⟩:=ih fun x hx=>hl x (by simp [hx])
   obtain ⟨j,hj,rfl⟩:=nI (hl p (by simp))
   have a:=(mL h (ns[j]?.getD [])).1
   have b:=BC h (ns[j]?.getD [])
   rw [List.flatMap_cons,List.flatMap_cons,List.length_append,List.length_append,List.length_map,List.length_map,List.length_cons]
   unfold iC i6
   constructor
   ·dsimp only;omega
   ·dsimp only;omega
 obtain ⟨h1,h2⟩:=key _ fun _ hp=>hp
 rw [psM_len] at h1 h2
 omega
theorem CR (h:TabOK g ns ls):(∀ q∈aN (psM ns ls g),q < dt (psM ns ls g))∧∀ x∈aQ (psM ns ls g),x.src < dt (psM ns ls g)∧x.dst < dt (psM ns ls g):=by
 have key:∀ p∈psM ns ls g,p.first+p.n≤dt (psM ns ls g)∧(∀ q∈p.fins,q < p.n)∧∀ x∈p.arcs,x.src < p.n∧x.dst < p.n:=fun p hp=>by
  obtain ⟨i,hi⟩:=List.getElem?_of_mem hp
  have hb:=(dJ cZ hi).2.1
  obtain ⟨j,hj,rfl⟩:=nI hp
  have ha:=gJ h (ns[j]?.getD [])
  exact ⟨by omega,ha.fin,ha.arc⟩
 unfold aN aQ
 refine ⟨fun q hq=>?_,fun x hx=>?_⟩
 ·obtain ⟨p,hp,hq⟩:=List.mem_flatMap.1 hq
  obtain ⟨q',hq',rfl⟩:=List.mem_map.1 hq
  obtain ⟨a,b,_⟩:=key p hp
  have:=b q' hq'
  omega
 ·obtain ⟨p,hp,hx⟩:=List.mem_flatMap.1 hx
  obtain ⟨x',hx',rfl⟩:=List.mem_map.1 hx
  obtain ⟨a,_,c⟩:=key p hp
  have:=c x' hx'
  dsimp only
  omega
theorem mG (h:TabOK g ns ls):0 < ns.length:=by
 rw [h.hd]
 match hg:g,h.gr.len with
 | r::g',_=>exact List.length_pos_of_mem (((jR (r::g')).2 r.head).2 ⟨r,by simp,rfl⟩)
theorem BU (h:TabOK g ns ls):0 < dt (psM ns ls g):=by
 have:=dJ cZ (fR (g:=g) (ls:=ls) (mG h))
 dsimp only at this
 omega
end
theorem B7 {α:Type} {leaf:Nat→List UInt8→α}:∀ {ts:List Tree},(∀ u∈ts,∃ w,Lg leaf u w)→∃ w,LgS leaf ts w
 | [],_=>⟨[],eH.2 rfl⟩
 | t::ts,h=>by
  obtain ⟨u,hu⟩:=h t (by simp)
  obtain ⟨v,hv⟩:=B7 (ts:=ts) fun x hx=>h x (by simp [hx])
  exact ⟨u++v,co.2 ⟨u,v,rfl,hu,hv⟩⟩
theorem Dk {α:Type} {leaf:Nat→List UInt8→α} (t:Tree):okT t=true→∃ w,Lg leaf t w:=by
 refine Tree.ind (p:=fun t=>okT t=true→∃ w,Lg leaf t w) (fun t ih hok=>?_) t
 rw [l9,Bool.and_eq_true] at hok
 obtain ⟨k,n,ts⟩:=t
 have hk:∀ u∈ts,∃ w,Lg leaf u w:=fun u hu=>ih u hu (gu hok.2 hu)
 have hm:=eK hok.1
 have hany:0 < ts.length→∃ w,LgA leaf ts w:=fun hl=>by
  match ts,hl,hk with
  | t::ts,_,hk=>
   obtain ⟨w,hw⟩:=hk t (by simp)
   exact ⟨w,gA.2 (.inl hw)⟩
 dsimp only [Tree.kind,Tree.name,Tree.kids] at hm
 rcases hm with ⟨h1,_⟩ | ⟨h1,_⟩ | ⟨h1,_⟩ | ⟨h1 | h1,_,h2⟩ | ⟨h1 | h1 | h1,_,h2⟩
 ·exact ⟨[],by rw [Lg,if_pos h1]⟩
 ·exact ⟨[leaf k n],by rw [Lg,if_neg (by omega),if_pos (.inl h1)]⟩
 ·exact ⟨[leaf k n],by rw [Lg,if_neg (by omega),if_pos (.inr h1)]⟩
 ·obtain ⟨w,hw⟩:=B7 hk
  exact ⟨w,by rw [Lg,if_neg (by omega),if_neg (by omega),if_pos h1];exact hw⟩
 ·obtain ⟨w,hw⟩:=hany (by omega)
  exact ⟨w,by rw [Lg,if_neg (by omega),if_neg (by omega),if_neg (by omega),if_pos h1];exact hw⟩
 ·exact ⟨[],by rw [Lg,if_neg (by omega),if_neg (by omega),if_neg (by omega),if_neg (by omega),if_pos h1];exact .nil⟩
 ·obtain ⟨w,hw⟩:=hany (by omega)
  exact ⟨w,by rw [Lg,if_neg (by omega),if_neg (by omega),if_neg (by omega),if_neg (by omega),if_neg (by omega),if_pos h1];exact lC hw⟩
 ·exact ⟨[],by rw [Lg,if_neg (by omega),if_neg (by omega),if_neg (by omega),if_neg (by omega),if_neg (by omega),if_neg (by omega)];exact .inl rfl⟩
theorem yD {g:List RuleD} {ns ls:List (List UInt8)} (h:TabOK g ns ls) {j:Nat} (hj:j < ns.length):∃ p∈l7 (psM ns ls g),p.1=(j:Nat):=by
 have e:ns[j]?=some ns[j]:=List.getElem?_eq_getElem hj
 have hmem:ns[j]∈aS g:=by rw [← h.hd];exact List.getElem_mem hj
 obtain ⟨r,hr,hh⟩:=((jR g).2 ns[j]).1 hmem
 have ht:gj r.body∈aD ns[j] g:=by
  unfold aD bl
  exact List.mem_map.2 ⟨r.body,List.mem_map.2 ⟨r,List.mem_filter.2 ⟨hr,decide_eq_true hh⟩,rfl⟩,rfl⟩
 obtain ⟨_,_,_,_,hok⟩:=cJ h ht
 obtain ⟨v,hv⟩:=Dk (leaf:=aB ns ls) (gj r.body) hok
 obtain ⟨j',v',hj',e',⟨q,hq,hp⟩,_⟩:=(xe h (j:Nat) (v.map l4)).2 ⟨j,ns[j],v,e,rfl,tf.2 ⟨_,ht,hv⟩,rfl⟩
 have e':j=j':=by omega
 subst e'
 have h0:=(wC h).1 j hj
 cases v' with
 | nil=>
  have:q=0:=hp.symm
  subst this
  exact ⟨(j,[]),(nG h _ _).2 ⟨j,0,hj,Nat.succ_pos _,h0.symm,.inl ⟨rfl,hq⟩⟩,rfl⟩
 | cons s v'=>
  obtain ⟨x,hx,hs,_⟩:=hp
  exact ⟨(j,_),(nG h _ _).2 ⟨j,0,hj,Nat.succ_pos _,h0.symm,.inr ⟨x,hx,hs,rfl⟩⟩,rfl⟩
structure MCnf (g:List RuleD) (ns ls:List (List UInt8)) (C:Pr.CnfD):Prop where
 ok:Pr.okC C=true
 two:∀ p∈C.prods,p.2.length≤2
 lab:∀ p∈C.prods,∀ s∈p.2,s.1=true→s.2.toNat < ls.length
 nts:(ns.length:Int)≤C.nts∧C.nts≤96
 few:C.prods.length≤68640
 hds:∀ j,j < ns.length→∃ p∈C.prods,p.1=(j:Nat)
 lang:∀ j,j < ns.length→∀ w,Has (PrR C.prods) (j:Nat) w↔Has (BxR ns.length (iC ns ls g) (i6 ns ls g)) (j:Nat) w
attribute [local irreducible] bO cz G GO GR GT GW Fn FnX FnV FnXV Dfr pt init exs pur sat own ImpS az aP cO Pr.symsV fa mkS cS l7 iX aN aQ dt aS aU
theorem sq (bm bt mb:Nat) (vp vn vl:Value) (cells:List Value) (z:HP) (g:List RuleD) (ns ls:List (List UInt8)) (hm:MachR z g ns ls vn vl vp cells) :
  Fn Tryz.prog 7 #[ah bm] [bV bm bt vp (aU (aB ns ls) g ns),cG bt mb vn vl,z] (fun r Q=>∃ v C zq,r=.tuple #[v,i64 0]∧Pr.CnfR zq v C∧MCnf g ns ls C∧Q=[zq,bV bm bt vp (aU (aB ns ls) g ns),cG bt mb vn vl,z]):=by
 have h:=hm.tab
 obtain ⟨l1,l2⟩:=AJ h
 obtain ⟨i1,i2⟩:=CR h
 have hs:=xC h
 have hsm:=iW (aB ns ls) g ns 0
 have:=x7 bm bt mb vp vn vl cells (psM ns ls g) ns z hm.vn (by rw [psM_len];exact hm.vp) hm.parts (CQ h) cZ psM_len.symm (by rw [psM_len];exact mG h) (BU h) (by omega) i1 i2 l1 l2
 rw [hsm] at this
 refine this.mono fun r Q ⟨v,zs,zq,e,hC,hu,hzm,hQ⟩=>⟨v,⟨iX (psM ns ls g),zs⟩,zq,e,hC,?_,hQ⟩
 obtain ⟨a1,a2,a3,a4,a5⟩:=CP h (mG h) (C:=⟨iX (psM ns ls g),zs⟩) rfl hzm
 refine ⟨a1,a2,a3,⟨a4,a5⟩,?_,fun j hj=>let ⟨p,hp,e⟩:=yD h hj;⟨p,(hzm p).2 hp,e⟩,fun j hj w=>C7 h hzm hj w⟩
 have:=Pr.sub_len hzm hu
 unfold l7 at this
 rw [List.length_append,List.length_map,List.length_map] at this
 show zs.length≤_
 omega
end
namespace Pr
attribute [local irreducible] G GO GR GT Fn FnV pt init exs pur sat own ImpS fJ fi cP ij wordV symsV
theorem phas_spec (q:HP) (v:Value) (C:CnfD) (hv:CnfR q v C) (hz:Fits C) (nt:Int) (w:List Int) (wv:Value) (hw:WordR q wv w) (D:Int→Nat→Nat→Bool) (hD:∀ A i j,D A i j=true↔Der C w A i j) :
  Fn Tryz.prog 46 #[v,i64 nt,wv] [q] (fun r Q=>r=(if askE C nt w.length=0 then .tuple #[.bool (D nt 0 w.length),i64 0] else .tuple #[.bool false,i64 (askE C nt w.length)])∧Q=[q]):=by
 have ha:=xl q v C hv hz nt w wv hw
 obtain ⟨pv,rfl,hp⟩:=hv
 have htab:=tQ q C w pv wv hp hw
 obtain ⟨ap,cp,rfl⟩:=hp.form
 obtain ⟨aw,cw,rfl⟩:=hw.form
 by_cases he:askE C nt w.length=0
 ·obtain ⟨hok,_,_,_,hl⟩:=zV he
  replace htab:=htab hok hz hl
  rw [if_pos he]
  rw [he] at ha
  refine Fn.mk2 Tryz.func46 rfl rfl fun w0 F=>?_
  (apply Ru;refine sbx fun b3=>?_;apply Ru;refine GO.loadW rfl rfl rfl Tk.h rfl ?_;apply Ru)
  refine scl (ha) ?_
  rintro _ _ ⟨rfl,rfl⟩
  (apply Ru;refine GO.loadW rfl rfl rfl (Tk.t Tk.h) rfl ?_;apply Ru)
  refine scl (htab) ?_
  rintro _ _ ⟨bt,bm,rv,fs,rfl,hder,rfl⟩
  have hb:decide (bI nt 0 w.length∈fs)=D nt 0 w.length:=by
   rw [Bool.eq_iff_iff,decide_eq_true_iff,hder,hD]
  apply Ru
  refine scl (lS bt C.nts (.slice ap C.prods.length cp) (.slice aw w.length cw) bm rv fs (bI nt 0 w.length)) ?_
  rintro _ _ ⟨rfl,rfl⟩
  rw [hb]
  apply Ru
  exact kr2 rfl ⟨rfl,rfl⟩
 ·rw [if_neg he]
  have de:decide (askE C nt w.length≠0)=true:=decide_eq_true he
  generalize askE C nt w.length=e at *
  refine Fn.mk2 Tryz.func46 rfl rfl fun w0 F=>?_
  (apply Ru;refine sbx fun b3=>?_;apply Ru;refine GO.loadW rfl rfl rfl Tk.h rfl ?_;apply Ru)
  refine scl (ha) ?_
  rintro _ _ ⟨rfl,rfl⟩
  (apply Ru;refine scT ?_)
  exact kr2 rfl ⟨rfl,rfl⟩
end Pr
section
structure WCnf (g:List RuleD) (ns ls:List (List UInt8)) (C:Pr.CnfD):Prop where
 weak:Pr.weakC C=true
 nts:(ns.length:Int)≤C.nts
 few:C.prods.length≤1048576
 der:∀ j:Nat,j < ns.length→∀ w,Pr.Der C w (j:Nat) 0 w.length↔Has (BxR ns.length (iC ns ls g) (i6 ns ls g)) (j:Nat) w
theorem BN {g:List RuleD} {ns ls:List (List UInt8)} {C:Pr.CnfD} (h:MCnf g ns ls C) {zs:List PrW} (hz:∀ p,p∈zs↔p∈(dK (wk0 C.nts) C.prods).prods) (hu:Pr.Ups zs):WCnf g ns ls ⟨(dK (wk0 C.nts) C.prods).nts,zs⟩:=by
 obtain ⟨h1,h2,h3⟩:=A8 h.ok h.two (by have:=h.nts.2;omega) hz
 obtain ⟨hnt,hf⟩:=gg h.ok
 have hB:=(WBd.all (sE hnt.1) (l:=C.prods) fun p hp=>⟨h.two p hp,fun s hs=>((hf p hp).2 s hs).1⟩).2
 have hs:=Pr.sub_len hz hu
 have h0:(wk0 C.nts).prods.length=0:=rfl
 have hfew:=h.few
 refine ⟨h1,by show (ns.length:Int)≤(dK (wk0 C.nts) C.prods).nts;have:=h.nts.1;omega,by show zs.length≤1048576;omega,fun j hj w=>?_⟩
 rw [h3 j (Int.natCast_nonneg _) (by have:=h.nts.1;omega) w]
 exact h.lang j hj w
attribute [local irreducible] bO cz G GO GR GT GW Fn FnX FnV FnXV Dfr pt init exs pur sat own ImpS az aP cO Pr.symsV cS l7 iX aN aQ dt aS aU bn bG dK Pr.wordV dS
theorem sF (q:HP) (v:Value) (g:List RuleD) (hq:RulesR q v g) (hf:FitG g) (hc:bG g=0) :
  Fn Tryz.prog 45 #[v] [q] (fun r Q=>∃ v' C z ss,r=.tuple #[v',i64 0]∧kc (bn g 3) ss∧TabOK g (aS g) (dc ss)∧Pr.CnfR z v' C∧WCnf g (aS g) (dc ss) C∧Q=[z,q]):=by
 have hnew:=jz q v g hq hf hc
 obtain ⟨ag,cg,rfl⟩:=bN hq
 generalize aS g=ns at *
 refine Fn.mk2 Tryz.func45 rfl rfl fun w0 F=>?_
 (apply Ru;refine sal fun b2=>?_;apply Ru)
 refine scl (hnew) ?_
 rintro _ _ ⟨bm,bt,mb,vn,vl,vp,ls,cells,z,hm,rfl,rfl⟩
 have hof:=sq bm bt mb vp vn vl cells z g ns ls hm
 apply Ru
 refine scl (hof) ?_
 rintro _ _ ⟨v2,C,zq,rfl,hC,hM,rfl⟩
 have hwo:=mP zq v2 C hC hM.ok hM.two (by have:=hM.nts.2;omega) (by have:=hM.few;omega)
 have hC0:=hC
 obtain ⟨pv,rfl,hp⟩:=hC0
 obtain ⟨a2,c2,rfl⟩:=hp.form
 (apply Ru;refine sal fun b6=>?_;apply Ru;refine GO.loadW rfl rfl rfl Tk.h rfl ?_)
 refine scl (hwo) ?_
 rintro _ _ ⟨v3,zs,z3,rfl,hC3,hu3,hz3,rfl⟩
 obtain ⟨ss,hss,hls⟩:=hm.lab
 have hw:=BN hM hz3 hu3
 have htab:=hm.tab
 rw [hls] at hw htab
 have hC3':=hC3
 obtain ⟨pv3,rfl,hp3⟩:=hC3'
 obtain ⟨a3,c3,rfl⟩:=hp3.form
 apply Ru
 exact kr2 rfl ⟨_,_,z3,ss,rfl,hss,htab,hC3,hw,rfl⟩
theorem GO.unmerge {P:Program} {c:Cx} {A:Array Oper} {os:List Oper} {K:aY} {L:Env} {x y:HP} {T:List HP} (k:GO P c A os K L (x::y::T)):GO P c A os K L (aL [x,y]::T):=
 GO.imp (H':=x::y::T) (fun l w s=>(aJ.1 s:sat ([x,y]++(T++l)) w)) k
theorem D7 {C:Pr.CnfD} (hw:Pr.weakC C=true) {nt:Int} {n:Nat} (h0:0≤nt) (h1:nt < C.nts) (hn:¬ 64 < n):Pr.askE C nt n=0:=by
 have hok:Pr.okC C=true:=by
  unfold Pr.weakC at hw
  rw [Bool.and_eq_true] at hw
  exact hw.1
 unfold Pr.askE
 rw [hok,hw,if_pos rfl,if_pos rfl,if_neg (by omega),if_neg (by omega),if_neg hn]
theorem wt {ls:List (List UInt8)} {s:List UInt8} (h:s∈ls) (ns:List (List UInt8)):gn ls s=bZ ns ls true s:=by
 obtain ⟨j,hj⟩:=lB h
 unfold gn bZ gN
 rw [if_pos rfl,hj]
 rfl
theorem ur {ns:List (List UInt8)} {s:List UInt8} (h:s∈ns) (ls:List (List UInt8)):gn ns s=bZ ns ls false s:=by
 obtain ⟨j,hj⟩:=lB h
 unfold gn bZ gN
 rw [if_neg Bool.false_ne_true,hj]
 rfl
theorem uq {ls:List (List UInt8)} {s:List UInt8} (h:s ∉ ls):gn ls s=-1:=by unfold gn;rw [kq h]
theorem rN (qc zl qw:HP) (v vl vw:Value) (C:Pr.CnfD) (nt:Int) (ns ls w:List (List UInt8)) (hC:Pr.CnfR qc v C) (hz:Pr.Fits C) (hwk:Pr.weakC C=true) (h0:0≤nt) (h1:nt < C.nts) (hl:dH zl vl ls) (hll:¬ 1024 < ls.length) (hw:WordR qw vw w) (hwl:¬ 12 < w.length) :
  Fn Tryz.prog 19 #[v,i64 nt,vl,vw] [qc,zl,qw] (fun r Q=>∃ b,r=.tuple #[.bool b,.bool true]∧(b=true↔(∀ x∈w,x∈ls)∧Pr.Der C (w.map (bZ ns ls true)) nt 0 w.length)∧Q=[qc,zl,qw]):=by
 have hpl:=fun s=>jK zl vl ls s hl (by omega)
 have hph:=fun (zi:HP) (vi:Value) (hs:Sup qc zi) (hvi:Pr.WordR zi vi (w.map (bZ ns ls true)))=>Pr.phas_spec zi v C (hC.sup hs) hz nt (w.map (bZ ns ls true)) vi hvi (fun A i j=>@decide (Pr.Der C (w.map (bZ ns ls true)) A i j) (Classical.propDecidable _)) (fun A i j=>@decide_eq_true_iff _ (Classical.propDecidable _))
 have hask:=D7 hwk h0 h1 (n:=(w.map (bZ ns ls true)).length) (by rw [List.length_map];omega)
 rw [hask,if_pos rfl] at hph
 have hrw:∀ i x,w[i]?=some x→_:=fun i x h=>wf hw h
 obtain ⟨aw,cw,rfl⟩:=oh hw
 obtain ⟨al,cl,rfl⟩:=bX hl
 obtain ⟨pv,rfl,hp⟩:=hC
 obtain ⟨ap,cp,rfl⟩:=hp.form
 refine Fn.mk2 Tryz.func19 rfl rfl fun w0 F=>?_
 refine G.ownNil (T:=3) (sz:=1) ?_
 (apply Ru;refine sbx fun b4=>?_;apply Ru)
 refine G.loopI (σ:=Nat × Value) (fun x=>[(1,i64 nt),(2,.slice al ls.length cl),(3,.slice aw w.length cw),(4,ah b4),(10,x.2),(11,i64 (x.1:Nat))]) (fun x=>own 3 1 x.1 x.2 (Pr.wordV ((w.take x.1).map (bZ ns ls true)))::pt b4 (row [i64 C.nts,.slice ap C.prods.length cp] 33)::qc::zl::qw::F) (fun x=>x.1≤w.length∧∀ y∈w.take x.1,y∈ls) (fun x=>w.length - x.1) (0,.slice none 0 0) ⟨Nat.zero_le _,fun y hy=>by rw [List.take_zero] at hy;cases hy⟩ ?_ ?_ ?_
 ·exact SE rfl
 ·rw [List.take_zero,show Pr.wordV (([]:List (List UInt8)).map (bZ ns ls true))=[] by unfold Pr.wordV;rfl]
  exact ImpS.sb SB
 rintro ⟨i,v10⟩ ⟨hi,hk⟩
 dsimp only at hi hk ⊢
 apply Ru
 by_cases hlt:i < w.length
 ·have d1:decide ((i:Int) < (w.length:Int))=true:=decide_eq_true (by omega)
  obtain ⟨s,hs⟩:∃ s,w[i]?=some s:=⟨_,List.getElem?_eq_getElem hlt⟩
  obtain ⟨b,o,cap,e,rs⟩:=hrw i s hs
  injection e with e _ e2
  subst e e2
  have hpl:=hpl s
  by_cases hin:s∈ls
  ·rw [wt hin ns] at hpl
   have d2:decide (bZ ns ls true s < 0)=false:=decide_eq_false (by unfold bZ;omega)
   have hsn:Pr.wordV ((w.take (i+1)).map (bZ ns ls true))=Pr.wordV ((w.take i).map (bZ ns ls true))++[i64 (bZ ns ls true s)]:=by rw [aG hs,List.map_append];unfold Pr.wordV;rw [List.map_append];rfl
   (refine scT ?_;refine six ?_;refine sld (by assumption) ?_)
   refine scl (hpl) ?_
   rintro _ _ ⟨rfl,rfl⟩
   (apply Ru;refine G.condF rfl rfl ?_;apply Ru)
   refine GO.buildSlice1 (n:=1) rfl rfl (fun v hv=>by rw [List.mem_singleton.1 hv];rfl) rfl ⟨by decide,by decide⟩ fun bs8=>?_
   refine GO.appendOwn (m:=1) (news:=[i64 (bZ ns ls true s)]) rfl rfl rfl (Tk.t (Tk.t Tk.h)) Tk.h rfl (by simp [Value.oneCell']) ⟨by decide,rfl⟩ Nat.one_pos (by unfold maxLen;omega) (by omega) fun v8=>?_
   (apply Ru;refine sad ?_)
   refine ⟨(i+1,v8),⟨hlt,fun y hy=>?_⟩,by dsimp only;omega,?_,ImpS.sb ?_⟩
   ·rw [aG hs] at hy
    rcases List.mem_append.1 hy with hy | hy
    ·exact hk y hy
    ·rw [List.mem_singleton.1 hy];exact hin
   ·exact SE rfl
   ·dsimp only
    rw [hsn]
    exact SB
  ·rw [uq hin] at hpl
   have d2:decide ((-1:Int) < 0)=true:=rfl
   (refine scT ?_;refine six ?_;refine sld (by assumption) ?_)
   refine scl (hpl) ?_
   rintro _ _ ⟨rfl,rfl⟩
   (apply Ru;refine G.condT rfl rfl ?_;apply Ru)
   exact kr2 rfl ⟨false,rfl,⟨fun h=>(by cases h),fun h=>absurd (h.1 s (List.mem_of_getElem? hs)) hin⟩,rfl⟩
 ·have d1:decide ((i:Int) < (w.length:Int))=false:=decide_eq_false (by omega)
  rw [List.take_of_length_le (by omega)] at hk ⊢
  have hil:i=w.length:=by omega
  subst hil
  (refine scF ?_;refine GO.loadW rfl rfl rfl (Tk.t Tk.h) rfl ?_;apply Ru)
  refine GO.ownRd (v:=v10) Tk.h fun q10 h10=>?_
  have h10:Pr.WordR q10 v10 (w.map (bZ ns ls true)):=by unfold Pr.WordR;rw [List.length_map];exact h10
  have hph:=hph (aL [q10,qc]) v10 (Sup.right q10 qc) (h10.sup (Sup.left q10 qc))
  obtain ⟨a10,c10,rfl,_,_⟩:=h10
  refine GO.merge (x:=q10) (y:=qc) (Tks.c Tk.h (Tks.c (Tk.t Tk.h) Tks.n)) ?_
  refine scl (hph) ?_
  rintro _ _ ⟨rfl,rfl⟩
  refine GO.unmerge ?_
  apply Ru
  refine KF2.r2 rfl (RV.t rfl) (RV.t rfl) ⟨_,rfl,?_,rfl⟩ (ImpS.sb ?_)
  ·rw [@decide_eq_true_iff _ (Classical.propDecidable _)]
   rw [List.length_map]
   exact ⟨fun h=>⟨hk,h⟩,fun h=>h.2⟩
  exact SB
end
section
attribute [local irreducible] bO cz G GO GR GT GW Fn FnX FnV FnXV Dfr pt init exs pur sat own ImpS az aP cO Pr.symsV cS l7 iX aN aQ dt aS aU bn bG dK Pr.wordV dS iC i6
theorem tX {g:List RuleD} {ns ls:List (List UInt8)} {C:Pr.CnfD} (ht:TabOK g ns ls) (hC:WCnf g ns ls C) {name:List UInt8} (hn:name∈ns) (w:List (List UInt8)) :
  ((∀ x∈w,x∈ls)∧Pr.Der C (w.map (bZ ns ls true)) (bZ ns ls false name) 0 w.length)↔Has (GrR g) name w:=by
 rw [po ht hn w]
 refine and_congr_right fun _=>?_
 have hj:gN ns ls false name < ns.length:=by
  have:=gD (ns:=ns) (ls:=ls) (c:=false) (s:=name) hn
  rw [if_neg Bool.false_ne_true] at this
  exact (List.getElem?_eq_some_iff.1 this).1
 have:=hC.der _ hj (w.map (bZ ns ls true))
 rw [List.length_map] at this
 exact this
theorem D2 {g:List RuleD} {ns ls:List (List UInt8)} {C:Pr.CnfD} (h:WCnf g ns ls C):Pr.Fits C:=by
 have hw:=h.weak
 unfold Pr.weakC at hw
 rw [Bool.and_eq_true] at hw
 refine ⟨by have:=h.few;omega,fun p hp=>?_⟩
 have:=Pr.weakB_len (List.all_eq_true.1 hw.2 p hp)
 omega
theorem g8 (q qw:HP) (v vw:Value) (g:List RuleD) (name:List UInt8) (w:List (List UInt8)) (hq:RulesR q v g) (hf:FitG g) (hc:bG g=0) (hn:name∈aS g) (hw:WordR qw vw w) (hwl:¬ 12 < w.length) :
  Fn Tryz.prog 18 #[v,str name,vw] [q,qw] (fun r Q=>∃ b,r=.tuple #[.bool b,.bool true]∧(b=true↔Has (GrR g) name w)∧Q=[q,qw]):=by
 have hcn:=sF q v g hq hf hc
 have hrs:=jz q v g hq hf hc
 have hn16:=(kB hc).nts
 obtain ⟨ag,cg,rfl⟩:=bN hq
 generalize aS g=ns at *
 refine Fn.mk2 Tryz.func18 rfl rfl fun w0 F=>?_
 apply Ru
 refine scl (hcn) ?_
 rintro _ _ ⟨vc,C,zc,ss,rfl,hss,htab,hC,hWC,rfl⟩
 have hC0:=hC
 obtain ⟨pv,rfl,hp⟩:=hC0
 obtain ⟨ap,cp,rfl⟩:=hp.form
 (apply Ru;refine sal fun b8=>?_;apply Ru)
 refine scl (hrs) ?_
 rintro _ _ ⟨bm,bt,mb,vn,vl,vp,ls,cells,z,hm,rfl,rfl⟩
 obtain ⟨ss2,hss2,hls⟩:=hm.lab
 rw [← uX hss hss2] at hls
 rw [← hls] at htab hWC
 have hvn:=hm.vn
 have hvl:=hm.vl
 have hll:=htab.ll
 clear hm hls hss hss2
 generalize aU (aB ns ls) g ns=st at *
 have hN:=jA bm bt mb vp vn vl st ns z hvn (by omega)
 have hL:=lz bm bt mb vp vn vl st ls z hvl (by omega)
 have hidx:bZ ns ls false name < C.nts:=by
  have:=gD (ns:=ns) (ls:=ls) (c:=false) (s:=name) hn
  rw [if_neg Bool.false_ne_true] at this
  have h2:=(List.getElem?_eq_some_iff.1 this).1
  have h3:=hWC.nts
  unfold bZ
  omega
 have hH:=fun (zl:HP) (vl:Value) (hl:dH zl vl ls)=>rN zc zl qw _ vl vw C (bZ ns ls false name) ns ls w hC (D2 hWC) hWC.weak (Int.natCast_nonneg _) hidx hl (by omega) hw hwl
 have hspell:=tX htab hWC hn w
 obtain ⟨aw,cw,rfl⟩:=oh hw
 apply Ru
 refine drW 11 1876 6 [pt b8 (row [i64 C.nts,.slice ap C.prods.length cp] 33)] (fun L' H'=>∃ (bb:Bool) (q34 q30:HP),(bb=true↔(∀ x∈w,x∈ls)∧Pr.Der C (w.map (bZ ns ls true)) (bZ ns ls false name) 0 w.length)∧SubE [(37,.bool bb),(38,.bool true)] L'∧ImpS H' (pt b8 (row [i64 C.nts,.slice ap C.prods.length cp] 33)::q34::q30::bV bm bt vp st::cG bt mb vn vl::eT mb ns ls::z::zc::q::qw::F)) ?_ ?_
 ·((apply GR.step rfl;focus (intro Z;refine GO.loadW rfl rfl rfl Tk.h rfl ?_;exact KQ.z));apply Ru)
  refine gw1 2 ?_
  refine scl (hN) ?_
  rintro v30 _ rfl
  refine GO.ownRdK Tk.h fun q30 h30=>?_
  have hp30:=jK q30 v30 ns name h30 (by omega)
  rw [ur hn ls] at hp30
  obtain ⟨a30,c30,rfl⟩:=bX h30
  refine gwn ?_
  refine gw1 4 ?_
  refine scl (hp30) ?_
  rintro _ _ ⟨rfl,rfl⟩
  refine gwn ?_
  refine gw1 6 ?_
  refine scl (hL) ?_
  rintro v34 _ rfl
  refine GO.ownRdK Tk.h fun q34 h34=>?_
  have hh:=hH q34 v34 h34
  obtain ⟨a34,c34,rfl⟩:=bX h34
  refine gwn ?_
  refine gw1 8 ?_
  refine scl (hh) ?_
  rintro _ _ ⟨bb,rfl,hbb,rfl⟩
  refine gwn ?_
  refine gw2 9 10 ?_ ?_
  ·refine GO.extract (vs:=[.bool bb,.bool true]) rfl rfl rfl ?_
   refine gwn ?_
   refine gw1 10 ?_
   refine GO.extract (vs:=[.bool bb,.bool true]) rfl rfl rfl ?_
   refine gwn ?_
   refine GW.nil ⟨bb,q34,q30,hbb,by (exact SE rfl),ImpS.sb SB⟩
  ·refine GO.extract (vs:=[.bool bb,.bool true]) rfl rfl rfl ?_
   refine gwn ?_
   refine gw1 9 ?_
   refine GO.extract (vs:=[.bool bb,.bool true]) rfl rfl rfl ?_
   refine gwn ?_
   refine GW.nil ⟨bb,q34,q30,hbb,by (exact SE rfl),ImpS.sb SB⟩
 ·rintro L9 H9 ⟨bb,q34,q30,hbb,hL9,hH9⟩
  refine GO.subI hL9 hH9 ?_
  clear hL9 hH9 L9 H9
  apply Ru
  exact kr2 rfl ⟨bb,rfl,hbb.trans hspell,rfl⟩
end
section
structure SwI (l:List Value) (i:Nat) (xs:List Value):Prop where
 len:xs.length=l.length
 le:2 * i≤l.length+1
 at_:∀ k,k < l.length→xs[k]?=if k < i∨l.length - i≤k then l[l.length - 1 - k]? else l[k]?
 one:∀ u∈xs,u.oneCell'=true
theorem SwI.end_ {l xs:List Value} {i:Nat} (h:SwI l i xs) (hi:l.length≤2 * i+1):xs=l.reverse:=by
 refine List.ext_getElem? fun k=>?_
 by_cases hk:k < l.length
 ·rw [h.at_ k hk,List.getElem?_reverse hk]
  split
  ·rfl
  ·congr 1;omega
 ·rw [List.getElem?_eq_none (by rw [h.len];omega),List.getElem?_eq_none (by rw [List.length_reverse];omega)]
theorem SwI.step {l xs:List Value} {i:Nat} {x y:Value} (h:SwI l i xs) (hi:2 * i+1 < l.length) (hx:xs[i]?=some x) (hy:xs[l.length - 1 - i]?=some y):SwI l (i+1) ((xs.set i y).set (l.length - 1 - i) x):=by
 have hx1:=h.one x (List.mem_of_getElem? hx)
 have hy1:=h.one y (List.mem_of_getElem? hy)
 refine ⟨by rw [List.length_set,List.length_set,h.len],by omega,fun k hk=>?_,fun u hu=>?_⟩
 ·have e1:=h.at_ i (by omega)
  have e2:=h.at_ (l.length - 1 - i) (by omega)
  rw [hx,if_neg (by omega)] at e1
  rw [hy,if_neg (by omega)] at e2
  rw [List.getElem?_set,List.getElem?_set]
  by_cases h1:l.length - 1 - i=k
  ·subst h1
   rw [if_pos rfl,if_pos (by rw [List.length_set,h.len];omega),if_pos (by omega),e1]
   congr 1;omega
  ·rw [if_neg h1]
   by_cases h2:i=k
   ·subst h2
    rw [if_pos rfl,if_pos (by rw [h.len];omega),if_pos (by omega),e2]
   ·rw [if_neg h2,h.at_ k hk]
    by_cases h3:k < i∨l.length - i≤k
    ·rw [if_pos h3,if_pos (by omega)]
    ·rw [if_neg h3,if_neg (by omega)]
 ·rcases List.mem_or_eq_of_mem_set hu with hu | rfl
  ·rcases List.mem_or_eq_of_mem_set hu with hu | rfl
   ·exact h.one u hu
   ·exact hy1
  ·exact hx1
attribute [local irreducible] bO cz G GO GR GT GW Fn FnX FnV FnXV Dfr pt init exs pur sat own ImpS az aP cO
theorem sQ (v:Value) (l:List Value) (h1:∀ u∈l,u.oneCell'=true) (hn:¬ 1048576 < l.length):Fn Tryz.prog 147 #[v] [own 95 1 l.length v l] (fun _ Q=>Q=[own 95 1 l.length v l.reverse]):=by
 refine Fn.mk2 Tryz.func147 rfl rfl fun w0 F=>?_
 by_cases h0:l.length=0
 ·have e0:l=[]:=List.length_eq_zero_iff.1 h0
  subst e0
  (apply Ru;refine ssu ?_)
  refine G.loopI (σ:=Unit) (fun _=>[(0,v),(2,i64 ((0:Nat):Int)),(3,i64 (-1))]) (fun _=>own 95 1 ([]:List Value).length v []::F) (fun _=>True) (fun _=>0) () trivial ?_ ?_ ?_
  ·exact SE rfl
  ·exact ImpS.sb SB
  rintro _ _
  have d1:decide (((0:Nat):Int) < -1)=false:=rfl
  (apply Ru;refine G.condF rfl rfl ?_;apply Ru)
  refine KF2.n0 rfl rfl (ImpS.sb ?_)
  ((refine Sb.c Tk.h ?_;exact SB);skip)
 (apply Ru;refine ssu ?_)
 refine G.own_open (F:=F) Tk.h (fun _ h _=>absurd h h0) (fun b cap rst hv g1 g2 g3 g4=>?_)
 subst hv
 unfold maxLen at g3
 refine G.loopI (σ:=Nat × List Value) (fun z=>[(0,.slice (some ⟨b,0,none⟩) l.length cap),(2,i64 (z.1:Nat)),(3,i64 ((l.length:Int) - 1 - (z.1:Nat)))]) (fun z=>pt b (row (z.2++rst) 95)::F) (fun z=>SwI l z.1 z.2) (fun z=>l.length - z.1) (0,l) ⟨rfl,by omega,fun k hk=>by rw [if_neg (by omega)],h1⟩ ?_ ?_ ?_
 ·(refine SubE.c rfl rfl ?_;refine SubE.c rfl rfl ?_;(refine SubE.c rfl ?_ ?_;focus (simp;done));exact SE rfl)
 ·exact ImpS.sb SB
 rintro ⟨i,xs⟩ hs
 dsimp only at hs ⊢
 by_cases hlt:2 * i+1 < l.length
 ·obtain ⟨j,hj⟩:∃ j,j=l.length - 1 - i:=⟨_,rfl⟩
  rw [show (l.length:Int) - 1 - (i:Nat)=(j:Nat) by omega]
  have d1:decide ((i:Int) < (j:Int))=true:=decide_eq_true (by omega)
  obtain ⟨x,hx0⟩:∃ x,xs[i]?=some x:=⟨_,List.getElem?_eq_getElem (by rw [hs.len];omega)⟩
  obtain ⟨y,hy0⟩:∃ y,xs[j]?=some y:=⟨_,List.getElem?_eq_getElem (by rw [hs.len];omega)⟩
  have hst:=hs.step hlt hx0 (by rw [← hj];exact hy0)
  rw [← hj] at hst
  have hx1:=hs.one x (List.mem_of_getElem? hx0)
  have hy1:=hs.one y (List.mem_of_getElem? hy0)
  have hx:(xs++rst)[0+i * 1]?=some x:=by rw [Nat.mul_one,Nat.zero_add,List.getElem?_append_left (by rw [hs.len];omega)];exact hx0
  have hy:(xs++rst)[0+j * 1]?=some y:=by rw [Nat.mul_one,Nat.zero_add,List.getElem?_append_left (by rw [hs.len];omega)];exact hy0
  have hc1:0+i * 1 < xs.length:=by rw [hs.len];omega
  have hc2:0+j * 1 < (xs.set (0+i * 1) y).length:=by rw [List.length_set,hs.len];omega
  have hb1:0+i * 1 < (xs++rst).length:=by rw [List.length_append];omega
  have hb2:0+j * 1 < (xs.set (0+i * 1) y++rst).length:=by rw [List.length_append];omega
  (apply Ru;refine scT ?_)
  refine drW 16 43136 4 [] (fun L' H'=>SubE [(0,.slice (some ⟨b,0,none⟩) l.length cap),(2,i64 (i:Nat)),(3,i64 (j:Nat))] L'∧ImpS H' (pt b (row (((xs.set (0+i * 1) y).set (0+j * 1) x)++rst) 95)::F)) ?_ ?_
  ·(apply Ru;refine rix ?_;refine rix ?_;refine rix ?_;refine rix ?_)
   refine gw2 7 11 ?_ ?_
   ·refine GO.load1 rfl rfl rfl Tk.h hy ?_
    refine gwn ?_
    refine gw1 11 ?_
    refine GO.load1 rfl rfl rfl Tk.h hx ?_
    refine gwn ?_
    refine gw1 13 ?_
    refine GO.store1 rfl rfl hy1 Tk.h hb1 ?_
    rw [List.set_append_left _ _ hc1]
    refine GO.nil ⟨rfl,.tuple #[],pt b (row ((xs.set (0+i * 1) y)++rst) 95)::F,rfl,ImpS.sb SB,?_⟩
    refine gw1 15 ?_
    refine GO.store1 rfl rfl hx1 Tk.h hb2 ?_
    rw [List.set_append_left _ _ hc2]
    refine GO.nil ⟨rfl,.tuple #[],pt b (row (((xs.set (0+i * 1) y).set (0+j * 1) x)++rst) 95)::F,rfl,ImpS.sb SB,?_⟩
    refine GW.nil ⟨by (exact SE rfl),ImpS.sb SB⟩
   ·refine GO.load1 rfl rfl rfl Tk.h hx ?_
    refine gwn ?_
    refine gw1 7 ?_
    refine GO.load1 rfl rfl rfl Tk.h hy ?_
    refine gwn ?_
    refine gw1 13 ?_
    refine GO.store1 rfl rfl hy1 Tk.h hb1 ?_
    rw [List.set_append_left _ _ hc1]
    refine GO.nil ⟨rfl,.tuple #[],pt b (row ((xs.set (0+i * 1) y)++rst) 95)::F,rfl,ImpS.sb SB,?_⟩
    refine gw1 15 ?_
    refine GO.store1 rfl rfl hx1 Tk.h hb2 ?_
    rw [List.set_append_left _ _ hc2]
    refine GO.nil ⟨rfl,.tuple #[],pt b (row (((xs.set (0+i * 1) y).set (0+j * 1) x)++rst) 95)::F,rfl,ImpS.sb SB,?_⟩
    refine GW.nil ⟨by (exact SE rfl),ImpS.sb SB⟩
  ·rintro L9 H9 ⟨hL9,hH9⟩
   refine GO.subI hL9 hH9 ?_
   clear hL9 hH9 L9 H9
   rw [show (xs.set (0+i * 1) y).set (0+j * 1) x=(xs.set i y).set j x by rw [Nat.mul_one,Nat.zero_add,Nat.mul_one,Nat.zero_add]]
   generalize (xs.set i y).set j x=ys at *
   (apply Ru;refine sad ?_;refine ssu ?_)
   refine ⟨(i+1,ys),hst,by dsimp only;omega,?_,ImpS.sb ?_⟩
   ·dsimp only
    rw [show (l.length:Int) - 1 - ((i+1:Nat):Int)=(j:Nat) - 1 by omega]
    exact SE rfl
   ·exact SB
 ·have d1:decide ((i:Int) < (l.length:Int) - 1 - (i:Nat))=false:=decide_eq_false (by omega)
  have e:=hs.end_ (by omega)
  subst e
  refine G.imp (H':=own 95 1 l.length (.slice (some ⟨b,0,none⟩) l.length cap) l.reverse::F) (fun _ _ s=>dM rfl (by rw [List.length_reverse,Nat.mul_one]) g2 (by unfold maxLen;exact g3) (by rw [List.length_append,List.length_reverse,← List.length_append];exact g4) s) ?_
  (apply Ru;refine scF ?_)
  refine KF2.n0 rfl rfl (ImpS.sb ?_)
  exact SB
end
section
def jp (t:Tree):List Tree:=if t.kind=4 then t.kids.reverse else t.kids
theorem z9 (t:Tree):(jp t).length=t.kids.length:=by
 unfold jp
 split
 ·rw [List.length_reverse]
 ·rfl
theorem rR {t u:Tree}:u∈jp t↔u∈t.kids:=by
 unfold jp
 split
 ·rw [List.mem_reverse]
 ·rfl
theorem nZ (t:Tree):flat (bM t)=⟨t.kind,t.name,t.kids.length⟩::ay ((jp t).map bM):=by
 obtain ⟨k,n,ts⟩:=t
 rw [bM,flat,kX]
 unfold jp
 show _=(⟨k,n,ts.length⟩:NodeD)::ay ((if k=4 then ts.reverse else ts).map bM)
 split
 ·rw [List.length_reverse,List.length_map,List.map_reverse]
 ·rw [List.length_map]
theorem eD:∀ ts:List Tree,(ay ts).length=(ts.map fun u=>(flat u).length).sum
 | []=>by rw [ay];rfl
 | t::ts=>by rw [ay,List.length_append,eD ts];rfl
theorem BT (l:List Nat):l.reverse.sum=l.sum:=by
 induction l with
 | nil=>rfl
 | cons x l ih=>rw [List.reverse_cons,List.sum_append,ih,List.sum_cons,List.sum_cons,List.sum_nil];omega
theorem mg (t:Tree):(flat (bM t)).length=(flat t).length:=by
 refine Tree.ind (p:=fun t=>(flat (bM t)).length=(flat t).length) (fun t ih=>?_) t
 rw [nZ,du t,List.length_cons,List.length_cons,eD,eD,List.map_map]
 have h:∀ us:List Tree,(∀ u∈us,(flat (bM u)).length=(flat u).length)→us.map ((fun u=>(flat u).length) ∘ bM)=us.map fun u=>(flat u).length:=fun us hu=>List.map_congr_left fun u hm=>hu u hm
 rw [h _ fun u hu=>ih u (rR.1 hu)]
 unfold jp
 split
 ·rw [List.map_reverse,BT]
 ·rfl
theorem KidsR.rev {q:HP} {ts:List Tree} {vals:List Value} (h:KidsR q ts ts.length vals):KidsR q ts.reverse ts.length vals.reverse:=by
 refine ⟨by rw [List.length_reverse,h.1],fun i u hi hu=>?_⟩
 rw [List.getElem?_reverse (by omega)] at hu
 obtain ⟨w,e,a,b⟩:=h.2 _ u (by omega) hu
 exact ⟨w,by rw [List.getElem?_reverse (by rw [h.1];omega),h.1];exact e,a,b⟩
theorem An (l:List Nat) (i:Nat):(l.take i).sum≤l.sum:=by
 have:=congrArg List.sum (List.take_append_drop i l)
 rw [List.sum_append] at this
 omega
theorem wS (ts:List Tree) (i:Nat):(ay (ts.take i)).length≤(ay ts).length:=by
 rw [eD,eD,List.map_take]
 exact An _ _
attribute [local irreducible] bO cz G GO GR GT GW Fn FnX FnV FnXV Dfr pt init exs pur sat own ImpS az aP cO
theorem ye (n:Nat):∀ (q:HP) (v:Value) (t:Tree),NodesR q v (flat t)→(flat t).length≤n→¬ 4096 < (flat t).length →
  Fn Tryz.prog 87 #[v] [q] (fun r Q=>Q=[own 93 3 (flat (bM t)).length r (aO (flat (bM t))),q]):=by
 induction n with
 | zero=>intro q v t _ h;have:=dF t;omega
 | succ n ih=>
 intro q v t hq hn hb
 have h0:=du t
 have hks:=rQ q v t hq (by omega)
 have hkid:∀ u∈t.kids,(flat u).length < (flat t).length:=fun u hu=>lX hu
 have hkl:t.kids.length≤(flat t).length:=by
  rw [h0,List.length_cons]
  have:=j8 t.kids
  omega
 obtain ⟨b,o,cap,rfl,hcap,rm⟩:=ee hq (i:=0) (m:=⟨t.kind,t.name,t.kids.length⟩) (by rw [h0];rfl)
 have hpos:=dF t
 have hlenT:=mg t
 have hfl:1+(ay ((jp t).map bM)).length=(flat t).length:=by
  rw [← hlenT,nZ,List.length_cons]
  omega
 rw [nZ t]
 have rk:=rm 0 (i64 (t.kind:Nat)) rfl
 refine Fn.mk2 Tryz.func87 rfl rfl fun w0 F=>?_
 apply Ru
 refine scl (hks) ?_
 rintro v8 _ ⟨vals,hK,rfl⟩
 (apply Ru;refine six ?_;refine sld (by assumption) ?_;apply Ru)
 refine G.midE (σ:=List Value) (fun _=>[(0,.slice (some ⟨b,o,none⟩) (flat t).length cap),(3,v8)]) (fun vs=>own 95 1 t.kids.length v8 vs::q::F) (fun vs=>KidsR q (jp t) t.kids.length vs) ?_ ?_
 ·by_cases h4:t.kind=4
  ·have d1:decide ((t.kind:Int)=4)=true:=decide_eq_true (by omega)
   have hr:=sQ v8 vals hK.one (by rw [hK.1];omega)
   rw [hK.1] at hr
   refine scT ?_
   refine scl (hr) ?_
   rintro _ _ rfl
   apply Ru
   refine ⟨vals.reverse,?_,?_,ImpS.sb ?_⟩
   ·unfold jp
    rw [if_pos h4]
    exact hK.rev
   ·exact SE rfl
   ·exact SB
  ·have d1:decide ((t.kind:Int)=4)=false:=decide_eq_false (by omega)
   refine scF ?_
   refine ⟨vals,?_,?_,ImpS.sb ?_⟩
   ·unfold jp
    rw [if_neg h4]
    exact hK
   ·exact SE rfl
   ·exact SB
 clear hK hks vals
 have hmem:=fun u=>rR (t:=t) (u:=u)
 have hkl2:=z9 t
 generalize jp t=ts at *
 intro vs hK
 refine G.ownRdK (v:=v8) Tk.h fun q3 hq3=>?_
 have hq3':=hq3
 obtain ⟨a3,c3,rfl,_,_,hr3⟩:=hq3
 (apply Ru;refine six ?_)
 refine GO.loadM (vs:=[i64 (t.kind:Nat),str t.name,i64 (t.kids.length:Nat)]) rfl rfl rfl (Tk.t Tk.h) rfl rm ?_
 refine GO.buildSlice1 rfl rfl (by simp;rfl) rfl ⟨by omega,by omega⟩ fun bs=>?_
 refine GO.ownIn (n:=1) (sz:=3) Tk.h rfl (by decide) ?_
 apply Ru
 refine G.loopI (σ:=Nat × Value) (fun z=>[(4,z.2),(20,.slice a3 t.kids.length c3),(21,i64 (t.kids.length:Nat)),(22,i64 (z.1:Nat))]) (fun z=>own 93 3 ((⟨t.kind,t.name,t.kids.length⟩:NodeD)::ay ((ts.take z.1).map bM)).length z.2 (aO (⟨t.kind,t.name,t.kids.length⟩::ay ((ts.take z.1).map bM)))::q3::q::F) (fun z=>z.1≤ts.length) (fun z=>ts.length - z.1) (0,.slice (some ⟨bs,0,none⟩) 1 1) (Nat.zero_le _) ?_ ?_ ?_
 ·exact SE rfl
 ·dsimp only
  rw [List.take_zero,List.map_nil,ay,show aO [⟨t.kind,t.name,t.kids.length⟩]=[i64 (t.kind:Nat),str t.name,i64 (t.kids.length:Nat)] by unfold aO;rfl]
  exact ImpS.sb (by ((refine Sb.c Tk.h ?_;exact SB);skip))
 rintro ⟨i,v4⟩ hi
 dsimp only at hi ⊢
 have hti:=wS (ts.map bM) i
 rw [← List.map_take] at hti
 by_cases hlt:i < ts.length
 ·have d1:decide ((i:Int) < (t.kids.length:Int))=true:=decide_eq_true (by omega)
  obtain ⟨u,hu⟩:∃ u,ts[i]?=some u:=⟨_,List.getElem?_eq_getElem hlt⟩
  obtain ⟨w,hw,_,hwR⟩:=hK.2 i u (by omega) hu
  obtain ⟨b3,o3,rfl,hr4⟩:=hr3 (by omega)
  have r1:Rd q3 ⟨b3,o3+i * 1,none⟩ w:=by rw [Nat.mul_one];exact hr4 i w hw
  have hul:=hkid u ((hmem u).1 (List.mem_of_getElem? hu))
  have hrec:=ih q w u hwR (by omega) (by omega)
  have hsn:ay ((ts.take (i+1)).map bM)=ay ((ts.take i).map bM)++flat (bM u):=by rw [aG hu,List.map_append,kC,List.map_cons,List.map_nil,ay,ay,List.append_nil]
  obtain ⟨aw,cw,rfl⟩:=aZ hwR
  have hLu:=mg u
  (apply Ru;refine scT ?_;refine six ?_;refine sld (by assumption) ?_;apply Ru)
  refine scl (hrec) ?_
  rintro v28 _ rfl
  refine GO.ownRd (n:=(flat (bM u)).length) (xs:=aO (flat (bM u))) Tk.h fun q2 hq2=>?_
  refine GO.appendFrom (m:=(flat (bM u)).length) (q:=q2) rfl rfl rfl (Tk.t (Tk.t Tk.h)) Tk.h hq2 (eJ _) ⟨by decide,rfl⟩ (by unfold maxLen;rw [List.length_cons];omega) (by rw [List.length_cons];omega) fun v5=>?_
  (apply Ru;refine sad ?_)
  refine ⟨(i+1,v5),hlt,by dsimp only;omega,?_,?_⟩
  ·exact SE rfl
  ·dsimp only
   rw [hsn,show (⟨t.kind,t.name,t.kids.length⟩:NodeD)::(ay ((ts.take i).map bM)++flat (bM u))=(⟨t.kind,t.name,t.kids.length⟩::ay ((ts.take i).map bM))++flat (bM u) from rfl,gv,List.length_append]
   exact ImpS.sb SB
 ·have d1:decide ((i:Int) < (t.kids.length:Int))=false:=decide_eq_false (by omega)
  rw [List.take_of_length_le (by omega)]
  (apply Ru;refine scF ?_)
  exact kr1 rfl rfl
theorem wc (q:HP) (v:Value) (t:Tree) (hq:NodesR q v (flat t)) (hb:¬ 4096 < (flat t).length) (hc:bq (flat t)=0) :
  Fn Tryz.prog 39 #[v] [q] (fun r Q=>∃ v',r=.tuple #[v',i64 0]∧Q=[own 93 3 (flat (bM t)).length v' (aO (flat (bM t))),q]):=by
 have hck:=check_spec q v _ hq (by omega)
 rw [hc] at hck
 have htn:=ye (flat t).length q v t hq (Nat.le_refl _) hb
 obtain ⟨a,cap,rfl⟩:=aZ hq
 refine Fn.mk2 Tryz.func39 rfl rfl fun w0 F=>?_
 apply Ru
 refine scl (hck) ?_
 rintro _ _ ⟨rfl,rfl⟩
 apply Ru
 refine scl (htn) ?_
 rintro v11 _ rfl
 apply Ru
 exact kr2 rfl ⟨_,rfl,rfl⟩
end
section
theorem GO.bytesStr {P:Program} {c:Cx} {A:Array Oper} {rest:List Oper} {K:aY} {L:Env} {H F:List HP} {t:TypeId} {p:String} {e:Array Edge} {d:Nat} {ts td el:TypeId} {b o cap n:Nat} {l:List UInt8} {q:HP} {x:Operand} [hs:UL P ts (.slice el)] [he:UL P el (.int .u8)] [hd:UL P td .string] (hN:Nat.blt d c.N=true) (hx:evl L x=some (.slice (some ⟨b,o,none⟩) n cap)) (hn:l.length=n) (tk:Tk q H F)
  (hr:∀ j y,l[j]?=some y→Rd q ⟨b,o+j,none⟩ (u8 y)) (k:GO P c A rest K ((d,str l)::L) H):GO P c A (⟨some d,.convert ts td x,t,p,e,none⟩::rest) K L H:=
 GO.val hN rfl (fun a w Y h s=>by
  subst hn
  have s':=ai (List.Perm.append_right Y tk) s
  simp only [execOp,h.eval hx]
  rw [Sem.run_bind,run_convert_bytes_back (P:=P) w ts td el ⟨b,o,none⟩ cap l hs.out he.out hd.out (fun j hj=>by rw [cL];exact hr j _ (List.getElem?_eq_getElem hj) _ w s')]
  rfl) k
def jQ (i:Nat):List UInt8:=[81,95,UInt8.ofNat (48+i / 10),UInt8.ofNat (48+i % 10)]
def dW (ns:List (List UInt8)) (n:Nat):List (List UInt8):=ns++(List.range (n - ns.length)).map fun j=>jQ (ns.length+j)
def gI (ns:List (List UInt8)):Bool:=ns.any fun s=>decide (s.take 2=[81,95])
theorem Ce (ns:List (List UInt8)):dW ns ns.length=ns:=by unfold dW;rw [Nat.sub_self,List.range_zero];simp
theorem yO {ns:List (List UInt8)} {i:Nat} (h:ns.length≤i):dW ns (i+1)=dW ns i++[jQ i]:=by
 unfold dW
 rw [show i+1 - ns.length=(i - ns.length)+1 by omega,List.range_succ,List.map_append,List.append_assoc,List.map_cons,List.map_nil,show ns.length+(i - ns.length)=i by omega]
theorem iw {ns:List (List UInt8)} {i:Nat} (h:ns.length≤i):(dW ns i).length=i:=by
 unfold dW
 rw [List.length_append,List.length_map,List.length_range]
 omega
attribute [local irreducible] bO cz G GO GR GT GW Fn FnX FnV FnXV Dfr pt init exs pur sat own ImpS az aP cO aI aO
theorem tO (q:HP) (v:Value) (g:List RuleD) (hq:RulesR q v g) (hf:FitG g) (hb:∀ r∈g,bq r.body=0) :
  Fn Tryz.prog 12 #[v] [q] (fun r Q=>∃ v' z,r=.tuple #[v',.bool true]∧RulesR z v' (ey g)∧Q=[z,q]):=by
 have hrd:=fun i r h=>fF (i:=i) (r:=r) hq h
 have hlen:=hf.len
 have hbl:=hf.body
 obtain ⟨a,cap,rfl⟩:=bN hq
 clear hq
 refine Fn.mk2 Tryz.func12 rfl rfl fun w0 F=>?_
 refine G.ownNil (T:=97) (sz:=2) ?_
 refine G.imp (H':=pur True::_) (fun _ _ s=>bF.2 ⟨trivial,s⟩) ?_
 apply Ru
 refine G.loopI (σ:=Nat × List Value × Value × HP) (fun x=>[(0,.slice a g.length cap),(4,x.2.2.1),(5,i64 (x.1:Nat))]) (fun x=>own 97 2 x.1 x.2.2.1 x.2.1::x.2.2.2::q::F)
  (fun x=>x.1≤g.length∧BodiesR x.2.2.2 ((g.take x.1).map qM) x.2.1) (fun x=>g.length - x.1) (0,[],.slice none 0 0,pur True) ⟨Nat.zero_le _,by rw [List.take_zero];exact BodiesR.nil _⟩ ?_ ?_ ?_
 ·exact SE rfl
 ·exact ImpS.sb SB
 rintro ⟨i,vs,v4,z⟩ ⟨hi,hB⟩
 dsimp only at hi hB ⊢
 apply Ru
 by_cases hlt:i < g.length
 ·have d1:decide ((i:Int) < (g.length:Int))=true:=decide_eq_true (by omega)
  obtain ⟨r,hr⟩:∃ r,g[i]?=some r:=⟨_,List.getElem?_eq_getElem hlt⟩
  have hrm:=List.mem_of_getElem? hr
  obtain ⟨b,o,cap2,w,e,_,hw,rr⟩:=hrd i r hr
  injection e with e _ e2
  subst e e2
  have r0:Rd q ⟨b,o+i * 2+0,none⟩ (str r.head):=rr 0 _ rfl
  have r1:Rd q ⟨b,o+i * 2+1,none⟩ w:=rr 1 _ rfl
  have hck:=hb r hrm
  obtain ⟨_,t,ht,_,_⟩:=fy hck
  have hbl:=hbl r hrm
  rw [← ht] at hck hbl hw
  have htu:=wc q w t hw hbl hck
  have hR:qM r=⟨r.head,flat (bM t)⟩:=by unfold qM;rw [← ht,bW]
  have hsn:(g.take (i+1)).map qM=(g.take i).map qM++[⟨r.head,flat (bM t)⟩]:=by rw [aG hr,List.map_append,← hR];rfl
  obtain ⟨aw,cw,rfl⟩:=aZ hw
  (refine scT ?_;refine six ?_;refine sld (by assumption) ?_)
  refine scl (htu) ?_
  rintro _ _ ⟨v20,rfl,rfl⟩
  refine GO.ownRdK (v:=v20) Tk.h fun q2 hq2=>?_
  obtain ⟨a2,c2,rfl⟩:=aZ hq2
  refine GO.merge (x:=q2) (y:=z) (Tks.c Tk.h (Tks.c (Tk.t (Tk.t Tk.h)) Tks.n)) ?_
  (apply Ru;refine six ?_;refine sld (by assumption) ?_;apply Ru)
  refine GO.buildSlice1 (n:=2) rfl rfl (fun v hv=>by rw [List.mem_singleton.1 hv];rfl) rfl ⟨by decide,by decide⟩ fun bs=>?_
  refine GO.appendOwn (m:=1) (news:=[str r.head,.slice a2 (flat (bM t)).length c2]) rfl rfl rfl (Tk.t (Tk.t (Tk.t Tk.h))) Tk.h rfl (by simp [str,Value.oneCell']) ⟨by decide,rfl⟩ Nat.one_pos (by unfold maxLen;omega) (by omega) fun v5=>?_
  (apply Ru;refine sad ?_)
  refine ⟨(i+1,vs++[str r.head,.slice a2 (flat (bM t)).length c2],v5,aL [q2,z]),⟨hlt,?_⟩,by dsimp only;omega,?_,ImpS.sb ?_⟩
  ·dsimp only
   rw [hsn]
   exact (hB.sup (Sup.right _ _)).snoc rfl (hq2.sup (Sup.left _ _))
  ·exact SE rfl
  ·exact SB
 ·have d1:decide ((i:Int) < (g.length:Int))=false:=decide_eq_false (by omega)
  have hin:i=g.length:=by omega
  subst hin
  rw [List.take_length] at hB
  refine G.ownRdK (v:=v4) Tk.h fun q2 hq2=>?_
  obtain ⟨a2,c2,rfl⟩:∃ a c,v4=.slice a g.length c:=let ⟨a,c,h,_⟩:=hq2;⟨a,c,h⟩
  refine G.merge (x:=q2) (y:=z) (Tks.c Tk.h (Tks.c Tk.h Tks.n)) ?_
  refine scF ?_
  refine KF2.r2 rfl (RV.t rfl) (RV.t rfl) ⟨_,aL [q2,z],rfl,⟨vs,hB.sup (Sup.right _ _),?_⟩,rfl⟩ (ImpS.sb ?_)
  ·have:(ey g).length=g.length:=by unfold ey;rw [List.length_map]
   rw [this]
   exact hq2.sup (Sup.left _ _)
  exact SB
theorem wX (q:HP) (v:Value) (ns:List (List UInt8)) (hq:dH q v ns) (hl:¬ 1048576 < ns.length):Fn Tryz.prog 14 #[v] [q] (fun r Q=>r=.bool (gI ns)∧Q=[q]):=by
 have hrd:∀ i x,ns[i]?=some x→_:=fun i x h=>eX hq h
 obtain ⟨a,cap,rfl⟩:=bX hq
 clear hq
 refine Fn.mk2 Tryz.func14 rfl rfl fun w0 F=>?_
 apply Ru
 refine G.loopI (σ:=Nat) (fun i=>[(0,.slice a ns.length cap),(3,i64 (i:Nat))]) (fun _=>q::F) (fun i=>i≤ns.length∧gI (ns.take i)=false) (fun i=>ns.length - i) 0 ⟨Nat.zero_le _,rfl⟩ ?_ ?_ ?_
 ·exact SE rfl
 ·exact ImpS.sb SB
 rintro i ⟨hi,hp⟩
 apply Ru
 by_cases hlt:i < ns.length
 ·have d1:decide ((i:Int) < (ns.length:Int))=true:=decide_eq_true (by omega)
  obtain ⟨x,hx⟩:∃ x,ns[i]?=some x:=⟨_,List.getElem?_eq_getElem hlt⟩
  obtain ⟨b,o,cap2,e,_,rx⟩:=hrd i x hx
  injection e with e _ e2
  subst e e2
  have hstep:∀ c,decide (x.take 2=[81,95])=c→gI (ns.take (i+1))=c:=fun c h=>by
   unfold gI at hp ⊢
   rw [aG hx,List.any_append,hp,List.any_cons,h,List.any_nil,Bool.or_false,Bool.false_or]
  have hyes:decide (x.take 2=[81,95])=true→gI ns=true:=fun h=>by
   unfold gI
   exact List.any_eq_true.2 ⟨x,List.mem_of_getElem? hx,h⟩
  by_cases h2:2≤x.length
  ·have d2:decide ((2:Int)≤(x.length:Int))=true:=decide_eq_true (by omega)
   cases d3:decide (x.take 2=[(81:UInt8),95])
   ·have hs:=hstep _ d3
    (refine scT ?_;refine six ?_;refine sld (by assumption) ?_;apply Ru;refine sgT ?_;refine sgT ?_;refine sgT ?_;refine six ?_;refine sgT ?_;refine sld (by assumption) ?_;refine sgT ?_)
    refine GO.strHi (b:=2) rfl rfl rfl ⟨rfl,h2⟩ ?_
    (refine sgT ?_;refine GO.binS rfl rfl rfl rfl ?_;refine spT ?_;refine scF ?_;refine sad ?_)
    refine ⟨i+1,⟨hlt,hs⟩,by omega,?_,ImpS.sb ?_⟩
    ·exact SE rfl
    ·exact SB
   ·have hy:=hyes d3
    (refine scT ?_;refine six ?_;refine sld (by assumption) ?_;apply Ru;refine sgT ?_;refine sgT ?_;refine sgT ?_;refine six ?_;refine sgT ?_;refine sld (by assumption) ?_;refine sgT ?_)
    refine GO.strHi (b:=2) rfl rfl rfl ⟨rfl,h2⟩ ?_
    (refine sgT ?_;refine GO.binS rfl rfl rfl rfl ?_;refine spT ?_;refine scT ?_)
    exact kr1 rfl ⟨by rw [hy],rfl⟩
  ·have d2:decide ((2:Int)≤(x.length:Int))=false:=decide_eq_false (by omega)
   have hs:=hstep false (decide_eq_false fun h=>h2 (by have:=congrArg List.length h;rw [List.length_take] at this;simp only [List.length_cons,List.length_nil] at this;omega))
   (refine scT ?_;refine six ?_;refine sld (by assumption) ?_;apply Ru;refine sgF ?_;refine sgF ?_;refine sgF ?_;refine sgF ?_;refine sgF ?_;refine sgF ?_;refine spF ?_;refine sad ?_)
   refine ⟨i+1,⟨hlt,hs⟩,by omega,?_,ImpS.sb ?_⟩
   ·exact SE rfl
   ·exact SB
 ·have d1:decide ((i:Int) < (ns.length:Int))=false:=decide_eq_false (by omega)
  rw [List.take_of_length_le (by omega)] at hp
  refine scF ?_
  exact kr1 rfl ⟨by rw [hp],rfl⟩
theorem CD {i:Nat} (h:i < 256):(.int .u8 (i:Int):Value)=u8 (UInt8.ofNat i):=by
 unfold u8
 rw [UInt8.toNat_ofNat_of_lt' (by simpa using h)]
theorem xq {m:Nat} (h:m < 256):IntKind.u8.wrap (m:Int)=(m:Int):=by
 have:IntKind.u8.wrap (m:Int)=(m:Int) % 256:=rfl
 omega
theorem qC (q:HP) (v:Value) (ns:List (List UInt8)) (n:Nat) (hq:dH q v ns) (hl:ns.length≤n) (hn:¬ 100 < n):Fn Tryz.prog 10 #[v,i64 (n:Nat)] [q] (fun r Q=>Q=[own 9 1 (dW ns n).length r (aI (dW ns n)),q]):=by
 obtain ⟨a,cap,rfl⟩:=bX hq
 refine Fn.mk2 Tryz.func10 rfl rfl fun w0 F=>?_
 refine G.ownNil (T:=9) (sz:=1) ?_
 apply Ru
 refine GO.appendFrom (m:=ns.length) (q:=q) rfl rfl rfl Tk.h Tk.h hq.sl (qU _) ⟨by decide,rfl⟩ (by unfold maxLen;omega) (by omega) fun v5=>?_
 rw [List.nil_append,Nat.zero_add ns.length]
 apply Ru
 refine G.loopI (σ:=Nat × Value) (fun x=>[(1,i64 (n:Nat)),(5,x.2),(6,i64 (x.1:Nat))]) (fun x=>own 9 1 x.1 x.2 (aI (dW ns x.1))::q::F) (fun x=>ns.length≤x.1∧x.1≤n) (fun x=>n - x.1) (ns.length,v5) ⟨Nat.le_refl _,hl⟩ ?_ ?_ ?_
 ·exact SE rfl
 ·dsimp only
  rw [Ce]
  exact ImpS.sb SB
 rintro ⟨i,v5⟩ ⟨h1,h2⟩
 dsimp only at h1 h2 ⊢
 by_cases hlt:i < n
 ·have d1:decide ((i:Int) < (n:Int))=true:=decide_eq_true (by omega)
  have hsn:aI (dW ns (i+1))=aI (dW ns i)++[str (jQ i)]:=by rw [yO h1];unfold aI;simp
  have e1:((48:Int)+(i:Int) / 10)=((48+i / 10:Nat):Int):=by omega
  have e2:((48:Int)+(i:Int) % 10)=((48+i % 10:Nat):Int):=by omega
  have hv1:=CD (i:=48+i / 10) (by omega)
  have hv2:=CD (i:=48+i % 10) (by omega)
  (apply Ru;refine scT ?_;refine GO.quoi rfl rfl rfl (by omega) ?_;refine sad ?_)
  rw [e1]
  refine GO.conv rfl rfl (xq (by omega)) ?_
  rw [hv1]
  (apply Ru;refine GO.remi rfl rfl rfl (by omega) ?_;refine sad ?_)
  rw [e2]
  refine GO.conv rfl rfl (xq (by omega)) ?_
  rw [hv2]
  refine GO.buildSlice2 (n:=1) rfl rfl rfl (fun v hv=>by simp only [List.mem_cons,List.not_mem_nil,or_false] at hv;rcases hv with rfl | rfl <;> rfl) rfl ⟨by decide,by decide⟩ fun bs=>?_
  refine GO.bytesStr (l:=[UInt8.ofNat (48+i / 10),UInt8.ofNat (48+i % 10)]) rfl rfl rfl Tk.h (fun j y hj=>by rw [Nat.zero_add];exact Rd.row (by match j,hj with | 0,h=>(cases h;rfl) | 1,h=>(cases h;rfl))) ?_
  refine GO.strCat (a:=[81,95]) (b:=[UInt8.ofNat (48+i / 10),UInt8.ofNat (48+i % 10)]) rfl rfl rfl (by simp only [List.length_cons,List.length_nil];omega) ?_
  rw [show ([81,95]:List UInt8)++[UInt8.ofNat (48+i / 10),UInt8.ofNat (48+i % 10)]=jQ i from rfl]
  refine GO.buildSlice1 (n:=1) rfl rfl (fun v hv=>by rw [List.mem_singleton.1 hv];rfl) rfl ⟨by decide,by decide⟩ fun bs2=>?_
  refine GO.appendOwn (m:=1) (news:=[str (jQ i)]) rfl rfl rfl (Tk.t (Tk.t Tk.h)) Tk.h rfl (by simp [str,Value.oneCell']) ⟨by decide,rfl⟩ Nat.one_pos (by unfold maxLen;omega) (by omega) fun v8=>?_
  rw [← hsn]
  (apply Ru;refine sad ?_)
  refine ⟨(i+1,v8),⟨by dsimp only;omega,hlt⟩,by dsimp only;omega,?_,ImpS.sb ?_⟩
  ·exact SE rfl
  ·exact SB
 ·have d1:decide ((i:Int) < (n:Int))=false:=decide_eq_false (by omega)
  have hin:i=n:=by omega
  subst hin
  rw [iw hl]
  (apply Ru;refine scF ?_)
  exact kr1 rfl rfl
end
section
theorem vk {l:List (List UInt8)} {s:List UInt8}:pp l s=true↔s∈l:=by
 unfold pp
 rw [List.any_eq_true]
 exact ⟨fun ⟨x,h,e⟩=>of_decide_eq_true e ▸ h,fun h=>⟨s,h,decide_eq_true rfl⟩⟩
attribute [local irreducible] bO cz G GO GR GT GW Fn FnX FnV FnXV Dfr pt init exs pur sat own ImpS az aP cO bq pp
theorem mR (q:HP) (v:Value) (l:List (List UInt8)) (k:Nat) (hq:dH q v l) (hl:¬ 1048576 < l.length):Fn Tryz.prog 36 #[v,i64 (k:Nat)] [q] (fun r Q=>∃ b,r=.bool b∧(b=true↔l.Nodup∧∀ s∈l,bq [⟨k,s,0⟩]=0)∧Q=[q]):=by
 have hrd:∀ i x,l[i]?=some x→_:=fun i x h=>eX hq h
 have hsl:=hq.sl
 obtain ⟨a,cap,rfl⟩:=bX hq
 clear hq
 refine Fn.mk2 Tryz.func36 rfl rfl fun w0 F=>?_
 apply Ru
 refine G.loopI (σ:=Nat) (fun i=>[(0,.slice a l.length cap),(1,i64 (k:Nat)),(7,.slice a l.length cap),(8,i64 (l.length:Nat)),(9,i64 (i:Nat))]) (fun _=>q::F) (fun i=>i≤l.length∧(l.take i).Nodup∧∀ s∈l.take i,bq [⟨k,s,0⟩]=0) (fun i=>l.length - i) 0 ⟨Nat.zero_le _,List.nodup_nil,fun s hs=>by rw [List.take_zero] at hs;cases hs⟩ ?_ ?_ ?_
 ·exact SE rfl
 ·exact ImpS.sb SB
 rintro i ⟨hi,hn,hc⟩
 by_cases hlt:i < l.length
 ·have d1:decide ((i:Int) < (l.length:Int))=true:=decide_eq_true (by omega)
  obtain ⟨x,hx⟩:∃ x,l[i]?=some x:=⟨_,List.getElem?_eq_getElem hlt⟩
  have hxm:=List.mem_of_getElem? hx
  obtain ⟨b,o,cap2,e,hcap,rx⟩:=hrd i x hx
  injection e with e _ e2
  subst e e2
  have hst:aI (l.take i)=(aI l).take (i * 1):=by unfold aI;rw [List.map_take,Nat.mul_one]
  have hsi:=Sl.take hsl (m:=i) (by omega)
  rw [← hst] at hsi
  have hli:(l.take i).length=i:=by rw [List.length_take];omega
  have hct:=rX q (.slice (some ⟨b,o,none⟩) i cap) (l.take i) x (by rw [hli];exact hsi) (by omega)
  (apply Ru;refine scT ?_;refine six ?_;refine sld (by assumption) ?_;apply Ru)
  refine GO.buildP2 (eS (k:Nat) x) rfl rfl rfl ?_
  refine GO.buildSlice1 (n:=3) rfl rfl (fun v hv=>by rw [List.mem_singleton.1 hv];rfl) rfl ⟨by decide,by decide⟩ fun bs=>?_
  refine GO.ownIn (n:=1) (sz:=3) Tk.h rfl (by decide) ?_
  refine GO.ownRdK (n:=1) (sz:=3) Tk.h fun q17 h17=>?_
  have h17:NodesR q17 (.slice (some ⟨bs,0,none⟩) 1 1) [⟨k,x,0⟩]:=h17
  have hck:=check_spec q17 _ _ h17 (by show ¬ 1048576 < 1;decide)
  refine scl (hck) ?_
  rintro _ _ ⟨rfl,rfl⟩
  by_cases h0:bq [⟨k,x,0⟩]=0
  ·have d2:decide (((bq [⟨k,x,0⟩]:Nat):Int)≠0)=false:=decide_eq_false (by omega)
   (apply Ru;refine sgT ?_;refine sgT ?_;refine sgT ?_)
   refine GO.sliceHi (l:=i) rfl rfl rfl ⟨rfl,by omega⟩ ?_
   (refine sgT ?_;refine sgT ?_)
   refine scl (hct) ?_
   rintro _ _ ⟨rfl,rfl⟩
   cases hh:pp (l.take i) x
   ·have hnot:x ∉ l.take i:=fun hm=>by rw [vk.2 hm] at hh;cases hh
    (refine spF ?_;refine sad ?_)
    refine ⟨i+1,⟨hlt,?_,?_⟩,by omega,?_,ImpS.sb ?_⟩
    ·rw [aG hx,List.nodup_append]
     exact ⟨hn,List.nodup_cons.2 ⟨(by simp),List.nodup_nil⟩,fun y hy z hz e=>hnot (by rw [List.mem_singleton.1 hz] at e;rw [← e];exact hy)⟩
    ·intro s hs
     rw [aG hx,List.mem_append,List.mem_singleton] at hs
     rcases hs with hs | rfl
     ·exact hc s hs
     ·exact h0
    ·exact SE rfl
    ·exact SB
   ·have hyes:=vk.1 hh
    refine spF ?_
    refine KF2.r1 rfl (RV.t rfl) ⟨false,rfl,⟨fun h=>(by cases h),fun h=>?_⟩,rfl⟩ (ImpS.sb ?_)
    ·exact absurd hyes (ku h.1 hx)
    exact SB
  ·have d2:decide (((bq [⟨k,x,0⟩]:Nat):Int)≠0)=true:=decide_eq_true (by omega)
   (apply Ru;refine sgF ?_;refine sgF ?_;refine sgF ?_;refine sgF ?_;refine sgF ?_;refine spT ?_)
   exact kr1 rfl ⟨false,rfl,⟨fun h=>(by cases h),fun h=>absurd (h.2 x hxm) h0⟩,rfl⟩
 ·have d1:decide ((i:Int) < (l.length:Int))=false:=decide_eq_false (by omega)
  rw [List.take_of_length_le (by omega)] at hn hc
  (apply Ru;refine scF ?_)
  exact kr1 rfl ⟨true,rfl,⟨fun _=>⟨hn,hc⟩,fun _=>rfl⟩,rfl⟩
end
section
def hdB (n:Nat):List NodeD:=if n=0 then [⟨1,[],0⟩] else if n=1 then [] else [⟨4,[],n⟩]
def fY (ns ls:List (List UInt8)) (s:cc):NodeD:=⟨if s.1=true then 3 else 2,f8 ns ls s,0⟩
theorem ng (ns ls:List (List UInt8)):∀ b:List cc,ay (b.map (jM ns ls))=b.map (fY ns ls)
 | []=>by rw [List.map_nil,ay];rfl
 | s::b=>by rw [List.map_cons,ay,ng ns ls b,List.map_cons];unfold jM;rw [flat,ay];rfl
theorem pz (ns ls:List (List UInt8)) (b:List cc):flat (kS ns ls b)=hdB b.length++b.map (fY ns ls):=by
 match b with
 | []=>show flat (.node 1 [] [])=_;rw [flat,ay];rfl
 | [s]=>show flat (jM ns ls s)=_;unfold jM;rw [flat,ay];rfl
 | s::t::b=>show flat (.node 4 [] ((s::t::b).map (jM ns ls)))=_;rw [flat,ng,List.length_map];rfl
theorem Ck (n:Nat):(hdB n).length≤1:=by
 unfold hdB
 split
 ·exact Nat.le_refl _
 ·split
  ·exact Nat.zero_le _
  ·exact Nat.le_refl _
def CI (ns ls:List (List UInt8)) (s:cc):Prop:=0≤s.2∧s.2.toNat < (if s.1=true then ls else ns).length
attribute [local irreducible] bO cz G GO GR GT GW Fn FnX FnV FnXV Dfr pt init exs pur sat own ImpS az aP cO
theorem wn (b4 b5:Nat) (qn ql:HP) (vn vl:Value) (ns ls:List (List UInt8)) (s:cc) (hn:dH qn vn ns) (hl:dH ql vl ls) (hs:CI ns ls s) :
  Fn Tryz.prog 37 #[.agg #[.bool s.1,i64 s.2],ah b5,ah b4] [pt b5 (row [vl] 22),pt b4 (row [vn] 22),qn,ql] (fun r Q=>r=.agg (fS (fY ns ls s)).toArray∧Q=[pt b5 (row [vl] 22),pt b4 (row [vn] 22),qn,ql]):=by
 have hrn:∀ i x,ns[i]?=some x→_:=fun i x h=>eX hn h
 have hrl:∀ i x,ls[i]?=some x→_:=fun i x h=>eX hl h
 obtain ⟨an,cn,rfl⟩:=bX hn
 obtain ⟨al,cl,rfl⟩:=bX hl
 obtain ⟨c,n⟩:=s
 obtain ⟨h0,h1⟩:=hs
 dsimp only at h0 h1 ⊢
 obtain ⟨m,rfl⟩:∃ m:Nat,n=(m:Nat):=⟨n.toNat,(Int.toNat_of_nonneg h0).symm⟩
 rw [Int.toNat_natCast] at h1
 clear hn hl
 refine Fn.mk2 Tryz.func37 rfl rfl fun w0 F=>?_
 cases c
 ·rw [if_neg Bool.false_ne_true] at h1
  have e:=List.getElem?_eq_getElem h1
  have hnm:fY ns ls (false,((m:Nat):Int))=⟨2,ns[m],0⟩:=by unfold fY f8;rw [if_neg Bool.false_ne_true,if_neg Bool.false_ne_true,Int.toNat_natCast,e];rfl
  obtain ⟨b,o,cap2,e2,_,rx⟩:=hrn m _ e
  injection e2 with e2 _ e3
  subst e2 e3
  rw [hnm]
  generalize ns[m]=nm at *
  (apply Ru;refine sbx fun b3=>?_;refine sal fun b4=>?_;apply Ru;refine six ?_;refine sld (by assumption) ?_)
  refine GO.buildP2 (eS 2 nm) rfl rfl rfl ?_
  apply Ru
  refine KF2.r1 rfl (RV.cW (n:=3) rfl rfl (by (exact Tk.h)) rfl) ⟨rfl,rfl⟩ (ImpS.sb ?_)
  exact SB
 ·rw [if_pos rfl] at h1
  have e:=List.getElem?_eq_getElem h1
  have hnm:fY ns ls (true,((m:Nat):Int))=⟨3,ls[m],0⟩:=by unfold fY f8;rw [if_pos rfl,if_pos rfl,Int.toNat_natCast,e];rfl
  obtain ⟨b,o,cap2,e2,_,rx⟩:=hrl m _ e
  injection e2 with e2 _ e3
  subst e2 e3
  rw [hnm]
  generalize ls[m]=nm at *
  (apply Ru;refine sbx fun b3=>?_;refine sal fun b4=>?_;apply Ru;refine six ?_;refine sld (by assumption) ?_)
  refine GO.buildP2 (eS 3 nm) rfl rfl rfl ?_
  apply Ru
  refine KF2.r1 rfl (RV.cW (n:=3) rfl rfl (by (exact Tk.h)) rfl) ⟨rfl,rfl⟩ (ImpS.sb ?_)
  exact SB
end
section
def fh (k:Nat) (l:List (List UInt8)):Prop:=l.Nodup∧∀ s∈l,bq [⟨k,s,0⟩]=0
theorem vP (ns ls:List (List UInt8)) (b:List cc) (j:Nat):(hdB b.length++(b.take j).map (fY ns ls)).length≤b.length+1:=by
 have:=Ck b.length
 rw [List.length_append,List.length_map,List.length_take]
 omega
attribute [local irreducible] bO cz G GO GR GT GW Fn FnX FnV FnXV Dfr pt init exs pur sat own ImpS az aP cO Pr.symsV bq aI aO hdB
theorem ud (q qn ql:HP) (v vn vl:Value) (C:Pr.CnfD) (ns ls:List (List UInt8)) (hv:Pr.CnfR q v C) (hok:Pr.okC C=true) (h2:∀ p∈C.prods,p.2.length≤2) (hpl:C.prods.length≤1048576) (hn:dH qn vn ns) (hl:dH ql vl ls) (hnl:(ns.length:Int)=C.nts) (hns:¬ 100 < ns.length) (hls:¬ 100 < ls.length)
  (hin:∀ p∈C.prods,(0≤p.1∧p.1.toNat < ns.length)∧∀ s∈p.2,CI ns ls s) :
  Fn Tryz.prog 9 #[v,vn,vl] [q,qn,ql] (fun r Q=>∃ (v':Value) (e:Nat) (z:HP),r=.tuple #[v',i64 (e:Nat)]∧Q=[z,q,qn,ql]∧((e=2∧¬ (fh 2 ns∧fh 3 ls))∨(e=0∧fh 2 ns∧fh 3 ls∧RulesR z v' (di ns ls C.prods)))):=by
 have hz:Pr.Fits C:=⟨by omega,fun p hp=>by have:=h2 p hp;omega⟩
 have hck:=Pr.check_spec q v C hv hz
 rw [hok,if_pos rfl] at hck
 have hun:=mR qn vn ns 2 hn (by omega)
 have hul:=mR ql vl ls 3 hl (by omega)
 have hnode:=fun b4 b5 s hs=>wn b4 b5 qn ql vn vl ns ls s hn hl hs
 have hrn:∀ i x,ns[i]?=some x→_:=fun i x h=>eX hn h
 obtain ⟨pv0,rfl,hp⟩:=hv
 obtain ⟨a0,cap0,rfl⟩:=hp.form
 obtain ⟨an,cn,rfl⟩:=bX hn
 obtain ⟨al,cl,rfl⟩:=bX hl
 refine Fn.mk2 Tryz.func9 rfl rfl fun w0 F=>?_
 (apply Ru;refine sbx fun b3=>?_;refine sbx fun b4=>?_;refine sbx fun b5=>?_;apply Ru;refine GO.loadW rfl rfl rfl (Tk.t (Tk.t Tk.h)) rfl ?_)
 refine scl (hck) ?_
 rintro _ _ ⟨rfl,rfl⟩
 apply Ru
 refine G.loopI (σ:=Nat × Nat) (fun x=>[(3,ah b3),(4,ah b4),(5,ah b5),(9,i64 (x.2:Nat)),(27,.slice a0 C.prods.length cap0),(28,i64 (C.prods.length:Nat)),(29,i64 (x.1:Nat))]) (fun _=>pt b3 (row [i64 C.nts,.slice a0 C.prods.length cap0] 33)::pt b4 (row [.slice an ns.length cn] 22)::pt b5 (row [.slice al ls.length cl] 22)::q::qn::ql::F) (fun x=>x.1≤C.prods.length∧x.2≤ls.length) (fun x=>C.prods.length - x.1) (0,0) ⟨Nat.zero_le _,Nat.zero_le _⟩ ?_ ?_ ?_
 ·exact SE rfl
 ·exact ImpS.sb SB
 ·rintro ⟨i,m⟩ ⟨hi,hm⟩
  dsimp only at hi hm ⊢
  by_cases hlt:i < C.prods.length
  ·have d1:decide ((i:Int) < (C.prods.length:Int))=true:=decide_eq_true (by omega)
   obtain ⟨p,hpi⟩:∃ p,C.prods[i]?=some p:=⟨_,List.getElem?_eq_getElem hlt⟩
   have hpm:=List.mem_of_getElem? hpi
   have hp2:=h2 p hpm
   have hsin:=(hin p hpm).2
   obtain ⟨b,o,bv,rfl,_,r1,r2,hsy⟩:=hp.at hpi
   obtain ⟨ab,capb,rfl⟩:=hsy.form
   (apply Ru;refine scT ?_;refine six ?_;refine sl2 (by assumption) (by assumption) ?_;refine sal fun b11=>?_;apply Ru)
   refine G.loopI (σ:=Nat × Nat) (fun x=>[(3,ah b3),(4,ah b4),(5,ah b5),(9,i64 (x.2:Nat)),(27,.slice (some ⟨b,o,none⟩) C.prods.length cap0),(28,i64 (C.prods.length:Nat)),(29,i64 (i:Nat)),(34,.slice ab p.2.length capb),(35,i64 (p.2.length:Nat)),(36,i64 (x.1:Nat))]) (fun _=>pt b3 (row [i64 C.nts,.slice (some ⟨b,o,none⟩) C.prods.length cap0] 33)::pt b4 (row [.slice an ns.length cn] 22)::pt b5 (row [.slice al ls.length cl] 22)::q::qn::ql::F) (fun x=>x.1≤p.2.length∧x.2≤ls.length) (fun x=>p.2.length - x.1) (0,m) ⟨Nat.zero_le _,hm⟩ ?_ ?_ ?_
   ·exact SE rfl
   ·exact ImpS.sb SB
   rintro ⟨j,m⟩ ⟨hj,hm⟩
   dsimp only at hj hm ⊢
   by_cases hlt2:j < p.2.length
   ·have d2:decide ((j:Int) < (p.2.length:Int))=true:=decide_eq_true (by omega)
    obtain ⟨s,hs⟩:∃ s,p.2[j]?=some s:=⟨_,List.getElem?_eq_getElem hlt2⟩
    obtain ⟨h0,h1⟩:=hsin s (List.mem_of_getElem? hs)
    obtain ⟨b6,o6,rfl,_,q1,q2⟩:=hsy.at hs
    obtain ⟨c,n⟩:=s
    obtain ⟨n,rfl⟩:∃ m:Nat,n=(m:Nat):=⟨n.toNat,(Int.toNat_of_nonneg h0).symm⟩
    dsimp only at h1 q1 q2
    rw [Int.toNat_natCast] at h1
    cases c
    ·(apply Ru;refine scT ?_;refine six ?_;refine sl2 (by assumption) (by assumption) ?_;refine sal fun b13=>?_;apply Ru;refine sad ?_)
     refine ⟨(j+1,m),⟨hlt2,hm⟩,by dsimp only;omega,?_,ImpS.sb ?_⟩
     ·exact SE rfl
     ·exact SB
    ·rw [if_pos rfl] at h1
     (apply Ru;refine scT ?_;refine six ?_;refine sl2 (by assumption) (by assumption) ?_;refine sal fun b13=>?_;apply Ru;refine sad ?_)
     refine GO.max2 rfl rfl rfl ?_
     (apply Ru;refine sad ?_)
     refine ⟨(j+1,max m (n+1)),⟨hlt2,by dsimp only;omega⟩,by dsimp only;omega,?_,ImpS.sb ?_⟩
     ·dsimp only
      rw [show ((max m (n+1):Nat):Int)=max (m:Int) ((n:Int)+1) by omega]
      exact SE rfl
     ·exact SB
   ·have d2:decide ((j:Int) < (p.2.length:Int))=false:=decide_eq_false (by omega)
    (apply Ru;refine scF ?_;refine sad ?_)
    refine ⟨(i+1,m),⟨hlt,hm⟩,by dsimp only;omega,?_,ImpS.sb ?_⟩
    ·exact SE rfl
    ·exact SB
  ·have d1:decide ((i:Int) < (C.prods.length:Int))=false:=decide_eq_false (by omega)
   have d2:decide ((ns.length:Int)≠C.nts)=false:=decide_eq_false (fun h=>h hnl)
   have d3:decide ((ls.length:Int) < (m:Int))=false:=decide_eq_false (by omega)
   (apply Ru;refine scF ?_;refine sgT ?_;refine sgT ?_;refine sgT ?_;refine sgT ?_;refine spF ?_;refine sgT ?_;refine sgT ?_)
   refine scl (hun) ?_
   rintro _ _ ⟨bb,rfl,hbb,rfl⟩
   cases bb
   ·(refine sgT ?_;refine spF ?_;refine GO.gF rfl rfl rfl rfl ?_;refine GO.gF rfl rfl rfl rfl ?_;refine GO.gF rfl rfl rfl rfl ?_;refine GO.pickT rfl rfl rfl ?_;apply Ru)
    refine KF2.r2 rfl (RV.t rfl) (RV.t rfl) ⟨.slice none 0 0,2,aL [],rfl,rfl,.inl ⟨rfl,fun h=>(by have:=hbb.2 h.1;cases this)⟩⟩ (ImpS.flat (k:=[]) (M:=q::qn::ql::F) (ImpS.sb ?_))
    exact SB
   have hN2:=hbb.1 rfl
   (refine sgT ?_;refine spF ?_;refine GO.gT rfl rfl rfl ?_;apply Ru;refine GO.gT rfl rfl rfl ?_)
   refine scl (hul) ?_
   rintro _ _ ⟨bb2,rfl,hbb2,rfl⟩
   cases bb2
   ·(refine GO.gT rfl rfl rfl ?_;apply Ru;refine GO.pickF rfl rfl rfl ?_;apply Ru;refine G.condT rfl rfl ?_;apply Ru)
    refine KF2.r2 rfl (RV.t rfl) (RV.t rfl) ⟨.slice none 0 0,2,aL [],rfl,rfl,.inl ⟨rfl,fun h=>(by have:=hbb2.2 h.2;cases this)⟩⟩ (ImpS.flat (k:=[]) (M:=q::qn::ql::F) (ImpS.sb ?_))
    exact SB
   have hN3:=hbb2.1 rfl
   clear hbb hbb2 d1 d2 d3 hun hul hck
   (refine GO.gT rfl rfl rfl ?_;apply Ru;refine GO.pickF rfl rfl rfl ?_;apply Ru;refine G.condF rfl rfl ?_;apply Ru)
   refine G.ownNil (T:=97) (sz:=2) ?_
   refine G.imp (H':=pur True::_) (fun _ _ s=>bF.2 ⟨trivial,s⟩) ?_
   refine G.loopI (σ:=Nat × List Value × Value × HP) (fun x=>[(3,ah b3),(4,ah b4),(5,ah b5),(14,.func (.func 37) #[] #[ah b5,ah b4]),(15,x.2.2.1),(72,.slice a0 C.prods.length cap0),(73,i64 (C.prods.length:Nat)),(74,i64 (x.1:Nat))]) (fun x=>own 97 2 x.1 x.2.2.1 x.2.1::x.2.2.2::pt b3 (row [i64 C.nts,.slice a0 C.prods.length cap0] 33)::pt b4 (row [.slice an ns.length cn] 22)::pt b5 (row [.slice al ls.length cl] 22)::q::qn::ql::F)
    (fun x=>x.1≤C.prods.length∧BodiesR x.2.2.2 ((C.prods.take x.1).map (mX ns ls)) x.2.1) (fun x=>C.prods.length - x.1) (0,[],.slice none 0 0,pur True) ⟨Nat.zero_le _,by rw [List.take_zero];exact BodiesR.nil _⟩ ?_ ?_ ?_
   ·exact SE rfl
   ·exact ImpS.sb SB
   clear hi hm hlt m i
   rintro ⟨i,vs,v15,z⟩ ⟨hi,hB⟩
   dsimp only at hi hB ⊢
   by_cases hlt:i < C.prods.length
   ·have d1:decide ((i:Int) < (C.prods.length:Int))=true:=decide_eq_true (by omega)
    obtain ⟨p,hpi⟩:∃ p,C.prods[i]?=some p:=⟨_,List.getElem?_eq_getElem hlt⟩
    have hpm:=List.mem_of_getElem? hpi
    have hp2:=h2 p hpm
    obtain ⟨⟨hh0,hh1⟩,hsin⟩:=hin p hpm
    obtain ⟨b,o,bv,rfl,_,r1,r2,hsy⟩:=hp.at hpi
    obtain ⟨ab,capb,rfl⟩:=hsy.form
    have hfb:=pz ns ls p.2
    have hbl:=vP ns ls p.2
    have hsn:(C.prods.take (i+1)).map (mX ns ls)=(C.prods.take i).map (mX ns ls)++[⟨(ns[p.1.toNat]?).getD [],flat (kS ns ls p.2)⟩]:=by rw [aG hpi,List.map_append];rfl
    (apply Ru;refine scT ?_;refine six ?_;refine sl2 (by assumption) (by assumption) ?_;refine sal fun b17=>?_;apply Ru)
    refine G.midBE (σ:=Value) (fun v18=>[(3,ah b3),(4,ah b4),(5,ah b5),(14,.func (.func 37) #[] #[ah b5,ah b4]),(15,v15),(17,ah b17),(18,v18),(72,.slice (some ⟨b,o,none⟩) C.prods.length cap0),(73,i64 (C.prods.length:Nat)),(74,i64 (i:Nat))]) (fun v18=>own 93 3 (hdB p.2.length).length v18 (aO (hdB p.2.length))::pt b17 (row [i64 p.1,.slice ab p.2.length capb] 82)::own 97 2 i v15 vs::z::pt b3 (row [i64 C.nts,.slice (some ⟨b,o,none⟩) C.prods.length cap0] 33)::pt b4 (row [.slice an ns.length cn] 22)::pt b5 (row [.slice al ls.length cl] 22)::q::qn::ql::F) (fun _=>True) ?_ ?_
    ·clear hsn hfb
     by_cases e0:p.2.length=0
     ·have d2:decide ((p.2.length:Int)=0)=true:=decide_eq_true (by omega)
      have hh:hdB p.2.length=[⟨1,[],0⟩]:=by unfold hdB;rw [if_pos e0]
      refine scT ?_
      refine GO.buildPart1 (nw 1) rfl rfl ?_
      refine GO.buildSlice1 (n:=3) rfl rfl (fun v hv=>by rw [List.mem_singleton.1 hv];rfl) rfl ⟨by decide,by decide⟩ fun bs=>?_
      refine GO.ownIn (n:=1) (sz:=3) Tk.h rfl (by decide) ?_
      apply Ru
      refine ⟨.slice (some ⟨bs,0,none⟩) 1 1,trivial,?_,ImpS.sb ?_⟩
      ·exact SE rfl
      ·rw [hh,show aO [⟨1,[],0⟩]=[i64 1,str [],i64 0] by unfold aO;rfl]
       ((refine Sb.c Tk.h ?_;exact SB);skip)
     by_cases e1:p.2.length=1
     ·have d2:decide ((p.2.length:Int)=0)=false:=decide_eq_false (by omega)
      have d3:decide ((p.2.length:Int)=1)=true:=decide_eq_true (by omega)
      have hh:hdB p.2.length=[]:=by unfold hdB;rw [if_neg e0,if_pos e1]
      refine G.ownNil (T:=93) (sz:=3) ?_
      (refine scF ?_;refine scT ?_)
      refine ⟨.slice none 0 0,trivial,?_,ImpS.sb ?_⟩
      ·exact SE rfl
      ·rw [hh,show aO []=[] by unfold aO;rfl,List.length_nil]
       exact SB
     ·have d2:decide ((p.2.length:Int)=0)=false:=decide_eq_false (by omega)
      have d3:decide ((p.2.length:Int)=1)=false:=decide_eq_false (by omega)
      have hh:hdB p.2.length=[⟨4,[],p.2.length⟩]:=by unfold hdB;rw [if_neg e0,if_neg e1]
      (refine scF ?_;refine scF ?_)
      refine GO.buildPart2 (fL 4 (p.2.length:Nat)) rfl rfl rfl ?_
      refine GO.buildSlice1 (n:=3) rfl rfl (fun v hv=>by rw [List.mem_singleton.1 hv];rfl) rfl ⟨by decide,by decide⟩ fun bs=>?_
      refine GO.ownIn (n:=1) (sz:=3) Tk.h rfl (by decide) ?_
      apply Ru
      refine ⟨.slice (some ⟨bs,0,none⟩) 1 1,trivial,?_,ImpS.sb ?_⟩
      ·exact SE rfl
      ·rw [hh,show aO [⟨4,[],p.2.length⟩]=[i64 4,str [],i64 (p.2.length:Nat)] by unfold aO;rfl]
       ((refine Sb.c Tk.h ?_;exact SB);skip)
    rintro v18 _
    apply Ru
    refine G.loopI (σ:=Nat × Value) (fun x=>[(3,ah b3),(4,ah b4),(5,ah b5),(14,.func (.func 37) #[] #[ah b5,ah b4]),(15,v15),(17,ah b17),(18,x.2),(72,.slice (some ⟨b,o,none⟩) C.prods.length cap0),(73,i64 (C.prods.length:Nat)),(74,i64 (i:Nat)),(93,.slice ab p.2.length capb),(94,i64 (p.2.length:Nat)),(95,i64 (x.1:Nat))]) (fun x=>own 93 3 (hdB p.2.length++(p.2.take x.1).map (fY ns ls)).length x.2 (aO (hdB p.2.length++(p.2.take x.1).map (fY ns ls)))::pt b17 (row [i64 p.1,.slice ab p.2.length capb] 82)::own 97 2 i v15 vs::z::pt b3 (row [i64 C.nts,.slice (some ⟨b,o,none⟩) C.prods.length cap0] 33)::pt b4 (row [.slice an ns.length cn] 22)::pt b5 (row [.slice al ls.length cl] 22)::q::qn::ql::F) (fun x=>x.1≤p.2.length) (fun x=>p.2.length - x.1) (0,v18) (Nat.zero_le _) ?_ ?_ ?_
    ·exact SE rfl
    ·dsimp only
     rw [List.take_zero,List.map_nil,List.append_nil]
     exact ImpS.sb SB
    clear v18
    rintro ⟨j,v18⟩ hj
    dsimp only at hj ⊢
    by_cases hlt2:j < p.2.length
    ·have d2:decide ((j:Int) < (p.2.length:Int))=true:=decide_eq_true (by omega)
     obtain ⟨s,hs⟩:∃ s,p.2[j]?=some s:=⟨_,List.getElem?_eq_getElem hlt2⟩
     have hnd:=hnode b4 b5 s (hsin s (List.mem_of_getElem? hs))
     have hfn:=FnV.of (caps:=[ah b5,ah b4]) (args:=[.agg #[.bool s.1,i64 s.2]]) hnd
     have hbj:=hbl j
     have hsj:aO (hdB p.2.length++(p.2.take (j+1)).map (fY ns ls))=aO (hdB p.2.length++(p.2.take j).map (fY ns ls))++fS (fY ns ls s)∧(hdB p.2.length++(p.2.take (j+1)).map (fY ns ls)).length=(hdB p.2.length++(p.2.take j).map (fY ns ls)).length+1:=by
      rw [aG hs,List.map_append,← List.append_assoc]
      refine ⟨?_,by rw [List.length_append];rfl⟩
      rw [gv]
      unfold aO
      simp
     obtain ⟨hsj,hsl⟩:=hsj
     obtain ⟨b6,o6,rfl,_,q1,q2⟩:=hsy.at hs
     (apply Ru;refine scT ?_;refine six ?_;refine sl2 (by assumption) (by assumption) ?_;refine sal fun b20=>?_;apply Ru;refine GO.loadW rfl rfl rfl Tk.h rfl ?_)
     refine svl (hfn) ?_
     rintro _ _ ⟨rfl,rfl⟩
     refine GO.buildSlice1 (n:=3) rfl rfl (fun v hv=>by rw [List.mem_singleton.1 hv];rfl) rfl ⟨by decide,by decide⟩ fun bs=>?_
     refine GO.appendOwn (m:=1) (news:=fS (fY ns ls s)) rfl rfl rfl (Tk.t (Tk.t (Tk.t (Tk.t (Tk.t (Tk.t Tk.h)))))) Tk.h rfl (by simp [fS,str,Value.oneCell']) ⟨by decide,rfl⟩ Nat.one_pos (by unfold maxLen;omega) (by omega) fun v19=>?_
     rw [← hsj,← hsl]
     (apply Ru;refine sad ?_)
     refine ⟨(j+1,v19),hlt2,by dsimp only;omega,?_,ImpS.sb ?_⟩
     ·exact SE rfl
     ·exact SB
    ·have d2:decide ((j:Int) < (p.2.length:Int))=false:=decide_eq_false (by omega)
     rw [List.take_of_length_le (by omega),← hfb]
     refine G.ownRdK (v:=v18) Tk.h fun q2 hq2=>?_
     have hq2:NodesR q2 v18 (flat (kS ns ls p.2)):=hq2
     obtain ⟨a2,c2,rfl⟩:=aZ hq2
     refine G.merge (x:=q2) (y:=z) (Tks.c Tk.h (Tks.c (Tk.t (Tk.t Tk.h)) Tks.n)) ?_
     obtain ⟨m,hm⟩:∃ m:Nat,p.1=(m:Nat):=⟨p.1.toNat,(Int.toNat_of_nonneg hh0).symm⟩
     rw [hm,Int.toNat_natCast] at hh1
     have e:=List.getElem?_eq_getElem hh1
     rw [hm,Int.toNat_natCast,e,Option.getD_some] at hsn
     obtain ⟨b7,o7,cap7,e2,_,rx⟩:=hrn m _ e
     injection e2 with e2 _ e3
     subst e2 e3
     generalize ns[m]=nm at *
     rw [hm]
     (apply Ru;refine scF ?_;refine six ?_;refine sld (by assumption) ?_;apply Ru)
     refine GO.buildSlice1 (n:=2) rfl rfl (fun v hv=>by rw [List.mem_singleton.1 hv];rfl) rfl ⟨by decide,by decide⟩ fun bs=>?_
     refine GO.appendOwn (m:=1) (news:=[str nm,.slice a2 (flat (kS ns ls p.2)).length c2]) rfl rfl rfl (Tk.t (Tk.t (Tk.t Tk.h))) Tk.h rfl (by simp [str,Value.oneCell']) ⟨by decide,rfl⟩ Nat.one_pos (by unfold maxLen;omega) (by omega) fun v16=>?_
     (apply Ru;refine sad ?_)
     refine ⟨(i+1,vs++[str nm,.slice a2 (flat (kS ns ls p.2)).length c2],v16,aL [q2,z]),⟨hlt,?_⟩,by dsimp only;omega,?_,ImpS.sb ?_⟩
     ·dsimp only
      rw [hsn]
      exact (hB.sup (Sup.right _ _)).snoc rfl (hq2.sup (Sup.left _ _))
     ·exact SE rfl
     ·exact SB
   ·have d1:decide ((i:Int) < (C.prods.length:Int))=false:=decide_eq_false (by omega)
    rw [List.take_of_length_le (by omega)] at hB
    have hil:i=C.prods.length:=by omega
    subst hil
    refine G.ownRdK (v:=v15) Tk.h fun q2 hq2=>?_
    obtain ⟨a2,c2,rfl⟩:∃ a c,v15=.slice a C.prods.length c:=let ⟨a,c,h,_⟩:=hq2;⟨a,c,h⟩
    refine G.merge (x:=q2) (y:=z) (Tks.c Tk.h (Tks.c Tk.h Tks.n)) ?_
    (apply Ru;refine scF ?_)
    refine KF2.r2 rfl (RV.t rfl) (RV.t rfl) ⟨_,0,aL [q2,z],rfl,rfl,.inr ⟨rfl,hN2,hN3,vs,hB.sup (Sup.right _ _),?_⟩⟩ (ImpS.sb ?_)
    ·have:(di ns ls C.prods).length=C.prods.length:=by unfold di;rw [List.length_map]
     rw [this]
     exact hq2.sup (Sup.left _ _)
    exact SB
end
section
attribute [local irreducible] bO cz G GO GR GT Fn FnX FnV FnXV Dfr pt init exs pur sat own ImpS cU dR bn dC bq gm i8 aS f9 mw fk ig
theorem wY (q:HP) (v:Value) (g:List RuleD) (hq:RulesR q v g) (hl:64 < g.length):Fn Tryz.prog 15 #[v] [q] (fun r Q=>r=i64 (180:Nat)∧Q=[q]):=by
 obtain ⟨a,cap,rfl⟩:=bN hq
 refine Fn.mk2 Tryz.func15 rfl rfl fun w0 F=>?_
 apply Ru
 refine scl (gp) ?_
 rintro _ _ ⟨bo,bA,bB,rfl,rfl⟩
 apply Ru
 refine G.loopI (σ:=Unit) (fun _=>[(0,.slice a g.length cap),(5,.slice (some ⟨bo,0,none⟩) 8 8),(6,i64 (8:Nat)),(7,i64 ((0:Nat):Int))]) (fun _=>pt bo (row (gO bA bB) 104)::xm bA 91::xm bB 99::q::F) (fun _=>True) (fun _=>0) () trivial ?_ ?_ ?_
 ·exact SE rfl
 ·exact ImpS.sb SB
 rintro _ _
 have d1:decide (((0:Nat):Int) < ((8:Nat):Int))=true:=rfl
 have r0:Rd (pt bo (row (gO bA bB) 104)) ⟨bo,0+0 * 2+0,none⟩ (fnC 90):=Rd.row rfl
 have r1:Rd (pt bo (row (gO bA bB) 104)) ⟨bo,0+0 * 2+1,none⟩ (i64 (180:Nat)):=Rd.row rfl
 (apply Ru;refine G.condT rfl rfl ?_;apply Ru;refine six ?_;refine sl2 (by assumption) (by assumption) ?_;refine sal fun b4=>?_;apply Ru)
 have hc:=mZ a g.length cap
 have hqu:(decide ((g.length:Int) < 1) || decide ((64:Int) < (g.length:Int)))=true:=by rw [Bool.or_eq_true];exact .inr (decide_eq_true (by omega))
 rw [hqu] at hc
 refine svl (hc) ?_
 rintro _ _ ⟨rfl,rfl⟩
 apply Ru
 exact kr1 rfl ⟨rfl,rfl⟩
theorem vK {g:List RuleD} (hl:64 < g.length):bG g=180:=by
 unfold bG eu
 rw [bp,if_pos]
 rw [Bool.or_eq_true]
 exact .inr (decide_eq_true (by omega))
theorem sj (q:HP) (v:Value) (g:List RuleD) (hq:RulesR q v g) (h:64 < g.length∨FitG g):Fn Tryz.prog 15 #[v] [q] (fun r Q=>r=i64 (bG g:Nat)∧Q=[q]):=by
 rcases h with h | h
 ·rw [vK h]
  exact wY q v g hq h
 ·exact jY q v g hq h
theorem vh {C:Pr.CnfD} {ns ls:List (List UInt8)} {j:Nat} {s:List UInt8} (hs:ns[j]?=some s) (hp:∃ p∈C.prods,p.1=(j:Nat)):s∈aS (di ns ls C.prods):=by
 obtain ⟨p,hp,e⟩:=hp
 refine ((jR _).2 s).2 ⟨mX ns ls p,List.mem_map.2 ⟨p,hp,rfl⟩,?_⟩
 unfold mX
 rw [e,Int.toNat_natCast,hs]
 rfl
theorem s9 {ps:List PrW} {ns ls:List (List UInt8)} (h2:∀ p∈ps,p.2.length≤2) (hn:∀ s∈ns,s.length≤4096):64 < (di ns ls ps).length∨FitG (di ns ls ps):=by
 by_cases h:64 < (di ns ls ps).length
 ·exact .inl h
 ·refine .inr ⟨by omega,fun r hr=>?_,fun r hr=>?_⟩
  ·obtain ⟨p,hp,rfl⟩:=List.mem_map.1 hr
   have:=vP ns ls p.2 p.2.length
   rw [List.take_length,← pz] at this
   have:=h2 p hp
   show ¬ 4096 < (flat (kS ns ls p.2)).length
   omega
  ·obtain ⟨p,hp,rfl⟩:=List.mem_map.1 hr
   show ¬ 4096 < ((ns[p.1.toNat]?).getD []).length
   cases e:ns[p.1.toNat]? with
   | none=>rw [Option.getD_none];decide
   | some s=>rw [Option.getD_some];have:=hn s (List.mem_of_getElem? e);omega
theorem Bp {g:List RuleD} (hf:FitG g) (hb:∀ r∈g,bq r.body=0):FitG (ey g):=by
 refine ⟨by unfold ey;rw [List.length_map];exact hf.len,fun r hr=>?_,fun r hr=>?_⟩
 ·obtain ⟨r,h2,rfl⟩:=List.mem_map.1 hr
  obtain ⟨_,t,ht,_,_⟩:=fy (hb r h2)
  show ¬ 4096 < (flat (bM (gj r.body))).length
  rw [mg,← ht,bW,ht]
  exact hf.body r h2
 ·obtain ⟨r,h2,rfl⟩:=List.mem_map.1 hr
  exact hf.head r h2
end
section
theorem bGr {b:List (Bool × List UInt8)}:GrR iK [83] b↔b=[(true,[97]),(false,[83]),(true,[98])]∨b=[(true,[97]),(true,[98])]:=by
 have l3:∀ (n:List UInt8) (w:List (Bool × List UInt8)),Lg fc (.node 3 n []) w↔w=[(true,n)]:=fun n w=>nL (.inr rfl)
 have l2:∀ (n:List UInt8) (w:List (Bool × List UInt8)),Lg fc (.node 2 n []) w↔w=[(false,n)]:=fun n w=>nL (.inl rfl)
 unfold GrR
 rw [vS]
 unfold xR
 rw [gA,lO,or_false,CY,gA,gA,lO,or_false,wG,wG]
 refine or_congr ⟨fun h=>?_,fun h=>?_⟩ ⟨fun h=>?_,fun h=>?_⟩
 ·obtain ⟨u,v,rfl,h1,h⟩:=co.1 h
  obtain ⟨u2,v2,rfl,h2,h⟩:=co.1 h
  obtain ⟨u3,v3,rfl,h3,h⟩:=co.1 h
  rw [(l3 _ _).1 h1,(l2 _ _).1 h2,(l3 _ _).1 h3,eH.1 h]
  rfl
 ·subst h
  exact co.2 ⟨[(true,[97])],_,rfl,(l3 _ _).2 rfl,co.2 ⟨[(false,[83])],_,rfl,(l2 _ _).2 rfl,co.2 ⟨[(true,[98])],[],rfl,(l3 _ _).2 rfl,eH.2 rfl⟩⟩⟩
 ·obtain ⟨u,v,rfl,h1,h⟩:=co.1 h
  obtain ⟨u2,v2,rfl,h2,h⟩:=co.1 h
  rw [(l3 _ _).1 h1,(l3 _ _).1 h2,eH.1 h]
  rfl
 ·subst h
  exact co.2 ⟨[(true,[97])],_,rfl,(l3 _ _).2 rfl,co.2 ⟨[(true,[98])],[],rfl,(l3 _ _).2 rfl,eH.2 rfl⟩⟩
theorem Dm:Has (GrR iK) [83] [[97],[97],[98],[98]]:=by
 have g1:Gen (GrR iK) 1 [(false,[83])] [[97],[98]]:=Gen.of (bGr.2 (.inr rfl)) (.lab (.lab .nil))
 refine ⟨2,Gen.of (bGr.2 (.inl rfl)) (.lab ?_)⟩
 exact g1.app (u:=[[97],[98]]) (v:=[[98]]) (t:=[(true,[98])]) (.lab .nil)
theorem Du:¬ Has (GrR iK) [83] [[97],[98],[97]]:=by
 rintro ⟨n,h⟩
 obtain ⟨m,b,rfl,hb,hg⟩:=h.one
 have key:∃ s:List (Bool × List UInt8),b=s++[(true,[98])]:=by
  rcases bGr.1 hb with e | e
  ·exact ⟨[(true,[97]),(false,[83])],e⟩
  ·exact ⟨[(true,[97])],e⟩
 obtain ⟨s,rfl⟩:=key
 obtain ⟨u,v,e,_,hv⟩:=Gen.split hg
 cases hv with
 | lab k=>
  cases k
  have:=congrArg List.getLast? e
  rw [List.getLast?_append] at this
  simp at this
attribute [local irreducible] bO cz G GO GR GT GW Fn FnX FnV FnXV Dfr pt init exs pur sat own ImpS az aP cO dS fo bG aS aD aU dl cN cj wj cS dD
theorem wR:Fn Tryz.prog 5 #[] [] (fun r Q=>r=.bool true∧Q=[]):=by
 have p1:=oR xS
 rw [k7] at p1
 unfold xn at p1
 obtain ⟨hfit,hck⟩:=BA
 have hh:([83]:List UInt8)∈aS iK:=by rw [vT];exact List.mem_cons_self ..
 have hsp:=fun q qw v vw w hq hw hwl=>g8 q qw v vw iK [83] w hq hfit hck hh hw hwl
 unfold xS at p1
 have hy:=Dm
 have hno:=Du
 generalize hg:iK=g at *
 dsimp only at p1
 refine Fn.mk2 Tryz.func5 rfl rfl fun w0 F=>?_
 apply Ru
 refine scl (p1) ?_
 rintro _ _ ⟨v1,y1,rfl,hg1,rfl⟩
 have hsp:=fun qw vw w hw hwl=>hsp y1 qw v1 vw w hg1 hw hwl
 obtain ⟨ag1,cg1,rfl⟩:=bN hg1
 apply Ru
 refine GO.buildSlice4 (n:=1) (v1:=str [97]) (v2:=str [97]) (v3:=str [98]) (v4:=str [98]) rfl rfl rfl rfl rfl (fun v hv=>by simp only [List.mem_cons,List.not_mem_nil,or_false] at hv;rcases hv with rfl | rfl | rfl | rfl <;> rfl) rfl ⟨by decide,by decide⟩ fun bs=>?_
 rw [show aA [str [97],str [97],str [98],str [98]]=aI [[97],[97],[98],[98]] from rfl]
 refine GO.ownIn (n:=4) (sz:=1) Tk.h rfl (by decide) ?_
 refine GO.ownRd (n:=4) (sz:=1) Tk.h fun qw hqw=>?_
 have hs1:=hsp qw _ [[97],[97],[98],[98]] hqw (by decide)
 refine scl (hs1) ?_
 rintro _ _ ⟨x1,rfl,hx1,rfl⟩
 have e1:=hx1.2 hy
 subst e1
 apply Ru
 refine GO.buildSlice3 (n:=1) (v1:=str [97]) (v2:=str [98]) (v3:=str [97]) rfl rfl rfl rfl (fun v hv=>by simp only [List.mem_cons,List.not_mem_nil,or_false] at hv;rcases hv with rfl | rfl | rfl <;> rfl) rfl ⟨by decide,by decide⟩ fun bs2=>?_
 rw [show aA [str [97],str [98],str [97]]=aI [[97],[98],[97]] from rfl]
 refine GO.ownIn (n:=3) (sz:=1) Tk.h rfl (by decide) ?_
 refine GO.ownRd (n:=3) (sz:=1) Tk.h fun qw2 hqw2=>?_
 have hs2:=hsp qw2 _ [[97],[98],[97]] hqw2 (by decide)
 refine scl (hs2) ?_
 rintro _ _ ⟨x2,rfl,hx2,rfl⟩
 have e2:x2=false:=by cases x2;rfl;exact absurd (hx2.1 rfl) hno
 subst e2
 (apply Ru;refine GO.gT rfl rfl rfl ?_;apply Ru;refine GO.pickT rfl rfl rfl ?_;apply Ru)
 exact kr1 rfl ⟨rfl,rfl⟩
end
theorem uo {s:List UInt8}:∀ {l k:List (List UInt8)},s∈l→dS (l++k) s=dS l s
 | x::l,k,h=>by
  rw [List.cons_append]
  unfold dS
  by_cases e:s=x
  ·rw [if_pos e,if_pos e]
  ·rw [if_neg e,if_neg e,uo (by rcases List.mem_cons.1 h with h | h;exact absurd h e;exact h)]
theorem AV {ns ls:List (List UInt8)} {n:Nat} {s:List UInt8} (h:s∈ns):bZ (dW ns n) ls false s=bZ ns ls false s:=by
 unfold bZ gN dW
 rw [if_neg Bool.false_ne_true,if_neg Bool.false_ne_true,uo h]
theorem AU {ns:List (List UInt8)} {n:Nat} {s:List UInt8} (h:s∈ns):s∈dW ns n:=by unfold dW;exact List.mem_append_left _ h
theorem sZ {g:List RuleD} {ns ls:List (List UInt8)} {C:Pr.CnfD} (h:MCnf g ns ls C):ns.length≤C.nts.toNat∧((C.nts.toNat:Nat):Int)=C.nts:=by
 have:=h.nts.1
 exact ⟨by omega,Int.toNat_of_nonneg (by omega)⟩
theorem wm {g:List RuleD} {ns ls:List (List UInt8)} {C:Pr.CnfD} (ht:TabOK g ns ls) (h:MCnf g ns ls C) (hn:(dW ns C.nts.toNat).Nodup) {A:List UInt8} (hA:A∈ns) (w:List (List UInt8)) :
  Has (GrR (di (dW ns C.nts.toNat) ls C.prods)) A w↔Has (GrR g) A w:=by
 obtain ⟨h1,h2⟩:=sZ h
 rw [yB h.ok hn ht.ld (by rw [iw h1];exact h2) h.lab (AU hA),AV hA,po ht hA w]
 refine and_congr_right fun _=>?_
 have hj:gN ns ls false A < ns.length:=by
  have:=gD (ns:=ns) (ls:=ls) (c:=false) (s:=A) hA
  rw [if_neg Bool.false_ne_true] at this
  exact (List.getElem?_eq_some_iff.1 this).1
 exact h.lang _ hj _
theorem jH {k:Nat} {s:List UInt8} (h:(k=2∧cT s eI=true)∨(k=3∧cT s ic=true)):bq [⟨k,s,0⟩]=0:=by
 have hk:k=2∨k=3:=h.elim (fun h=>.inl h.1) fun h=>.inr h.1
 have hm:fq ⟨k,s,0⟩=true:=by
  unfold fq
  rcases h with ⟨rfl,h⟩ | ⟨rfl,h⟩
  ·dsimp only;rw [if_neg (by decide),if_pos rfl,h];rfl
  ·dsimp only;rw [if_neg (by decide),if_neg (by decide),if_pos rfl,h];rfl
 have hl:s.length≤256:=by
  rcases h with ⟨_,h⟩ | ⟨_,h⟩
  ·unfold cT at h
   cases s with
   | nil=>cases h
   | cons b r=>simp only [Bool.and_eq_true,decide_eq_true_eq] at h;simp only [List.length_cons] at h ⊢;omega
  ·unfold cT at h
   cases s with
   | nil=>cases h
   | cons b r=>simp only [Bool.and_eq_true,decide_eq_true_eq] at h;simp only [List.length_cons] at h ⊢;omega
 have hf:([⟨k,s,0⟩]:List NodeD)=flat (.node k s []):=by rw [flat,ay];rfl
 unfold bq
 rw [if_neg (by show ¬ 2048 < 1;decide),if_pos,hf,bW]
 ·unfold mM
  rw [if_neg,if_neg]
  ·rw [o9]
   show ¬ 2048 < (if k=1 then _ else if k=2∨k=3 then s else _).length
   rw [if_neg (by omega),if_pos hk]
   omega
  ·rw [flat,ay]
   show ¬ 16 < 1
   decide
 ·unfold iL
  rw [Bool.and_eq_true]
  refine ⟨decide_eq_true ?_,rfl⟩
  show (if (1:Nat)=0∨fq ⟨k,s,0⟩=false∨1 < 0 then none else some 0)=some 0
  rw [if_neg (by rw [hm];simp)]
theorem wP:(List.range 100).all (fun i=>cT (jQ i) eI)=true:=by kernel_rfl
theorem Bg:(List.range 100).all (fun i=>(List.range 100).all fun j=>decide (i=j) || !decide (jQ i=jQ j))=true:=by kernel_rfl
theorem CV {g:List RuleD} {ns ls:List (List UInt8)} {C:Pr.CnfD} (ht:TabOK g ns ls) (h:MCnf g ns ls C) (hc:gI ns=false):fh 2 (dW ns C.nts.toNat)∧fh 3 ls:=by
 obtain ⟨h1,h2⟩:=sZ h
 have h96:=h.nts.2
 have hin:∀ i < 100,cT (jQ i) eI=true:=fun i hi=>List.all_eq_true.1 wP i (List.mem_range.2 hi)
 have hij:∀ i < 100,∀ j < 100,jQ i=jQ j→i=j:=fun i hi j hj e=>by
  have:=List.all_eq_true.1 (List.all_eq_true.1 Bg i (List.mem_range.2 hi)) j (List.mem_range.2 hj)
  rw [e,decide_eq_true rfl,Bool.not_true,Bool.or_false] at this
  exact of_decide_eq_true this
 refine ⟨⟨?_,fun s hs=>?_⟩,ht.ld,fun s hs=>jH (.inr ⟨rfl,ht.low s hs⟩)⟩
 ·unfold dW
  rw [List.nodup_append]
  refine ⟨ht.nd,?_,fun a ha b hb e=>?_⟩
  ·rw [List.nodup_iff_pairwise_ne,List.pairwise_map]
   refine List.Pairwise.imp_of_mem (R:=fun a b=>a≠b) (fun {a b} ha hb hne e=>?_) (List.nodup_iff_pairwise_ne.1 List.nodup_range)
   have:=List.mem_range.1 ha
   have:=List.mem_range.1 hb
   have:=hij _ (by omega) _ (by omega) e
   omega
  ·obtain ⟨j,hj,rfl⟩:=List.mem_map.1 hb
   subst e
   unfold gI at hc
   have:=(List.any_eq_false.1 hc) _ ha
   exact this (decide_eq_true rfl)
 ·unfold dW at hs
  rcases List.mem_append.1 hs with hs | hs
  ·exact jH (.inl ⟨rfl,ht.up s hs⟩)
  ·obtain ⟨j,hj,rfl⟩:=List.mem_map.1 hs
   have:=List.mem_range.1 hj
   exact jH (.inl ⟨rfl,hin _ (by omega)⟩)
theorem tV (E:Int→Bool):∀ b:List cc,(Pr.subs E b).length≤2 ^ b.length
 | []=>by unfold Pr.subs;exact Nat.le_refl _
 | s::b=>by
  have:=tV E b
  unfold Pr.subs
  rw [List.length_append,List.length_map,List.length_cons,Nat.pow_succ]
  split
  ·omega
  ·rw [List.length_nil];omega
theorem l6 (E:Int→Bool):∀ (b x:List cc),x∈Pr.subs E b→x.length≤b.length
 | [],x,h=>by unfold Pr.subs at h;rw [List.mem_singleton.1 h];exact Nat.le_refl _
 | s::b,x,h=>by
  unfold Pr.subs at h
  rw [List.length_cons]
  rcases List.mem_append.1 h with h | h
  ·split at h
   ·have:=l6 E b x h;omega
   ·cases h
  ·obtain ⟨y,hy,rfl⟩:=List.mem_map.1 h
   have:=l6 E b y hy
   rw [List.length_cons];omega
theorem Aa {E:Int→Bool} {ps zs:List PrW} (h2:∀ p∈ps,p.2.length≤2) (hu:Pr.Ups zs) (hm:∀ p,p∈zs→Pr.WithP E ps p):zs.length≤ps.length * 4:=by
 have hn:zs.Nodup:=hu.imp fun {a b} h e=>by rw [e,Pr.prodLt_irr] at h;cases h
 have hl:∀ l:List PrW,(∀ p∈l,p.2.length≤2)→(l.flatMap fun c=>(Pr.subs E c.2).map fun x=>((c.1,x):PrW)).length≤l.length * 4:=by
  intro l
  induction l with
  | nil=>intro _;exact Nat.le_refl _
  | cons c l ih=>
   intro h
   have a:=ih fun p hp=>h p (by simp [hp])
   have b:=tV E c.2
   have d:=h c (by simp)
   have:2 ^ c.2.length≤2 ^ 2:=Nat.pow_le_pow_right (by decide) d
   rw [List.flatMap_cons,List.length_append,List.length_map,List.length_cons]
   omega
 refine Nat.le_trans (Pr.nodup_le hn (m:=ps.flatMap fun c=>(Pr.subs E c.2).map fun x=>((c.1,x):PrW)) fun p hp=>?_) (hl ps h2)
 obtain ⟨b,h1,h3,_⟩:=hm p hp
 exact List.mem_flatMap.2 ⟨(p.1,b),h1,List.mem_map.2 ⟨p.2,h3,rfl⟩⟩
structure WoutC (g:List RuleD) (ns ls:List (List UInt8)) (C:Pr.CnfD):Prop where
 ok:Pr.okC C=true
 two:∀ p∈C.prods,p.2.length≤2
 nts:(ns.length:Int)≤C.nts∧C.nts≤96
 few:C.prods.length≤1048576
 lang:∀ A∈ns,∀ w,w≠[]→(((∀ x∈w,x∈ls)∧Has (PrR C.prods) (bZ ns ls false A) (w.map (bZ ns ls true)))↔Has (GrR g) A w)
theorem BM {g:List RuleD} {ns ls:List (List UInt8)} {C:Pr.CnfD} (ht:TabOK g ns ls) (h:MCnf g ns ls C) {o:Nat→Bool} (hR:Pr.Reach (Pr.cloStep false) C.prods (fun _=>false) o) (hF:∀ p∈C.prods,(Pr.cloStep false o p).2=false) {zs:List PrW} (hu:Pr.Ups zs) (hm:∀ p,p∈zs↔Pr.WithP (Pr.EO o) C.prods p):WoutC g ns ls ⟨C.nts,zs⟩:=by
 have hf:=(gg h.ok).2
 refine ⟨Pr.okC_with h.ok fun p hp=>(hm p).1 hp,fun p hp=>?_,h.nts,?_,fun A hA w hw=>?_⟩
 ·obtain ⟨b,h1,h3,_⟩:=(hm p).1 hp
  have:=l6 _ _ _ h3
  have:b.length≤2:=h.two _ h1
  omega
 ·have:=Aa h.two hu fun p hp=>(hm p).1 hp
  have:=h.few
  show zs.length≤_
  omega
 ·rw [po ht hA w]
  refine and_congr_right fun _=>?_
  have hj:gN ns ls false A < ns.length:=by
   have:=gD (ns:=ns) (ls:=ls) (c:=false) (s:=A) hA
   rw [if_neg Bool.false_ne_true] at this
   exact (List.getElem?_eq_some_iff.1 this).1
  have hw2:w.map (bZ ns ls true)≠[]:=fun e=>hw (List.map_eq_nil_iff.1 e)
  rw [show (⟨C.nts,zs⟩:Pr.CnfD).prods=zs from rfl,tM (fun p hp=>⟨(hf p hp).1.1,fun s hs _=>((hf p hp).2 s hs).2.1⟩) hR hF hm _ hw2]
  exact h.lang _ hj _
theorem Cq {g:List RuleD} {ns ls:List (List UInt8)} {C:Pr.CnfD} (h:MCnf g ns ls C) (E:Int→Bool):¬ ∃ p∈C.prods,12 < Pr.cntE E p.2:=by
 rintro ⟨p,hp,hc⟩
 have:=Pr.cnt_le E p.2
 have:=h.two p hp
 omega
structure WoutW (g:List RuleD) (ns ls:List (List UInt8)) (C:Pr.CnfD):Prop where
 weak:Pr.weakC C=true
 fits:Pr.Fits C
 nts:(ns.length:Int)≤C.nts
 lang:∀ A∈ns,∀ w,w≠[]→(((∀ x∈w,x∈ls)∧Pr.Der C (w.map (bZ ns ls true)) (bZ ns ls false A) 0 w.length)↔Has (GrR g) A w)
theorem A7 {g:List RuleD} {ns ls:List (List UInt8)} {C:Pr.CnfD} (h:WoutC g ns ls C) {zs:List PrW} (hz:∀ p,p∈zs↔p∈(dK (wk0 C.nts) C.prods).prods) (hu:Pr.Ups zs):WoutW g ns ls ⟨(dK (wk0 C.nts) C.prods).nts,zs⟩:=by
 obtain ⟨h1,h2,h3⟩:=A8 h.ok h.two (by have:=h.nts.2;omega) hz
 obtain ⟨hnt,hf⟩:=gg h.ok
 have hB:=(WBd.all (sE hnt.1) (l:=C.prods) fun p hp=>⟨h.two p hp,fun s hs=>((hf p hp).2 s hs).1⟩).2
 have hs:=Pr.sub_len hz hu
 have h0:(wk0 C.nts).prods.length=0:=rfl
 have hfew:=h.few
 have hw:=h1
 unfold Pr.weakC at hw
 rw [Bool.and_eq_true] at hw
 refine ⟨h1,⟨by show zs.length * 32≤_;omega,fun p hp=>?_⟩,by show (ns.length:Int)≤(dK (wk0 C.nts) C.prods).nts;have:=h.nts.1;omega,fun A hA w hne=>?_⟩
 ·have:=Pr.weakB_len (List.all_eq_true.1 hw.2 p hp)
  omega
 ·rw [← h.lang A hA w hne]
  refine and_congr_right fun _=>?_
  have hj:gN ns ls false A < ns.length:=by
   have:=gD (ns:=ns) (ls:=ls) (c:=false) (s:=A) hA
   rw [if_neg Bool.false_ne_true] at this
   exact (List.getElem?_eq_some_iff.1 this).1
  have:=h3 (bZ ns ls false A) (Int.natCast_nonneg _) (by have:=h.nts.1;unfold bZ;omega) (w.map (bZ ns ls true))
  rw [List.length_map] at this
  exact this
section
theorem uO {l:List (List UInt8)} (h:fh 2 l) {s:List UInt8} (hs:s∈l):s.length≤4096:=by
 have hc:=h.2 s hs
 obtain ⟨_,t,ht,hok,_⟩:=fy hc
 have hf:([⟨2,s,0⟩]:List NodeD)=flat (.node 2 s []):=by rw [flat,ay];rfl
 rw [hf] at ht
 have:=congrArg gj ht
 rw [bW,bW] at this
 subst this
 rw [l9,Bool.and_eq_true] at hok
 have hm:=eK hok.1
 dsimp only [Tree.kind,Tree.name,Tree.kids] at hm
 have hn:cT s eI=true:=by
  rcases hm with ⟨h,_⟩ | ⟨_,_,hn⟩ | ⟨h,_⟩ | ⟨h,_⟩ | ⟨h,_⟩
  ·cases h
  ·exact hn
  ·cases h
  ·omega
  ·omega
 unfold cT at hn
 cases s with
 | nil=>cases hn
 | cons b r=>simp only [Bool.and_eq_true,decide_eq_true_eq] at hn;omega
attribute [local irreducible] bO cz G GO GR GT GW Fn FnX FnV FnXV Dfr pt init exs pur sat own ImpS az aP cO Pr.symsV dS fo bG aS aD bl aU dl cN cj cS dD di ey dW gI dK gn
theorem qB (s:List UInt8) (w:List (List UInt8)) (qw:HP) (vw:Value) (hw:WordR qw vw w):Fn Tryz.prog 3 #[str s,vw] [qw] (fun r Q=>r=.bool true∧Q=[qw]):=by
 have p1:=oR s
 unfold xn at p1
 have hpo:=uw (s:=s)
 have hfm:=wR
 generalize fo s=zf at *
 obtain ⟨g,at1,er⟩:=zf
 dsimp only at *
 have hww:=hw
 have hrw:∀ i x,w[i]?=some x→_:=fun i x h=>wf hw h
 obtain ⟨aw,cw,rfl⟩:=oh hw
 refine Fn.mk2 Tryz.func3 rfl rfl fun w0 F=>?_
 apply Ru
 refine scl (p1) ?_
 rintro _ _ ⟨v1,y1,rfl,hg1,rfl⟩
 have hsp1:=fun hf hc x hx=>g8 y1 qw v1 _ g x w hg1 hf hc hx hw
 have hnew:=fun hf hc=>jz y1 v1 g hg1 hf hc
 have hturn:=fun hf hb=>tO y1 v1 g hg1 hf hb
 obtain ⟨ag1,cg1,rfl⟩:=bN hg1
 by_cases her:er=0
 ·have c1:decide ((er:Int)≠0)=false:=decide_eq_false (by omega)
  by_cases h12:12 < w.length
  ·have c2:decide ((12:Int) < (w.length:Int))=true:=decide_eq_true (by omega)
   (apply Ru;refine sgT ?_;refine sgT ?_;refine sgT ?_;refine spF ?_;refine scT ?_)
   refine scl (hfm) ?_
   rintro _ _ ⟨rfl,rfl⟩
   apply Ru
   exact kr1 rfl ⟨rfl,rfl⟩
  ·have h12':=h12
   have c2:decide ((12:Int) < (w.length:Int))=false:=decide_eq_false (by omega)
   obtain ⟨hfit,hck⟩:=hpo her
   have hgo:=kB hck
   have hn16:=hgo.nts
   have hnew:=hnew hfit hck
   have hturn:=hturn hfit hgo.body
   have hsp1:=fun x hx=>hsp1 hfit hck x hx h12
   have hft:=Bp hfit hgo.body
   have hth:=wb g
   generalize hns:aS g=ns at *
   (apply Ru;refine sgT ?_;refine sgT ?_;refine sgT ?_;refine spF ?_;refine scF ?_)
   refine scl (hnew) ?_
   rintro _ _ ⟨bm,bt,mb,vn,vl,vp,ls,cells,z,hm,rfl,rfl⟩
   have hcf:=sq bm bt mb vp vn vl cells z g ns ls hm
   have htab:=hm.tab
   have hll:=htab.ll
   generalize hst:aU (aB ns ls) g ns=st at *
   have hnm:=jA bm bt mb vp vn vl st ns z hm.vn (by omega)
   have hlab:=lz bm bt mb vp vn vl st ls z hm.vl (by omega)
   apply Ru
   refine scl (hcf) ?_
   rintro _ _ ⟨vC,C,zq,rfl,hC,hM,rfl⟩
   have hC0:=hC
   obtain ⟨pv,rfl,hp⟩:=hC0
   obtain ⟨ap,cp,rfl⟩:=hp.form
   have hCf:Pr.Fits C:=⟨by have:=hM.few;omega,fun p hp=>by have:=hM.two p hp;omega⟩
   have hwo:=Pr.without_spec zq _ C hC hCf ⟨by have:=hM.few;omega,fun p hp=>by have:=hM.two p hp;omega⟩
   obtain ⟨hnl,hnt⟩:=sZ hM
   have hn96:=hM.nts.2
   have hcf2:=gg hM.ok
   (apply Ru;refine sal fun b9=>?_;apply Ru)
   refine scl (hnm) ?_
   rintro v11 _ rfl
   refine GO.ownRdK Tk.h fun q11 h11=>?_
   have hnum:=qC q11 v11 ns C.nts.toNat h11 hnl (by omega)
   rw [hnt] at hnum
   have hrules:=fun qn ql vn vl hn hl=>ud zq qn ql _ vn vl C (dW ns C.nts.toNat) ls hC hM.ok hM.two (by have:=hM.few;omega) hn hl (by rw [iw hnl];exact hnt) (by rw [iw hnl];omega) (by omega) (fun p hp=>by
    obtain ⟨a,b⟩:=hcf2.2 p hp
    refine ⟨⟨a.1,by rw [iw hnl];omega⟩,fun x hx=>⟨(b x hx).2.1,?_⟩⟩
    cases hc:x.1
    ·rw [if_neg Bool.false_ne_true,iw hnl]
     have:=(b x hx).2.2 hc
     have:=(b x hx).2.1
     omega
    ·rw [if_pos rfl]
     exact hM.lab p hp x hx hc)
   have hr11:∀ i x,ns[i]?=some x→_:=fun i x h=>eX h11 h
   have hcl:=wX q11 v11 ns h11 (by omega)
   have hpl:=jK q11 v11 ns [81,95] h11 (by omega)
   obtain ⟨a11,c11,rfl⟩:=bX h11
   apply Ru
   refine drW 13 8144 8 [pt b9 (row [i64 C.nts,.slice ap C.prods.length cp] 33)] (fun L' H'=>∃ (v12:Value) (e12:Nat) (z12:HP),((e12=2∧¬ (fh 2 (dW ns C.nts.toNat)∧fh 3 ls))∨(e12=0∧fh 2 (dW ns C.nts.toNat)∧fh 3 ls∧RulesR z12 v12 (di (dW ns C.nts.toNat) ls C.prods)))∧SubE [(1,.slice aw w.length cw),(5,.slice ag1 g.length cg1),(8,ah bm),(9,ah b9),(11,.slice a11 ns.length c11),(12,v12),(7,i64 (e12:Nat))] L'∧ImpS H' (pt b9 (row [i64 C.nts,.slice ap C.prods.length cp] 33)::z12::bV bm bt vp st::cG bt mb vn vl::eT mb ns ls::z::zq::q11::y1::qw::F)) ?_ ?_
   ·((apply GR.step rfl;focus (intro Z;refine GO.loadW rfl rfl rfl Tk.h rfl ?_;exact KQ.z));apply Ru)
    refine gw1 4 ?_
    refine scl (hnum) ?_
    rintro v67 _ rfl
    refine GO.ownRdK Tk.h fun q67 h67=>?_
    refine gwn ?_
    refine gw1 6 ?_
    refine scl (hlab) ?_
    rintro v69 _ rfl
    refine GO.ownRdK Tk.h fun q69 h69=>?_
    have hru:=hrules q67 q69 v67 v69 h67 h69
    refine gwn ?_
    refine gw1 7 ?_
    refine scl (hru) ?_
    rintro _ _ ⟨v12,e12,z12,rfl,rfl,h12⟩
    refine gwn ?_
    refine gw1 8 ?_
    refine GO.move rfl rfl ?_
    refine gwn ?_
    refine gw2 9 10 ?_ ?_
    ·refine GO.extract (vs:=[v12,i64 (e12:Nat)]) rfl rfl rfl ?_
     refine gwn ?_
     refine gw2 10 11 ?_ ?_
     ·refine GO.extract (vs:=[v12,i64 (e12:Nat)]) rfl rfl rfl ?_
      refine gwn ?_
      refine gw1 11 ?_
      refine GO.assign rfl rfl ?_
      refine gwn ?_
      refine gw1 12 ?_
      refine GO.assign rfl rfl ?_
      refine gwn ?_
      refine GW.nil ⟨v12,e12,z12,h12,by (exact SE rfl),ImpS.sb SB⟩
     ·refine GO.assign rfl rfl ?_
      refine gwn ?_
      refine gw1 10 ?_
      refine GO.extract (vs:=[v12,i64 (e12:Nat)]) rfl rfl rfl ?_
      refine gwn ?_
      refine gw1 12 ?_
      refine GO.assign rfl rfl ?_
      refine gwn ?_
      refine GW.nil ⟨v12,e12,z12,h12,by (exact SE rfl),ImpS.sb SB⟩
    ·refine GO.extract (vs:=[v12,i64 (e12:Nat)]) rfl rfl rfl ?_
     refine gwn ?_
     refine gw1 9 ?_
     refine GO.extract (vs:=[v12,i64 (e12:Nat)]) rfl rfl rfl ?_
     refine gwn ?_
     refine gw1 11 ?_
     refine GO.assign rfl rfl ?_
     refine gwn ?_
     refine gw1 12 ?_
     refine GO.assign rfl rfl ?_
     refine gwn ?_
     refine GW.nil ⟨v12,e12,z12,h12,by (exact SE rfl),ImpS.sb SB⟩
   ·rintro L9 H9 ⟨v12,e12,z12,h12,hL9,hH9⟩
    refine GO.subI hL9 hH9 ?_
    clear hL9 hH9 L9 H9
    apply Ru
    refine scl (hturn) ?_
    rintro _ _ ⟨v13,zb,rfl,hbk,rfl⟩
    have hcb:=sj zb v13 (ey g) hbk (.inr hft)
    obtain ⟨a13,c13,rfl⟩:=bN hbk
    clear hturn hnew hcf hnm p1 hnum
    have hnt100:decide (C.nts≤100)=true:=decide_eq_true (by omega)
    (apply Ru;refine GO.gT rfl rfl rfl ?_;apply Ru;refine GO.gT rfl rfl rfl ?_;apply Ru;refine GO.gT rfl rfl rfl ?_;apply Ru)
    refine GO.cut1 98 (.bool false) ?_ ?_
    ·rcases h12 with ⟨rfl,hno⟩ | ⟨rfl,_⟩
     ·have hcl1:gI ns=true:=by
       cases hcc:gI ns
       ·exact absurd (CV htab hM hcc) hno
       ·rfl
      rw [hcl1] at hcl
      have d1:decide (((2:Nat):Int)≠0)=true:=rfl
      (refine GO.gT rfl rfl rfl ?_;apply Ru;refine GO.gT rfl rfl rfl ?_)
      refine scl (hpl) ?_
      rintro _ _ ⟨rfl,rfl⟩
      cases d2:decide (gn ns [81,95] < 0)
      ·(refine GO.gT rfl rfl rfl ?_;apply Ru;refine GO.gT rfl rfl rfl ?_;refine GO.pickT rfl rfl rfl ?_;refine GO.gT rfl rfl rfl ?_;apply Ru;refine sgF ?_;refine sgF ?_;refine sgF ?_;refine GO.gT rfl rfl rfl ?_;refine spF ?_;refine GO.gT rfl rfl rfl ?_;apply Ru;refine GO.gT rfl rfl rfl ?_;apply Ru;refine GO.pickF rfl rfl rfl ?_;apply Ru)
       (refine ⟨?_,ImpS.sb ?_⟩;(focus (exact SE rfl));(focus exact SB))
      ·(refine GO.gT rfl rfl rfl ?_;apply Ru;refine GO.gT rfl rfl rfl ?_;refine GO.pickT rfl rfl rfl ?_;refine GO.gT rfl rfl rfl ?_;apply Ru;refine sgT ?_;refine sgT ?_;refine sgT ?_;refine GO.gT rfl rfl rfl ?_;refine spT ?_;refine GO.gT rfl rfl rfl ?_;apply Ru;refine sgT ?_;refine sgT ?_)
       refine scl (hcl) ?_
       rintro _ _ ⟨rfl,rfl⟩
       (refine sgT ?_;refine GO.gT rfl rfl rfl ?_;refine spT ?_;refine GO.pickF rfl rfl rfl ?_;apply Ru)
       (refine ⟨?_,ImpS.sb ?_⟩;(focus (exact SE rfl));(focus exact SB))
     ·have d1:decide (((0:Nat):Int)≠0)=false:=rfl
      (refine GO.gF rfl rfl rfl rfl ?_;refine GO.gF rfl rfl rfl rfl ?_;refine GO.gF rfl rfl rfl rfl ?_;refine GO.gT rfl rfl rfl ?_;refine GO.pickF rfl rfl rfl ?_;refine GO.gT rfl rfl rfl ?_;apply Ru;refine GO.gT rfl rfl rfl ?_;apply Ru;refine GO.gT rfl rfl rfl ?_;apply Ru;refine GO.gT rfl rfl rfl ?_;apply Ru;refine GO.pickF rfl rfl rfl ?_;apply Ru)
      (refine ⟨?_,ImpS.sb ?_⟩;(focus (exact SE rfl));(focus exact SB))
    obtain ⟨fit,hfitd⟩:∃ fit:Bool,fit=decide (e12=0∧bG (di (dW ns C.nts.toNat) ls C.prods)=0):=⟨_,rfl⟩
    apply Ru
    refine GO.cut1 15 (.bool fit) ?_ ?_
    ·rcases h12 with ⟨rfl,hno⟩ | ⟨rfl,hN2,hN3,hR12⟩
     ·have d1:decide (((2:Nat):Int)=0)=false:=rfl
      have hf0:fit=false:=by rw [hfitd];exact decide_eq_false (by omega)
      rw [hf0]
      (refine GO.gF rfl rfl rfl rfl ?_;refine GO.gF rfl rfl rfl rfl ?_;refine GO.gF rfl rfl rfl rfl ?_;refine GO.pickF rfl rfl rfl ?_;apply Ru)
      (refine ⟨?_,ImpS.sb ?_⟩;(focus (exact SE rfl));(focus exact SB))
     ·have d1:decide (((0:Nat):Int)=0)=true:=rfl
      have hcr:=sj z12 v12 _ hR12 (s9 hM.two fun x hx=>uO hN2 hx)
      generalize di (dW ns C.nts.toNat) ls C.prods=gr at *
      obtain ⟨a12,c12,rfl⟩:=bN hR12
      have hf1:decide (((bG gr:Nat):Int)=0)=fit:=by
       rw [hfitd]
       by_cases h:bG gr=0
       ·rw [decide_eq_true (by omega),decide_eq_true ⟨rfl,h⟩]
       ·rw [decide_eq_false (by omega),decide_eq_false (fun k=>h k.2)]
      (refine GO.gT rfl rfl rfl ?_;apply Ru;refine GO.gT rfl rfl rfl ?_)
      refine scl (hcr) ?_
      rintro _ _ ⟨rfl,rfl⟩
      (refine GO.gT rfl rfl rfl ?_;apply Ru;refine GO.pickT rfl rfl rfl ?_;apply Ru)
      rw [hf1]
      (refine ⟨?_,ImpS.sb ?_⟩;(focus (exact SE rfl));(focus exact SB))
    (apply Ru;refine GO.loadW rfl rfl rfl (Tk.t (Tk.t Tk.h)) rfl ?_)
    refine scl (hwo) ?_
    rintro _ _ (⟨hno,_⟩ | ⟨_,oo,hRch,hFin,(⟨hex,_⟩ | ⟨_,vW,zs,zW,rfl,hCW,huW,hmW,_,rfl⟩)⟩)
    ·rw [hM.ok] at hno;cases hno
    ·exact absurd hex (Cq hM _)
    have hWC:=BM htab hM hRch hFin huW hmW
    have hwc:=mP zW vW ⟨C.nts,zs⟩ hCW hWC.ok hWC.two (by show C.nts≤1000;omega) hWC.few
    have hCW0:=hCW
    obtain ⟨pvW,rfl,hpW⟩:=hCW0
    obtain ⟨aW,cW,rfl⟩:=hpW.form
    (apply Ru;refine sal fun b16=>?_;apply Ru;refine GO.loadW rfl rfl rfl Tk.h rfl ?_)
    refine scl (hwc) ?_
    rintro _ _ ⟨vX,zs2,zX,rfl,hCX,huX,hmX,rfl⟩
    have hWW:=A7 hWC hmX huX
    generalize hCXd:(⟨(dK (wk0 (⟨C.nts,zs⟩:Pr.CnfD).nts) (⟨C.nts,zs⟩:Pr.CnfD).prods).nts,zs2⟩:Pr.CnfD)=X at *
    have hCX0:=hCX
    obtain ⟨pvX,rfl,hpX⟩:=hCX0
    obtain ⟨aX,cX,rfl⟩:=hpX.form
    have hfitF:fit=true→RulesR z12 v12 (di (dW ns C.nts.toNat) ls C.prods)∧FitG (di (dW ns C.nts.toNat) ls C.prods)∧bG (di (dW ns C.nts.toNat) ls C.prods)=0∧(∀ x∈ns,x∈aS (di (dW ns C.nts.toNat) ls C.prods))∧∀ x∈ns,∀ w,Has (GrR (di (dW ns C.nts.toNat) ls C.prods)) x w↔Has (GrR g) x w:=by
     intro hf
     rw [hfitd] at hf
     obtain ⟨e0,hc0⟩:=of_decide_eq_true hf
     rcases h12 with ⟨h,_⟩ | ⟨_,hN2,hN3,hR12⟩
     ·omega
     refine ⟨hR12,?_,hc0,fun x hx=>?_,fun x hx w=>wm htab hM hN2.1 hx w⟩
     ·rcases s9 (ns:=dW ns C.nts.toNat) (ls:=ls) hM.two fun x hx=>uO hN2 hx with h | h
      ·have:=(kB hc0).len.2
       omega
      ·exact h
     ·obtain ⟨j,hj⟩:=List.getElem?_of_mem hx
      refine vh (j:=j) ?_ (hM.hds j (List.getElem?_eq_some_iff.1 hj).1)
      unfold dW
      rw [List.getElem?_append_left (List.getElem?_eq_some_iff.1 hj).1]
      exact hj
    generalize di (dW ns C.nts.toNat) ls C.prods=gr at *
    refine GO.ownNil (T:=9) (sz:=1) ?_
    (apply Ru;refine sal fun b17=>?_;apply Ru;refine ssu ?_)
    refine G.loopI (σ:=Nat × Value) (fun x=>[(1,.slice aw w.length cw),(5,.slice ag1 g.length cg1),(7,i64 0),(8,ah bm),(10,i64 0),(11,.slice a11 ns.length c11),(12,v12),(13,.slice a13 (ey g).length c13),(15,.bool fit),(17,ah b17),(18,x.2),(19,i64 ((w.length:Int) - 1 - (x.1:Nat)))]) (fun x=>own 9 1 x.1 x.2 (aI (w.reverse.take x.1))::pt b17 (row [i64 X.nts,.slice aX X.prods.length cX] 33)::zX::z12::zb::bV bm bt vp st::cG bt mb vn vl::eT mb ns ls::z::q11::y1::qw::F) (fun x=>x.1≤w.length) (fun x=>w.length - x.1) (0,.slice none 0 0) (Nat.zero_le _) ?_ ?_ ?_
    ·(refine SubE.c rfl rfl ?_;refine SubE.c rfl rfl ?_;refine SubE.c rfl rfl ?_;refine SubE.c rfl rfl ?_;refine SubE.c rfl rfl ?_;refine SubE.c rfl rfl ?_;refine SubE.c rfl rfl ?_;refine SubE.c rfl rfl ?_;refine SubE.c rfl rfl ?_;refine SubE.c rfl rfl ?_;refine SubE.c rfl rfl ?_;(refine SubE.c rfl ?_ ?_;focus (simp;done));exact SE rfl)
    ·dsimp only
     rw [List.take_zero,show aI []=[] from rfl]
     exact ImpS.sb SB
    rintro ⟨k,v18⟩ hk
    dsimp only at hk ⊢
    by_cases hlt:k < w.length
    ·obtain ⟨j,hj⟩:∃ j,j=w.length - 1 - k:=⟨_,rfl⟩
     rw [show (w.length:Int) - 1 - (k:Nat)=(j:Nat) by omega]
     have d1:decide ((0:Int)≤(j:Int))=true:=decide_eq_true (by omega)
     obtain ⟨x,hx⟩:∃ x,w[j]?=some x:=⟨_,List.getElem?_eq_getElem (by omega)⟩
     obtain ⟨b,o,cap,e,rx⟩:=hrw j x hx
     injection e with e _ e2
     subst e e2
     have hxr:w.reverse[k]?=some x:=by rw [List.getElem?_reverse hlt,← hj];exact hx
     have hsn:aI (w.reverse.take (k+1))=aI (w.reverse.take k)++[str x]:=by rw [aG hxr];unfold aI;simp
     (apply Ru;refine G.condT rfl rfl ?_;apply Ru;refine six ?_;refine sld (by assumption) ?_)
     refine GO.buildSlice1 (n:=1) rfl rfl (fun v hv=>by rw [List.mem_singleton.1 hv];rfl) rfl ⟨by decide,by decide⟩ fun bs=>?_
     refine GO.appendOwn (m:=1) (news:=[str x]) rfl rfl rfl (Tk.t Tk.h) Tk.h rfl (by simp [str,Value.oneCell']) ⟨by decide,rfl⟩ Nat.one_pos (by unfold maxLen;omega) (by omega) fun v19=>?_
     rw [← hsn]
     (apply Ru;refine ssu ?_)
     refine ⟨(k+1,v19),hlt,by dsimp only;omega,?_,ImpS.sb ?_⟩
     ·dsimp only
      rw [show (w.length:Int) - 1 - ((k+1:Nat):Int)=(j:Nat) - 1 by omega]
      exact SE rfl
     ·exact SB
    have d1:decide ((0:Int)≤(w.length:Int) - 1 - (k:Nat))=false:=decide_eq_false (by omega)
    rw [List.take_of_length_le (by rw [List.length_reverse];omega)]
    refine G.ownRd (v:=v18) Tk.h fun q18 h18=>?_
    have h18:WordR q18 v18 w.reverse:=by unfold WordR at *;rw [List.length_reverse];rw [show w.length=k by omega];exact h18
    obtain ⟨a18,c18,rfl⟩:=oh h18
    obtain ⟨wide,hwide⟩:∃ wide:Bool,decide (((bG (ey g):Nat):Int)≠0)=wide:=⟨_,rfl⟩
    (apply Ru;refine scF ?_)
    refine scl (hcb) ?_
    rintro _ _ ⟨rfl,rfl⟩
    apply Ru
    rw [hwide]
    clear hcl hpl hwo hwc
    refine G.loopI (σ:=Nat) (fun i=>[(1,.slice aw w.length cw),(5,.slice ag1 g.length cg1),(7,i64 0),(8,ah bm),(10,i64 0),(11,.slice a11 ns.length c11),(12,v12),(13,.slice a13 (ey g).length c13),(15,.bool fit),(17,ah b17),(18,.slice a18 w.reverse.length c18),(20,.bool wide),(21,i64 (i:Nat))]) (fun _=>pt b17 (row [i64 X.nts,.slice aX X.prods.length cX] 33)::q11::qw::y1::q18::zX::z12::zb::bV bm bt vp st::cG bt mb vn vl::eT mb ns ls::z::F) (fun i=>i≤ns.length) (fun i=>ns.length - i) 0 (Nat.zero_le _) ?_ ?_ ?_
    ·exact SE rfl
    ·exact ImpS.sb SB
    clear d1
    intro i hi
    by_cases hlt:i < ns.length
    ·have d1:decide ((i:Int) < (ns.length:Int))=true:=decide_eq_true (by omega)
     obtain ⟨x,hx⟩:∃ x,ns[i]?=some x:=⟨_,List.getElem?_eq_getElem hlt⟩
     have hxm:=List.mem_of_getElem? hx
     obtain ⟨b,o,cap,e,_,rx⟩:=hr11 i x hx
     injection e with e _ e2
     subst e e2
     have hs1:=hsp1 x hxm
     have hidx:bZ ns ls false x=(i:Nat):=by
      unfold bZ gN
      rw [if_neg Bool.false_ne_true,mu htab.nd hx]
      rfl
     (apply Ru;refine scT ?_;refine six ?_;refine sld (by assumption) ?_;apply Ru)
     refine scl (hs1) ?_
     rintro _ _ ⟨b0,rfl,hb0,rfl⟩
     (apply Ru;refine G.condF rfl rfl ?_;apply Ru)
     refine G.midE (σ:=Unit) (fun _=>[(1,.slice aw w.length cw),(5,.slice ag1 g.length cg1),(7,i64 0),(8,ah bm),(10,i64 0),(11,.slice (some ⟨b,o,none⟩) ns.length c11),(12,v12),(13,.slice a13 (ey g).length c13),(15,.bool fit),(17,ah b17),(18,.slice a18 w.reverse.length c18),(20,.bool wide),(21,i64 (i:Nat)),(22,.bool b0)]) (fun _=>pt b17 (row [i64 X.nts,.slice aX X.prods.length cX] 33)::q11::qw::y1::q18::zX::z12::zb::bV bm bt vp st::cG bt mb vn vl::eT mb ns ls::z::F) (fun _=>True) ?_ ?_
     ·cases fit
      ·apply Ru
       refine ⟨(),trivial,?_,ImpS.sb ?_⟩
       ·exact SE rfl
       ·exact SB
      ·obtain ⟨f1,f2,f3,f4,f5⟩:=hfitF rfl
       have hs2:=g8 z12 qw v12 _ gr x w f1 f2 f3 (f4 x hxm) hww h12'
       obtain ⟨a12,c12,rfl⟩:=bN f1
       (apply Ru;refine six ?_;refine sld (by assumption) ?_;apply Ru)
       refine scl (hs2) ?_
       rintro _ _ ⟨b1,rfl,hb1,rfl⟩
       have e1:b1=b0:=Bool.eq_iff_iff.2 (hb1.trans ((f5 x hxm w).trans hb0.symm))
       subst e1
       cases b1
       ·(apply Ru;refine GO.gT rfl rfl rfl ?_;apply Ru;refine GO.gT rfl rfl rfl ?_;apply Ru;refine GO.gT rfl rfl rfl ?_;apply Ru;refine GO.pickF rfl rfl rfl ?_;apply Ru)
        refine ⟨(),trivial,?_,ImpS.sb ?_⟩
        ·exact SE rfl
        ·exact SB
       ·(apply Ru;refine GO.gT rfl rfl rfl ?_;apply Ru;refine GO.gT rfl rfl rfl ?_;apply Ru;refine GO.gT rfl rfl rfl ?_;apply Ru;refine GO.pickF rfl rfl rfl ?_;apply Ru)
        refine ⟨(),trivial,?_,ImpS.sb ?_⟩
        ·exact SE rfl
        ·exact SB
     rintro _ _
     apply Ru
     refine G.midE (σ:=Unit) (fun _=>[(1,.slice aw w.length cw),(5,.slice ag1 g.length cg1),(7,i64 0),(8,ah bm),(10,i64 0),(11,.slice (some ⟨b,o,none⟩) ns.length c11),(12,v12),(13,.slice a13 (ey g).length c13),(15,.bool fit),(17,ah b17),(18,.slice a18 w.reverse.length c18),(20,.bool wide),(21,i64 (i:Nat)),(22,.bool b0)]) (fun _=>pt b17 (row [i64 X.nts,.slice aX X.prods.length cX] 33)::q11::qw::y1::q18::zX::z12::zb::bV bm bt vp st::cG bt mb vn vl::eT mb ns ls::z::F) (fun _=>True) ?_ ?_
     ·cases wide
      ·have hcw:bG (ey g)=0:=by
        have:=of_decide_eq_false hwide
        omega
       have hs3:=g8 zb q18 _ _ (ey g) x w.reverse hbk hft hcw (by rw [hth];exact hxm) h18 (by rw [List.length_reverse];exact h12')
       (refine G.condT rfl rfl ?_;apply Ru;refine six ?_;refine sld (by assumption) ?_;apply Ru)
       refine scl (hs3) ?_
       rintro _ _ ⟨b1,rfl,hb1,rfl⟩
       have e1:b1=b0:=Bool.eq_iff_iff.2 (hb1.trans ((Ag g x w).trans hb0.symm))
       subst e1
       cases b1
       ·(apply Ru;refine GO.gT rfl rfl rfl ?_;apply Ru;refine GO.gT rfl rfl rfl ?_;apply Ru;refine GO.gT rfl rfl rfl ?_;apply Ru;refine GO.pickF rfl rfl rfl ?_;apply Ru)
        refine ⟨(),trivial,?_,ImpS.sb ?_⟩
        ·exact SE rfl
        ·exact SB
       ·(apply Ru;refine GO.gT rfl rfl rfl ?_;apply Ru;refine GO.gT rfl rfl rfl ?_;apply Ru;refine GO.gT rfl rfl rfl ?_;apply Ru;refine GO.pickF rfl rfl rfl ?_;apply Ru)
        refine ⟨(),trivial,?_,ImpS.sb ?_⟩
        ·exact SE rfl
        ·exact SB
      ·(refine G.condF rfl rfl ?_;apply Ru)
       refine ⟨(),trivial,?_,ImpS.sb ?_⟩
       ·exact SE rfl
       ·exact SB
     rintro _ _
     apply Ru
     refine G.midBE (σ:=Unit) (fun _=>[(1,.slice aw w.length cw),(5,.slice ag1 g.length cg1),(7,i64 0),(8,ah bm),(10,i64 0),(11,.slice (some ⟨b,o,none⟩) ns.length c11),(12,v12),(13,.slice a13 (ey g).length c13),(15,.bool fit),(17,ah b17),(18,.slice a18 w.reverse.length c18),(20,.bool wide),(21,i64 (i:Nat))]) (fun _=>pt b17 (row [i64 X.nts,.slice aX X.prods.length cX] 33)::q11::qw::y1::q18::zX::z12::zb::bV bm bt vp st::cG bt mb vn vl::eT mb ns ls::z::F) (fun _=>True) ?_ ?_
     ·have hwl:=hWW.lang x hxm w
      have hhas:=fun (zl:HP) (vl:Value) (hl:dH zl vl ls)=>rN zX zl qw _ vl _ X (i:Nat) ns ls w hCX hWW.fits hWW.weak (Int.natCast_nonneg _) (by have:=hWW.nts;omega) hl (by omega) hww h12'
      by_cases hw0:0 < w.length
      ·have d2:decide ((0:Int) < (w.length:Int))=true:=decide_eq_true (by omega)
       have hwl:=hwl (fun e=>by rw [e] at hw0;exact absurd hw0 (Nat.lt_irrefl 0))
       rw [hidx] at hwl
       refine scT ?_
       refine drW 11 2024 7 [pt b17 (row [i64 X.nts,.slice aX X.prods.length cX] 33)] (fun L' H'=>∃ b4:Bool,(b4=true↔(∀ x∈w,x∈ls)∧Pr.Der X (w.map (bZ ns ls true)) (i:Nat) 0 w.length)∧SubE [(1,.slice aw w.length cw),(5,.slice ag1 g.length cg1),(7,i64 0),(8,ah bm),(10,i64 0),(11,.slice (some ⟨b,o,none⟩) ns.length c11),(12,v12),(13,.slice a13 (ey g).length c13),(15,.bool fit),(17,ah b17),(18,.slice a18 w.reverse.length c18),(20,.bool wide),(21,i64 (i:Nat)),(22,.bool b0),(28,.bool b4),(29,.bool true)] L'∧ImpS H' (pt b17 (row [i64 X.nts,.slice aX X.prods.length cX] 33)::q11::qw::y1::q18::zX::z12::zb::bV bm bt vp st::cG bt mb vn vl::eT mb ns ls::z::F)) ?_ ?_
       ·((apply GR.step rfl;focus (intro Z;refine GO.loadW rfl rfl rfl Tk.h rfl ?_;exact KQ.z));apply Ru)
        refine gw1 3 ?_
        refine scl (hlab) ?_
        rintro v203 _ rfl
        refine GO.ownRdK Tk.h fun q203 h203=>?_
        have hha:=hhas q203 v203 h203
        obtain ⟨a203,c203,rfl⟩:=bX h203
        refine gwn ?_
        refine gw1 5 ?_
        refine scl (hha) ?_
        rintro _ _ ⟨b4,rfl,hb4,rfl⟩
        refine gwn ?_
        refine gw1 6 ?_
        refine GO.move rfl rfl ?_
        refine gwn ?_
        refine gw2 7 8 ?_ ?_
        ·refine GO.extract (vs:=[.bool b4,.bool true]) rfl rfl rfl ?_
         refine gwn ?_
         refine gw2 8 9 ?_ ?_
         ·refine GO.extract (vs:=[.bool b4,.bool true]) rfl rfl rfl ?_
          refine gwn ?_
          refine gw1 9 ?_
          refine GO.assign rfl rfl ?_
          refine gwn ?_
          refine gw1 10 ?_
          refine GO.assign rfl rfl ?_
          refine gwn ?_
          refine GW.nil ⟨b4,hb4,by (exact SE rfl),ImpS.sb SB⟩
         ·refine GO.assign rfl rfl ?_
          refine gwn ?_
          refine gw1 8 ?_
          refine GO.extract (vs:=[.bool b4,.bool true]) rfl rfl rfl ?_
          refine gwn ?_
          refine gw1 10 ?_
          refine GO.assign rfl rfl ?_
          refine gwn ?_
          refine GW.nil ⟨b4,hb4,by (exact SE rfl),ImpS.sb SB⟩
        ·refine GO.extract (vs:=[.bool b4,.bool true]) rfl rfl rfl ?_
         refine gwn ?_
         refine gw1 7 ?_
         refine GO.extract (vs:=[.bool b4,.bool true]) rfl rfl rfl ?_
         refine gwn ?_
         refine gw1 9 ?_
         refine GO.assign rfl rfl ?_
         refine gwn ?_
         refine gw1 10 ?_
         refine GO.assign rfl rfl ?_
         refine gwn ?_
         refine GW.nil ⟨b4,hb4,by (exact SE rfl),ImpS.sb SB⟩
       ·rintro L37 H37 ⟨b4,hb4,hL37,hH37⟩
        refine GO.subI hL37 hH37 ?_
        clear hL37 hH37 L37 H37
        have e1:b4=b0:=Bool.eq_iff_iff.2 (hb4.trans (hwl.trans hb0.symm))
        subst e1
        cases b4
        ·(apply Ru;refine GO.gT rfl rfl rfl ?_;apply Ru;refine GO.gT rfl rfl rfl ?_;apply Ru;refine GO.gT rfl rfl rfl ?_;apply Ru;refine GO.pickF rfl rfl rfl ?_;apply Ru)
         refine ⟨(),trivial,?_,ImpS.sb ?_⟩
         ·exact SE rfl
         ·exact SB
        ·(apply Ru;refine GO.gT rfl rfl rfl ?_;apply Ru;refine GO.gT rfl rfl rfl ?_;apply Ru;refine GO.gT rfl rfl rfl ?_;apply Ru;refine GO.pickF rfl rfl rfl ?_;apply Ru)
         refine ⟨(),trivial,?_,ImpS.sb ?_⟩
         ·exact SE rfl
         ·exact SB
      ·have d2:decide ((0:Int) < (w.length:Int))=false:=decide_eq_false (by omega)
       refine scF ?_
       refine ⟨(),trivial,?_,ImpS.sb ?_⟩
       ·exact SE rfl
       ·exact SB
     rintro _ _
     (apply Ru;refine sad ?_)
     refine ⟨i+1,hlt,by omega,?_,ImpS.sb ?_⟩
     ·exact SE rfl
     ·exact SB
    ·have d1:decide ((i:Int) < (ns.length:Int))=false:=decide_eq_false (by omega)
     (apply Ru;refine scF ?_)
     refine scl (hfm) ?_
     rintro _ _ ⟨rfl,rfl⟩
     apply Ru
     exact kr1 rfl ⟨rfl,rfl⟩
 ·have c1:decide ((er:Int)≠0)=true:=decide_eq_true (by omega)
  (apply Ru;refine sgF ?_;refine sgF ?_;refine sgF ?_;refine spT ?_)
  refine scl (hfm) ?_
  rintro _ _ ⟨rfl,rfl⟩
  apply Ru
  exact kr1 rfl ⟨rfl,rfl⟩
end
section
open Go Go.ChangeShapes Go.WideShapes Go.ChangeAt Go.RowKit Go.Deep
theorem Di:ownKnob Tryz.prog.godebug=none:=by kernel_rfl
theorem Ch:laidOutB Tryz.prog=true:=by kernel_rfl
theorem Fn.calls {P:Program} {f:FuncId} {args:Array Value} {w:World} (h:Fn P f args [init w] (fun v Q=>v=.bool true∧Q=[init w])) :
  Calls P f args w fun e w'=>e=.returned (.bool true)∧Below w.heap.size w w':=by
 refine (callsIn_wide (n:=0)).1 ((h [] w (oC w)).mono ?_)
 rintro e w' ⟨v,Q,rfl,hs,⟨rfl,rfl⟩,hq⟩
 exact ⟨rfl,lf hs hq⟩
section
variable {H:Type} {enc:TypeId × Value→H} {w:World} {base:Nat} {spare:Nat→Bool} {held:Bool}
theorem yL {fuel:Nat} {v:Value} {x:DataW H × List MemPlace} (h:DataW.trod enc Tryz.prog w base spare held fuel 22 [v]=some x):∃ l:List (List UInt8),Sl (init w) v l.length 1 (aI l):=by
 rcases open_slice1 Tryz.underlying22 (by kernel_rfl) h with ⟨hc,_⟩ | ⟨a,len,cap,m,n,V,D,Pl,hc,_,hl,_,hmm,_,hi⟩
 ·simp only [List.cons.injEq,and_true] at hc
  subst hc
  exact ⟨[],none,0,rfl,rfl,fun h=>by simp at h⟩
 ·simp only [List.cons.injEq,and_true] at hc
  subst hc
  have key:∀ i,∃ y:List UInt8,i < len→w.cell? (a.add i)=some (str y):=by
   intro i
   by_cases hil:i < len
   ·obtain ⟨h1,h2⟩:=hi i (by rw [hmm];split <;> omega)
    obtain ⟨s,hs,_⟩:=DataW.trod_string Tryz.underlying9 h2
    simp only [List.cons.injEq,and_true] at hs
    refine ⟨s.data.toList,fun _=>?_⟩
    rw [h1,hs]
   ·exact ⟨[],fun h=>absurd h hil⟩
  obtain ⟨f,hf⟩:=Classical.axiomOfChoice key
  have hlen:((List.range len).map f).length=len:=by simp
  refine ⟨(List.range len).map f,some a,cap,by rw [hlen],by unfold aI;simp,fun hpos=>?_⟩
  rw [hlen] at hpos
  obtain ⟨b,o,sp⟩:=a
  have hsp:sp=none:=by
   have:=hf 0 hpos
   simpa [Addr.add] using World.cell?_spot this
  subst hsp
  refine ⟨b,o,rfl,fun j u hj=>?_⟩
  have hjl:j < len:=by
   have:=(List.getElem?_eq_some_iff.1 hj).1
   unfold aI at this
   rw [List.length_map,hlen] at this;exact this
  have hc:=hf j hjl
  rw [cL] at hc
  unfold aI at hj
  rw [List.getElem?_map,List.getElem?_map,List.getElem?_range hjl] at hj
  cases hj
  exact Rd.init hc
end
end
end Go.Proofs.YtkeialpeabhaaaaGreat
