/-
  The law TopForms, part 5.
-/
import Derived.Test.YtkeialpeabhaaaaGreatM4
import Derived.Shelf.SlSortCmp.NoneTotal
import Derived.Test.YtkeialpeabhaaaaGreatLay
import Derived.Scope
import Derived.MapKept
namespace Go.Proofs.YtkeialpeabhaaaaGreat
open Go
set_option synthInstance.maxHeartbeats 0
set_option synthInstance.maxSize 100000
set_option maxHeartbeats 128000000
set_option maxRecDepth 40000
set_option linter.all false
namespace Pr
def wordV (w:List Int):List Value:=w.map fun x=>i64 x
def WordR (q:HP) (v:Value) (w:List Int):Prop:=Sl q v w.length 1 (wordV w)
theorem WordR.form {q:HP} {v:Value} {w:List Int} (h:WordR q v w):∃ a cap,v=.slice a w.length cap:=let ⟨a,cap,e,_⟩:=h;⟨a,cap,e⟩
theorem WordR.at {q:HP} {a:Option Addr} {n cap k:Nat} {w:List Int} {x:Int} (h:WordR q (.slice a n cap) w) (hk:w[k]?=some x) :
  ∃ b o,a=some ⟨b,o,none⟩∧n=w.length∧Rd q ⟨b,o+k * 1,none⟩ (i64 x):=by
 obtain ⟨a',cap',e,hl,hr⟩:=h
 injection e with e1 e2 e3
 subst e1 e2
 have hlt:=(List.getElem?_eq_some_iff.1 hk).1
 obtain ⟨b,o,rfl,hr'⟩:=hr (by omega)
 refine ⟨b,o,rfl,rfl,?_⟩
 rw [Nat.mul_one]
 exact hr' _ _ (by unfold wordV;rw [List.getElem?_map,hk];rfl)
theorem WordR.sup {q q':HP} (h:Sup q q') {v:Value} {w:List Int} (k:WordR q v w):WordR q' v w:=Sl.sup h k
theorem im {C:CnfD} {w:List Int} {fs:List F3} (hok:okC C=true) (hl:¬ 64 < w.length) (hs:Sound C w fs) (hn:fs.Nodup):¬ 5000000≤fs.length:=by
 have h1:=yu hok hs hn
 have h2:=okC_nts hok
 have h3:C.nts.toNat * ((w.length+1) * (w.length+1))≤1024 * (65 * 65):=Nat.mul_le_mul (by omega) (Nat.mul_le_mul (by omega) (by omega))
 omega
theorem Cg {fs:List F3} {f:F3}:f∈ij fs f:=qd.2 (.inr rfl)
theorem yX {fs:List F3} {f g:F3} (h:g∈fs):g∈ij fs f:=qd.2 (.inl h)
attribute [local irreducible] G GO GR GT Fn FnV pt init exs pur sat own ImpS fJ fi cP ij wordV symsV
theorem xk (q:HP) (C:CnfD) (w:List Int) (pv wv:Value) (hp:PrsR q pv C.prods) (hw:WordR q wv w) (hok:okC C=true) (hz:Fits C) (hl:¬ 64 < w.length) (bt bm:Nat) (rv:Value) (fs:List F3) (hs:Sound C w fs) (hnd:fs.Nodup) :
  Fn Tryz.prog 158 #[fm bt] (fZ bt C.nts pv wv bm rv fs++[q]) (fun r Q=>∃ rv' fs',Sound C w fs'∧fs'.Nodup∧(∀ p∈C.prods,BaseP w p fs')∧Q=fZ bt C.nts pv wv bm rv' fs'++[q]):=by
 have hpn:¬ 140737488355328 < C.prods.length:=by have:=hz.1;omega
 obtain ⟨ap,cp,rfl⟩:=hp.form
 obtain ⟨aw,cw,rfl⟩:=hw.form
 refine Fn.mk2 Tryz.func158 rfl rfl fun w0 F=>?_
 apply Ru
 refine G.loop3 (fun (k:Nat) (_:Value) (_:List F3)=>[(0,fm bt),(11,.slice ap C.prods.length cp),(12,i64 (C.prods.length:Nat)),(13,i64 (k:Nat))])
  (fun _ rv fs=>nB bt C.nts (.slice ap C.prods.length cp) (.slice aw w.length cw) bm rv::pt bm (cP (fi 0 fs))::own 195 3 fs.length rv (fJ fs)::q::F)
  (fun k _ fs=>k≤C.prods.length∧Sound C w fs∧fs.Nodup∧∀ j p,j < k→C.prods[j]?=some p→BaseP w p fs) (fun k _ _=>C.prods.length - k) 0 rv fs ⟨Nat.zero_le _,hs,hnd,fun j p h=>absurd h (Nat.not_lt_zero _)⟩ ?_ ?_ ?_
 ·exact SE rfl
 ·exact SB
 ·rintro k rv fs ⟨hk,hs,hnd,hb⟩
  apply Ru
  refine G.condD rfl (fun hlt=>?_) (fun hge=>?_)
  ·have hkl:k < C.prods.length:=by omega
   obtain ⟨p,hpk⟩:∃ p,C.prods[k]?=some p:=⟨_,List.getElem?_eq_getElem hkl⟩
   obtain ⟨b0,o0,bv,rfl,_,r1,r2,hss⟩:=hp.at hpk
   have hpm:=List.mem_of_getElem? hpk
   obtain ⟨A,body⟩:=p
   dsimp only at r1 r2 hss
   obtain ⟨ab,cb,rfl⟩:=hss.form
   (apply Ru;refine six ?_;refine sl2 (by assumption) (by assumption) ?_;refine sal fun b3=>?_;apply Ru)
   match body,hss,hpk,hpm with
   | [],hss,hpk,hpm=>
    (refine G.condT rfl rfl ?_;apply Ru;refine sad ?_)
    refine G.loop3 (fun (i:Nat) (_:Value) (_:List F3)=>[(0,fm bt),(3,fm b3),(11,.slice (some ⟨b0,o0,none⟩) C.prods.length cp),(12,i64 (C.prods.length:Nat)),(13,i64 (k:Nat)),(27,.int .i64 ((w.length:Int)+1)),(28,i64 (i:Nat))])
     (fun _ rv gs=>nB bt C.nts (.slice (some ⟨b0,o0,none⟩) C.prods.length cp) (.slice aw w.length cw) bm rv::pt bm (cP (fi 0 gs))::own 195 3 gs.length rv (fJ gs)::q::pt b3 (row [i64 A,.slice ab 0 cb] 82)::F)
     (fun i _ gs=>i≤w.length+1∧Sound C w gs∧gs.Nodup∧(∀ x∈fs,x∈gs)∧∀ j,j < i→bI A j j∈gs) (fun i _ _=>w.length+1 - i) 0 rv fs ⟨Nat.zero_le _,hs,hnd,fun _ h=>h,fun j h=>absurd h (Nat.not_lt_zero _)⟩ ?_ ?_ ?_
    ·exact SE rfl
    ·exact SB
    ·rintro i rv gs ⟨hi,hgs,hgn,hsub,hall⟩
     have hsm:=im hok hl hgs hgn
     apply Ru
     refine G.condD rfl (fun hlt2=>?_) (fun hge2=>?_)
     ·have hd:Der C w A i i:=.none hpm (by omega)
      apply Ru
      refine scl (m9 bt C.nts (.slice (some ⟨b0,o0,none⟩) C.prods.length cp) (.slice aw w.length cw) bm rv gs (bI A i i) (by omega)) ?_
      rintro _ _ ⟨rv',rfl⟩
      (apply Ru;refine sad ?_)
      refine ⟨i+1,rv',ij gs (bI A i i),⟨by omega,jl hgs hd,jm hgn _,fun x hx=>yX (hsub x hx),fun j hj=>?_⟩,by omega,?_,?_⟩
      ·by_cases e:j=i
       ·subst e;exact Cg
       ·exact yX (hall j (by omega))
      ·exact SE rfl
      ·exact SB
     ·(apply Ru;refine sad ?_)
      refine ⟨k+1,rv,gs,⟨by omega,hgs,hgn,fun j p hj hjp=>?_⟩,by omega,?_,?_⟩
      ·by_cases e:j=k
       ·subst e
        rw [hpk] at hjp
        injection hjp with hjp
        subst hjp
        exact ⟨fun _ m hm=>hall m (by omega),(fun s e=>by cases e)⟩
       ·exact (hb j p (by omega) hjp).mono hsub
      ·exact SE rfl
      ·exact SB
   | [s],hss,hpk,hpm=>
    obtain ⟨bb,ob,rfl,_,_,rs⟩:=hss.at (k:=0) (s:=s) rfl
    (refine G.condF rfl rfl ?_;apply Ru)
    refine G.loop3 (fun (i:Nat) (_:Value) (_:List F3)=>[(0,fm bt),(3,fm b3),(11,.slice (some ⟨b0,o0,none⟩) C.prods.length cp),(12,i64 (C.prods.length:Nat)),(13,i64 (k:Nat)),(44,.slice aw w.length cw),(45,i64 (w.length:Nat)),(46,i64 (i:Nat))])
     (fun _ rv gs=>nB bt C.nts (.slice (some ⟨b0,o0,none⟩) C.prods.length cp) (.slice aw w.length cw) bm rv::pt bm (cP (fi 0 gs))::own 195 3 gs.length rv (fJ gs)::q::pt b3 (row [i64 A,.slice (some ⟨bb,ob,none⟩) 1 cb] 82)::F)
     (fun i _ gs=>i≤w.length∧Sound C w gs∧gs.Nodup∧(∀ x∈fs,x∈gs)∧∀ j,j < i→w[j]?=some s.2→bI A j (j+1)∈gs) (fun i _ _=>w.length - i) 0 rv fs ⟨Nat.zero_le _,hs,hnd,fun _ h=>h,fun j h=>absurd h (Nat.not_lt_zero _)⟩ ?_ ?_ ?_
    ·exact SE rfl
    ·exact SB
    ·rintro i rv gs ⟨hi,hgs,hgn,hsub,hall⟩
     have hsm:=im hok hl hgs hgn
     apply Ru
     refine G.condD rfl (fun hlt2=>?_) (fun hge2=>?_)
     ·have hiw:i < w.length:=by omega
      obtain ⟨x,hx⟩:∃ x,w[i]?=some x:=⟨_,List.getElem?_eq_getElem hiw⟩
      obtain ⟨bw,ow,rfl,_,rw1⟩:=hw.at hx
      (apply Ru;refine six ?_;refine sld (by assumption) ?_;apply Ru;refine six ?_;refine sld (by assumption) ?_;apply Ru)
      refine G.condD rfl (fun heq=>?_) (fun hne=>?_)
      ·subst heq
       have hd:Der C w A i (i+1):=.one hpm hx
       have hadd:=fun (pv wv:Value)=>m9 bt C.nts pv wv bm rv gs (bI A i (i+1)) (by omega)
       rw [show f3V (bI A i (i+1))=.agg #[i64 A,i64 (i:Nat),.int .i64 ((i:Int)+1)] from rfl] at hadd
       (apply Ru;refine sad ?_)
       refine scl (hadd (.slice (some ⟨b0,o0,none⟩) C.prods.length cp) (.slice (some ⟨bw,ow,none⟩) w.length cw)) ?_
       rintro _ _ ⟨rv',rfl⟩
       (apply Ru;refine sad ?_)
       refine ⟨i+1,rv',ij gs (bI A i (i+1)),⟨by omega,jl hgs hd,jm hgn _,fun x hx=>yX (hsub x hx),fun j hj hjx=>?_⟩,by omega,?_,?_⟩
       ·by_cases e:j=i
        ·subst e;exact Cg
        ·exact yX (hall j (by omega) hjx)
       ·exact SE rfl
       ·exact SB
      ·(apply Ru;refine sad ?_)
       refine ⟨i+1,rv,gs,⟨by omega,hgs,hgn,hsub,fun j hj hjx=>?_⟩,by omega,?_,?_⟩
       ·by_cases e:j=i
        ·subst e
         rw [hx] at hjx
         injection hjx with hjx
         exact absurd hjx hne
        ·exact hall j (by omega) hjx
       ·exact SE rfl
       ·exact SB
     ·(apply Ru;refine sad ?_)
      refine ⟨k+1,rv,gs,⟨by omega,hgs,hgn,fun j p hj hjp=>?_⟩,by omega,?_,?_⟩
      ·by_cases e:j=k
       ·subst e
        rw [hpk] at hjp
        injection hjp with hjp
        subst hjp
        refine ⟨(fun e=>by cases e),fun s' e m hm=>?_⟩
        injection e with e _
        subst e
        exact hall m (by have:=(List.getElem?_eq_some_iff.1 hm).1;omega) hm
       ·exact (hb j p (by omega) hjp).mono hsub
      ·exact SE rfl
      ·exact SB
   | s::t::more,hss,hpk,hpm=>
    have d0:decide (((s::t::more).length:Int)=0)=false:=decide_eq_false (by simp;omega)
    have d1:decide (((s::t::more).length:Int)=1)=false:=decide_eq_false (by simp;omega)
    (refine G.condF rfl rfl ?_;apply Ru;refine G.condF rfl rfl ?_;apply Ru;refine sad ?_)
    refine ⟨k+1,rv,fs,⟨by omega,hs,hnd,fun j p hj hjp=>?_⟩,by omega,?_,?_⟩
    ·by_cases e:j=k
     ·subst e
      rw [hpk] at hjp
      injection hjp with hjp
      subst hjp
      exact ⟨(fun e=>by cases e),(fun s' e=>by cases e)⟩
     ·exact hb j p (by omega) hjp
    ·exact SE rfl
    ·exact SB
  ·have:k=C.prods.length:=by omega
   subst this
   apply Ru
   refine KF2.n0 (Q:=fZ bt C.nts (.slice ap C.prods.length cp) (.slice aw w.length cw) bm rv fs++[q]) rfl ⟨rv,fs,hs,hnd,fun p hpm=>?_,rfl⟩ (ImpS.sb ?_)
   ·obtain ⟨j,hj⟩:=List.getElem?_of_mem hpm
    exact hb j p (List.getElem?_eq_some_iff.1 hj).1 hj
   ·exact SB
end Pr
namespace Pr
theorem Sound.der {C:CnfD} {w:List Int} {fs:List F3} (h:Sound C w fs) {A:Int} {i j:Nat} (k:bI A i j∈fs):Der C w A i j:=by
 obtain ⟨B,m,n,e,hd⟩:=h _ k
 obtain ⟨rfl,rfl,rfl⟩:=mH e
 exact hd
theorem g7 {fs gs:List F3} (h:∃ t,gs=fs++t) {x:F3} (k:x∈fs):x∈gs:=by
 obtain ⟨t,rfl⟩:=h
 exact List.mem_append_left _ k
theorem mr {fs gs hs:List F3} (h:∃ t,gs=fs++t) (k:∃ t,hs=gs++t):∃ t,hs=fs++t:=by
 obtain ⟨t,rfl⟩:=h
 obtain ⟨u,rfl⟩:=k
 exact ⟨t++u,by rw [List.append_assoc]⟩
theorem sC {fs gs:List F3} (h:∃ t,gs=fs++t) (f:F3):∃ t,ij gs f=fs++t:=mr h (BE gs f)
theorem G.midE {P:Program} {c:Cx} {K:aY} {L:Env} {H:List HP} {σ:Type} {x y:Code} (S:σ→Env) (M:σ→List HP) (I:σ→Prop) (hx:G P c x (cF (fun L' H'=>∃ s,I s∧SubE (S s) L'∧ImpS H' (M s)) K) L H) (hy:∀ s,I s→G P c y K (S s) (M s)):G P c x (cF (fun L H=>G P c y K L H) K) L H:=
 G.mono hx (fun e L' H' h=>by
  cases e with
  | normal=>obtain ⟨s,hi,hL,hH⟩:=h;exact G.subI hL hH (hy s hi)
  | _=>exact h)
theorem G.midBE {P:Program} {c:Cx} {K:aY} {L:Env} {H:List HP} {σ:Type} {x y:Code} {id:Nat} (S:σ→Env) (M:σ→List HP) (I:σ→Prop) (hx:G P c x (cB id (cF (fun L' H'=>∃ s,I s∧SubE (S s) L'∧ImpS H' (M s)) K)) L H) (hy:∀ s,I s→G P c y K (S s) (M s)):G P c x (cB id (cF (fun L H=>G P c y K L H) K)) L H:=
 G.mono hx (fun e L' H' h=>by
  cases e with
  | normal=>obtain ⟨s,hi,hL,hH⟩:=h;exact G.subI hL hH (hy s hi)
  | exit i=>
   simp only [cB] at h ⊢
   cases hb:Nat.beq i id with
   | true=>simp only [hb,cond_true] at h ⊢;obtain ⟨s,hi,hL,hH⟩:=h;exact G.subI hL hH (hy s hi)
   | false=>simp only [hb,cond_false] at h ⊢;exact h
  | _=>exact h)
attribute [local irreducible] G GO GR GT Fn FnV pt init exs pur sat own ImpS fJ fi cP ij wordV symsV
theorem zg (q:HP) (C:CnfD) (w:List Int) (pv wv:Value) (hp:PrsR q pv C.prods) (hw:WordR q wv w) (hok:okC C=true) (hz:Fits C) (hl:¬ 64 < w.length) (bt bm:Nat) (rv:Value) (fs:List F3) (hs:Sound C w fs) (hnd:fs.Nodup)
  (A:Int) (fr to:Nat) (hd:Der C w A fr to) :
  Fn Tryz.prog 159 #[fm bt,.agg #[i64 A,i64 (fr:Nat),i64 (to:Nat)]] (fZ bt C.nts pv wv bm rv fs++[q]) (fun r Q=>∃ rv' gs,Sound C w gs∧gs.Nodup∧(∃ t,gs=fs++t)∧(∀ p∈C.prods,JoinP p A fr to fs gs)∧Q=fZ bt C.nts pv wv bm rv' gs++[q]):=by
 have hpn:¬ 140737488355328 < C.prods.length:=by have:=hz.1;omega
 have hdl:=hd.le
 obtain ⟨ap,cp,rfl⟩:=hp.form
 obtain ⟨aw,cw,rfl⟩:=hw.form
 refine Fn.mk2 Tryz.func159 rfl rfl fun w0 F=>?_
 (apply Ru;refine sbx fun b3=>?_;apply Ru)
 refine G.loop3 (fun (k:Nat) (_:Value) (_:List F3)=>[(0,fm bt),(3,fm b3),(12,.slice ap C.prods.length cp),(13,i64 (C.prods.length:Nat)),(14,i64 (k:Nat))])
  (fun _ rv gs=>nB bt C.nts (.slice ap C.prods.length cp) (.slice aw w.length cw) bm rv::pt bm (cP (fi 0 gs))::own 195 3 gs.length rv (fJ gs)::q::pt b3 (row [i64 A,i64 (fr:Nat),i64 (to:Nat)] 195)::F)
  (fun k _ gs=>k≤C.prods.length∧Sound C w gs∧gs.Nodup∧(∃ t,gs=fs++t)∧∀ j p,j < k→C.prods[j]?=some p→JoinP p A fr to fs gs) (fun k _ _=>C.prods.length - k) 0 rv fs ⟨Nat.zero_le _,hs,hnd,⟨[],by simp⟩,fun j p h=>absurd h (Nat.not_lt_zero _)⟩ ?_ ?_ ?_
 ·exact SE rfl
 ·exact SB
 ·rintro k rv gs ⟨hk,hgs,hgn,hpre,hb⟩
  apply Ru
  refine G.condD rfl (fun hlt=>?_) (fun hge=>?_)
  ·have hkl:k < C.prods.length:=by omega
   obtain ⟨p,hpk⟩:∃ p,C.prods[k]?=some p:=⟨_,List.getElem?_eq_getElem hkl⟩
   obtain ⟨b0,o0,bv,rfl,_,r1,r2,hss⟩:=hp.at hpk
   have hpm:=List.mem_of_getElem? hpk
   obtain ⟨B,body⟩:=p
   dsimp only at r1 r2 hss
   obtain ⟨ab,cb,rfl⟩:=hss.form
   (apply Ru;refine six ?_;refine sl2 (by assumption) (by assumption) ?_;refine sal fun b5=>?_;apply Ru)
   refine G.condD rfl (fun hne=>?_) (fun heq=>?_)
   ·(apply Ru;refine sad ?_)
    refine ⟨k+1,rv,gs,⟨by omega,hgs,hgn,hpre,fun j p hj hjp=>?_⟩,by omega,?_,?_⟩
    ·by_cases e:j=k
     ·subst e
      rw [hpk] at hjp
      injection hjp with hjp
      subst hjp
      intro s t e
      dsimp only at e
      subst e
      exact absurd rfl hne
     ·exact hb j p (by omega) hjp
    ·exact SE rfl
    ·exact SB
   ·obtain ⟨s,t,rfl⟩:∃ s t,body=[s,t]:=by
     match body,heq with
     | [s,t],_=>exact ⟨s,t,rfl⟩
     | [],h=>simp at h
     | [s],h=>simp at h
     | s::t::u::more,h=>simp at h;omega
    obtain ⟨bb,ob,rfl,_,_,rs⟩:=hss.at (k:=0) (s:=s) rfl
    obtain ⟨bb',ob',e,_,_,rt⟩:=hss.at (k:=1) (s:=t) rfl
    injection e with e
    injection e with e1 e2
    subst e1 e2
    apply Ru
    refine dr 8 ?_
    (apply Ru;refine qix ?_;refine qld (by assumption) ?_;apply Ru)
    refine G.midE (fun _:Value × List F3=>[(0,fm bt),(3,fm b3),(5,fm b5),(12,.slice (some ⟨b0,o0,none⟩) C.prods.length cp),(13,i64 (C.prods.length:Nat)),(14,i64 (k:Nat))]) (fun p=>nB bt C.nts (.slice (some ⟨b0,o0,none⟩) C.prods.length cp) (.slice aw w.length cw) bm p.1::pt bm (cP (fi 0 p.2))::own 195 3 p.2.length p.1 (fJ p.2)::q::pt b3 (row [i64 A,i64 (fr:Nat),i64 (to:Nat)] 195)::pt b5 (row [i64 B,.slice (some ⟨bb,ob,none⟩) 2 cb] 82)::F) (fun p=>Sound C w p.2∧p.2.Nodup∧(∃ t,p.2=gs++t)∧(s.2=A→∀ m,bI t.2 to m∈fs→bI B fr m∈p.2)) ?_ ?_
    ·refine G.condD rfl (fun heq=>?_) (fun hne=>?_)
     ·apply Ru
      refine G.loop3 (fun (m:Nat) (_:Value) (_:List F3)=>[(0,fm bt),(3,fm b3),(5,fm b5),(12,.slice (some ⟨b0,o0,none⟩) C.prods.length cp),(13,i64 (C.prods.length:Nat)),(14,i64 (k:Nat)),(6,i64 (m:Nat))]) (fun _ rv gs=>nB bt C.nts (.slice (some ⟨b0,o0,none⟩) C.prods.length cp) (.slice aw w.length cw) bm rv::pt bm (cP (fi 0 gs))::own 195 3 gs.length rv (fJ gs)::q::pt b3 (row [i64 A,i64 (fr:Nat),i64 (to:Nat)] 195)::pt b5 (row [i64 B,.slice (some ⟨bb,ob,none⟩) 2 cb] 82)::F)
       (fun m _ hs=>to≤m∧m≤w.length+1∧Sound C w hs∧hs.Nodup∧(∃ t,hs=gs++t)∧∀ n,to≤n→n < m→bI t.2 to n∈fs→bI B fr n∈hs) (fun m _ _=>w.length+1 - m) to rv gs ⟨Nat.le_refl _,by omega,hgs,hgn,⟨[],by simp⟩,fun n h1 h2=>absurd h2 (by omega)⟩ ?_ ?_ ?_
      ·exact SE rfl
      ·exact SB
      ·rintro m rv2 hs2 ⟨hm1,hm2,h2s,h2n,h2p,hall⟩
       have hsm:=im hok hl h2s h2n
       apply Ru
       refine G.condD rfl (fun hlt2=>?_) (fun hge2=>?_)
       ·apply Ru
        refine dr 11 ?_
        (apply Ru;refine qix ?_;refine qld (by assumption) ?_;apply Ru)
        apply GQ.step;focus (intro Z;refine scl (lS bt C.nts (.slice (some ⟨b0,o0,none⟩) C.prods.length cp) (.slice aw w.length cw) bm rv2 hs2 (bI t.2 to m)) ?_;rintro _ _ ⟨rfl,rfl⟩;refine GO.nil (KQ.s ?_);exact SB)
        apply Ru
        refine G.condD rfl (fun hin=>?_) (fun hout=>?_)
        ·have hd2:Der C w B fr m:=.two hpm (by rw [heq];exact hd) (h2s.der hin)
         apply Ru
         refine scl (m9 bt C.nts (.slice (some ⟨b0,o0,none⟩) C.prods.length cp) (.slice aw w.length cw) bm rv2 hs2 (bI B fr m) (by omega)) ?_
         rintro _ _ ⟨rv3,rfl⟩
         (apply Ru;refine sad ?_)
         refine ⟨m+1,rv3,ij hs2 (bI B fr m),⟨by omega,by omega,jl h2s hd2,jm h2n _,sC h2p _,fun n h1 h2 h3=>?_⟩,by omega,?_,?_⟩
         ·by_cases e:n=m
          ·subst e;exact Cg
          ·exact yX (hall n h1 (by omega) h3)
         ·exact SE rfl
         ·exact SB
        ·(apply Ru;refine sad ?_)
         refine ⟨m+1,rv2,hs2,⟨by omega,by omega,h2s,h2n,h2p,fun n h1 h2 h3=>?_⟩,by omega,?_,?_⟩
         ·by_cases e:n=m
          ·subst e
           exact absurd (g7 h2p (g7 hpre h3)) hout
          ·exact hall n h1 (by omega) h3
         ·exact SE rfl
         ·exact SB
       ·apply Ru
        refine ⟨(rv2,hs2),⟨h2s,h2n,h2p,fun _ n hn=>?_⟩,?_,ImpS.sb ?_⟩
        ·have:=(hs.der hn).le
         exact hall n this.1 (by omega) hn
        ·exact SE rfl
        ·exact SB
     ·apply Ru
      refine ⟨(rv,gs),⟨hgs,hgn,⟨[],by simp⟩,fun h=>absurd h hne⟩,?_,ImpS.sb ?_⟩
      ·exact SE rfl
      ·exact SB
    rintro ⟨rv1,gs1⟩ ⟨h1s,h1n,h1p,hone⟩
    dsimp only at h1s h1n h1p hone ⊢
    apply Ru
    refine dr 8 ?_
    (apply Ru;refine qix ?_;refine qld (by assumption) ?_;apply Ru)
    refine G.midBE (fun _:Value × List F3=>[(0,fm bt),(3,fm b3),(5,fm b5),(12,.slice (some ⟨b0,o0,none⟩) C.prods.length cp),(13,i64 (C.prods.length:Nat)),(14,i64 (k:Nat))]) (fun p=>nB bt C.nts (.slice (some ⟨b0,o0,none⟩) C.prods.length cp) (.slice aw w.length cw) bm p.1::pt bm (cP (fi 0 p.2))::own 195 3 p.2.length p.1 (fJ p.2)::q::pt b3 (row [i64 A,i64 (fr:Nat),i64 (to:Nat)] 195)::pt b5 (row [i64 B,.slice (some ⟨bb,ob,none⟩) 2 cb] 82)::F) (fun p=>Sound C w p.2∧p.2.Nodup∧(∃ t,p.2=gs1++t)∧(t.2=A→∀ m,bI s.2 m fr∈fs→bI B m to∈p.2)) ?_ ?_
    ·refine G.condD rfl (fun heq=>?_) (fun hne=>?_)
     ·(apply Ru;refine sad ?_)
      refine G.loop3 (fun (m:Nat) (_:Value) (_:List F3)=>[(0,fm bt),(3,fm b3),(5,fm b5),(12,.slice (some ⟨b0,o0,none⟩) C.prods.length cp),(13,i64 (C.prods.length:Nat)),(14,i64 (k:Nat)),(70,.int .i64 ((fr:Int)+1)),(71,i64 (m:Nat))]) (fun _ rv gs=>nB bt C.nts (.slice (some ⟨b0,o0,none⟩) C.prods.length cp) (.slice aw w.length cw) bm rv::pt bm (cP (fi 0 gs))::own 195 3 gs.length rv (fJ gs)::q::pt b3 (row [i64 A,i64 (fr:Nat),i64 (to:Nat)] 195)::pt b5 (row [i64 B,.slice (some ⟨bb,ob,none⟩) 2 cb] 82)::F)
       (fun m _ hs=>m≤fr+1∧Sound C w hs∧hs.Nodup∧(∃ t,hs=gs1++t)∧∀ n,n < m→bI s.2 n fr∈fs→bI B n to∈hs) (fun m _ _=>fr+1 - m) 0 rv1 gs1 ⟨Nat.zero_le _,h1s,h1n,⟨[],by simp⟩,fun n h2=>absurd h2 (Nat.not_lt_zero _)⟩ ?_ ?_ ?_
      ·exact SE rfl
      ·exact SB
      ·rintro m rv2 hs2 ⟨hm2,h2s,h2n,h2p,hall⟩
       have hsm:=im hok hl h2s h2n
       apply Ru
       refine G.condD rfl (fun hlt2=>?_) (fun hge2=>?_)
       ·apply Ru
        refine dr 11 ?_
        (apply Ru;refine qix ?_;refine qld (by assumption) ?_;apply Ru)
        apply GQ.step;focus (intro Z;refine scl (lS bt C.nts (.slice (some ⟨b0,o0,none⟩) C.prods.length cp) (.slice aw w.length cw) bm rv2 hs2 (bI s.2 m fr)) ?_;rintro _ _ ⟨rfl,rfl⟩;refine GO.nil (KQ.s ?_);exact SB)
        apply Ru
        refine G.condD rfl (fun hin=>?_) (fun hout=>?_)
        ·have hd2:Der C w B m to:=.two hpm (h2s.der hin) (by rw [heq];exact hd)
         apply Ru
         refine scl (m9 bt C.nts (.slice (some ⟨b0,o0,none⟩) C.prods.length cp) (.slice aw w.length cw) bm rv2 hs2 (bI B m to) (by omega)) ?_
         rintro _ _ ⟨rv3,rfl⟩
         (apply Ru;refine sad ?_)
         refine ⟨m+1,rv3,ij hs2 (bI B m to),⟨by omega,jl h2s hd2,jm h2n _,sC h2p _,fun n h2 h3=>?_⟩,by omega,?_,?_⟩
         ·by_cases e:n=m
          ·subst e;exact Cg
          ·exact yX (hall n (by omega) h3)
         ·exact SE rfl
         ·exact SB
        ·(apply Ru;refine sad ?_)
         refine ⟨m+1,rv2,hs2,⟨by omega,h2s,h2n,h2p,fun n h2 h3=>?_⟩,by omega,?_,?_⟩
         ·by_cases e:n=m
          ·subst e
           exact absurd (g7 h2p (g7 h1p (g7 hpre h3))) hout
          ·exact hall n (by omega) h3
         ·exact SE rfl
         ·exact SB
       ·apply Ru
        refine ⟨(rv2,hs2),⟨h2s,h2n,h2p,fun _ n hn=>?_⟩,?_,ImpS.sb ?_⟩
        ·have:=(hs.der hn).le
         exact hall n (by omega) hn
        ·exact SE rfl
        ·exact SB
     ·apply Ru
      refine ⟨(rv1,gs1),⟨h1s,h1n,⟨[],by simp⟩,fun h=>absurd h hne⟩,?_,ImpS.sb ?_⟩
      ·exact SE rfl
      ·exact SB
    rintro ⟨rv2,gs2⟩ ⟨h2s,h2n,h2p,htwo⟩
    dsimp only at h2s h2n h2p htwo ⊢
    (apply Ru;refine sad ?_)
    refine ⟨k+1,rv2,gs2,⟨by omega,h2s,h2n,mr (mr hpre h1p) h2p,fun j p hj hjp=>?_⟩,by omega,?_,?_⟩
    ·by_cases e:j=k
     ·subst e
      rw [hpk] at hjp
      injection hjp with hjp
      subst hjp
      intro s' t' e
      dsimp only at e
      injection e with e1 e
      injection e with e2 _
      subst e1 e2
      exact ⟨fun h m hm=>g7 h2p (hone h m hm),fun h m hm=>htwo h m hm⟩
     ·exact (hb j p (by omega) hjp).mono fun x hx=>g7 h2p (g7 h1p hx)
    ·exact SE rfl
    ·exact SB
  ·have:k=C.prods.length:=by omega
   subst this
   apply Ru
   refine KF2.n0 (Q:=fZ bt C.nts (.slice ap C.prods.length cp) (.slice aw w.length cw) bm rv gs++[q]) rfl ⟨rv,gs,hgs,hgn,hpre,fun p hpm=>?_,rfl⟩ (ImpS.sb ?_)
   ·obtain ⟨j,hj⟩:=List.getElem?_of_mem hpm
    exact hb j p (List.getElem?_eq_some_iff.1 hj).1 hj
   ·exact SB
end Pr
namespace Pr
theorem vB:∀ {fs:List F3} {k:Nat} {f:F3},fs[k]?=some f→(fJ fs)[k * 3]?=some (i64 f.1)∧(fJ fs)[k * 3+1]?=some (i64 f.2.1)∧(fJ fs)[k * 3+2]?=some (i64 f.2.2)
 | [],_,_,h=>by simp at h
 | g::fs,0,f,h=>by simp at h;subst h;simp [fJ]
 | g::fs,k+1,f,h=>by
  have:=vB (fs:=fs) (k:=k) (by simpa using h)
  have e:fJ (g::fs)=i64 g.1::i64 g.2.1::i64 g.2.2::fJ fs:=rfl
  rw [e,show (k+1) * 3=k * 3+3 by omega]
  simpa using this
theorem zQ (n:Int) (ap aw:Option Addr) (lp cp lw cw bm:Nat):Tryz.prog.built 246 [(0,.agg #[i64 n,.slice ap lp cp]),(1,.slice aw lw cw),(2,.map (some bm))]=some [i64 n,.slice ap lp cp,.slice aw lw cw,.map (some bm),.slice none 0 0].toArray:=by kernel_rfl
def Clk (C:CnfD) (k:Nat) (fs:List F3):Prop:=∀ p∈C.prods,∀ s t,p.2=[s,t]→∀ i m j a b,a < k→b < k→fs[a]?=some (bI s.2 i m)→fs[b]?=some (bI t.2 m j)→bI p.1 i j∈fs
theorem Clk.succ {C:CnfD} {k:Nat} {fs gs:List F3} {A:Int} {fr to:Nat} (h:Clk C k fs) (hk:fs[k]?=some (bI A fr to)) (hp:∃ t,gs=fs++t) (hj:∀ p∈C.prods,JoinP p A fr to fs gs):Clk C (k+1) gs:=by
 intro p hpm s t e i m j a b ha hb h1 h2
 have hkl:=(List.getElem?_eq_some_iff.1 hk).1
 obtain ⟨u,rfl⟩:=hp
 rw [List.getElem?_append_left (by omega)] at h1 h2
 by_cases ea:a=k
 ·subst ea
  rw [hk] at h1
  injection h1 with h1
  obtain ⟨rfl,rfl,rfl⟩:=mH h1
  exact (hj p hpm s t e).1 rfl _ (List.mem_of_getElem? h2)
 ·by_cases eb:b=k
  ·subst eb
   rw [hk] at h2
   injection h2 with h2
   obtain ⟨rfl,rfl,rfl⟩:=mH h2
   exact (hj p hpm s t e).2 rfl _ (List.mem_of_getElem? h1)
  ·exact List.mem_append_left _ (h p hpm s t e i m j a b (by omega) (by omega) h1 h2)
theorem yi {C:CnfD} {w:List Int} {fs:List F3} (hs:Sound C w fs) (hb:∀ p∈C.prods,BaseP w p fs) (hc:Clk C fs.length fs) (A:Int) (i j:Nat):bI A i j∈fs↔Der C w A i j:=
 ⟨fun h=>hs.der h,fun h=>wW hb (fun p hp s t e i k j h1 h2=>by
  obtain ⟨a,ha⟩:=List.getElem?_of_mem h1
  obtain ⟨b,hb⟩:=List.getElem?_of_mem h2
  exact hc p hp s t e i k j a b (List.getElem?_eq_some_iff.1 ha).1 (List.getElem?_eq_some_iff.1 hb).1 ha hb) h⟩
theorem D6 (q:HP) (C:CnfD) (w:List Int) (pv wv:Value) (hp:PrsR q pv C.prods) (hw:WordR q wv w) (hok:okC C=true) (hz:Fits C) (hl:¬ 64 < w.length) (bt bm:Nat) :
  Fn Tryz.prog 158 #[fm bt] [nB bt C.nts pv wv bm (.slice none 0 0),pt bm (cP []),own 195 3 0 (.slice none 0 0) [],q] (fun r Q=>∃ rv' fs',Sound C w fs'∧fs'.Nodup∧(∀ p∈C.prods,BaseP w p fs')∧Q=fZ bt C.nts pv wv bm rv' fs'++[q]):=
 xk q C w pv wv hp hw hok hz hl bt bm (.slice none 0 0) [] (fun f h=>by cases h) List.nodup_nil
attribute [local irreducible] G GO GR GT Fn FnV pt init exs pur sat own ImpS fJ fi cP ij wordV symsV
theorem sI (q:HP) (C:CnfD) (w:List Int) (pv wv:Value) (hp:PrsR q pv C.prods) (hw:WordR q wv w) (hok:okC C=true) (hz:Fits C) (hl:¬ 64 < w.length) :
  Fn Tryz.prog 113 #[.agg #[i64 C.nts,pv],wv] [q] (fun r Q=>∃ bt bm rv fs,r=fm bt∧(∀ A i j,bI A i j∈fs↔Der C w A i j)∧Sound C w fs∧Q=fZ bt C.nts pv wv bm rv fs++[q]):=by
 have hpn:¬ 140737488355328 < C.prods.length:=by have:=hz.1;omega
 have hbeg:=D6 q C w pv wv hp hw hok hz hl
 have hjoin:=fun (bt bm:Nat) (rv:Value) (fs:List F3)=>zg q C w pv wv hp hw hok hz hl bt bm rv fs
 obtain ⟨ap,cp,rfl⟩:=hp.form
 obtain ⟨aw,cw,rfl⟩:=hw.form
 refine Fn.mk2 Tryz.func113 rfl rfl fun w0 F=>?_
 (apply Ru;refine sbx fun b2=>?_;apply Ru;refine GO.loadW rfl rfl rfl Tk.h rfl ?_;apply Ru)
 refine GO.makeMap rfl fun bm=>?_
 refine GO.buildPart3 (zQ C.nts ap aw C.prods.length cp w.length cw bm) rfl rfl rfl rfl ?_
 (refine sbx fun b11=>?_;apply Ru)
 refine GO.ownNil (T:=195) (sz:=3) ?_
 refine scl (hbeg b11 bm) ?_
 rintro _ _ ⟨rv,fs,hs,hn,hb,rfl⟩
 apply Ru
 refine G.loop3 (fun (k:Nat) (_:Value) (_:List F3)=>[(5,fm b11),(6,i64 (k:Nat))]) (fun _ rv gs=>nB b11 C.nts (.slice ap C.prods.length cp) (.slice aw w.length cw) bm rv::pt bm (cP (fi 0 gs))::own 195 3 gs.length rv (fJ gs)::q::F)
  (fun k _ gs=>k≤gs.length∧Sound C w gs∧gs.Nodup∧(∀ p∈C.prods,BaseP w p gs)∧Clk C k gs) (fun k _ _=>5000000 - k) 0 rv fs ⟨Nat.zero_le _,hs,hn,hb,fun p _ s t _ i m j a b h=>absurd h (Nat.not_lt_zero _)⟩ ?_ ?_ ?_
 ·exact SE rfl
 ·exact SB
 ·rintro k rv fs ⟨hk,hs,hn,hb,hc⟩
  have hsm:=im hok hl hs hn
  apply Ru
  refine G.condD rfl (fun hlt=>?_) (fun hge=>?_)
  ·have hkl:k < fs.length:=by omega
   obtain ⟨f,hf⟩:∃ f,fs[k]?=some f:=⟨_,List.getElem?_eq_getElem hkl⟩
   obtain ⟨A,fr,to,rfl,hd⟩:=hs f (List.mem_of_getElem? hf)
   obtain ⟨g1,g2,g3⟩:=vB hf
   refine G.ownForm (by omega) (Tk.t (Tk.t Tk.h)) fun b cap e12 _ _ _=>?_
   subst e12
   have hrd:∀ j u,[i64 A,i64 (fr:Nat),i64 (to:Nat)][j]?=some u→Rd (own 195 3 fs.length (.slice (some ⟨b,0,none⟩) fs.length cap) (fJ fs)) ⟨b,0+k * 3+j,none⟩ u:=fun j u hj=>by
    refine Rd.own ?_
    rw [Nat.zero_add]
    match j,hj with
    | 0,hj=>simp at hj;subst hj;exact g1
    | 1,hj=>simp at hj;subst hj;exact g2
    | 2,hj=>simp at hj;subst hj;exact g3
   (apply Ru;refine six ?_)
   refine GO.loadM (vs:=[i64 A,i64 (fr:Nat),i64 (to:Nat)]) rfl rfl rfl (Tk.t (Tk.t Tk.h)) rfl hrd ?_
   refine GO.call2 rfl rfl rfl (hjoin b11 bm (.slice (some ⟨b,0,none⟩) fs.length cap) fs hs hn A fr to hd) (Tks.c Tk.h (Tks.c Tk.h (Tks.c Tk.h (Tks.c Tk.h Tks.n)))) ?_
   rintro _ _ ⟨rv',gs,h1,h2,h3,h4,rfl⟩
   (apply Ru;refine sad ?_)
   refine ⟨k+1,rv',gs,⟨?_,h1,h2,fun p hp=>(hb p hp).mono fun x hx=>g7 h3 hx,hc.succ hf h3 h4⟩,by omega,?_,?_⟩
   ·obtain ⟨u,rfl⟩:=h3
    rw [List.length_append];omega
   ·exact SE rfl
   ·exact SB
  ·have:k=fs.length:=by omega
   subst this
   apply Ru
   exact kr1 rfl ⟨b11,bm,rv,fs,rfl,yi hs hb hc,hs,rfl⟩
theorem tQ (q:HP) (C:CnfD) (w:List Int) (pv wv:Value) (hp:PrsR q pv C.prods) (hw:WordR q wv w) (hok:okC C=true) (hz:Fits C) (hl:¬ 64 < w.length) :
  Fn Tryz.prog 113 #[.agg #[i64 C.nts,pv],wv] [q] (fun r Q=>∃ bt bm rv fs,r=fm bt∧(∀ A i j,bI A i j∈fs↔Der C w A i j)∧Q=fZ bt C.nts pv wv bm rv fs++[q]):=
 (sI q C w pv wv hp hw hok hz hl).mono fun _ _ ⟨bt,bm,rv,fs,h1,h2,_,h3⟩=>⟨bt,bm,rv,fs,h1,h2,h3⟩
end Pr
namespace Pr
attribute [local irreducible] G GO GR GT Fn FnV pt init exs pur sat own ImpS
def BR (s:bi):Value:=.agg [.bool s.1,i64 s.2].toArray
theorem qE (q:HP) (v f:Value) (ss:List bi) (pred:bi→Bool) (M:List HP) (hv:SymsR q v ss) (hf:∀ s∈ss,FnV Tryz.prog f [BR s] (q::M) (fun r Q=>r=.bool (pred s)∧Q=q::M)) (hn:ss.length≤9223372036854775807) :
  Fn Tryz.prog 144 #[v,f] (q::M) (fun r Q=>((∃ k:Nat,r=i64 k∧ss.any pred=true)∨(r=i64 (-1)∧ss.any pred=false))∧Q=q::M):=by
 obtain ⟨a,cap,rfl⟩:=hv.form
 refine Fn.mk Tryz.func144 rfl rfl fun w0 F=>?_
 (refine G.seq ?_;refine G.region ?_;refine GO.assign rfl rfl ?_;refine GO.nil ?_;refine ao ?_;refine G.seq ?_;refine G.seq ?_;refine G.region ?_;refine GO.move rfl rfl ?_;refine GO.lenS rfl rfl ?_;refine GO.move rfl rfl ?_;refine GO.nil ?_;refine ao ?_;refine G.block ?_)
 refine G.loop (fun k:Nat=>[(0,.slice a ss.length cap),(1,f),(7,i64 ss.length),(8,i64 k)]) (fun _=>q::(M++F)) (fun k=>k≤ss.length∧(ss.take k).any pred=false) (fun k=>ss.length - k) 0 ⟨by omega,rfl⟩ ?_ ?_ ?_
 ·exact SE rfl
 ·exact Sb.r
 rintro k ⟨hk,hany⟩
 (refine G.seq ?_;refine G.region ?_;refine GO.lti rfl rfl rfl ?_;refine GO.nil ?_;refine ao ?_;refine G.seq ?_)
 refine G.condD rfl (fun hlt=>?_) (fun hge=>?_)
 ·have hlt':k < ss.length:=by omega
  obtain ⟨s,hs⟩:∃ s:bi,ss[k]?=some s:=⟨ss[k],by simp [hlt']⟩
  obtain ⟨b,o,rfl,_,r1,r2⟩:=hv.at hs
  (refine G.skip ?_;refine ao ?_;refine G.seq ?_;refine G.block ?_;refine G.seq ?_;refine G.region ?_;refine GO.move rfl rfl ?_;refine GO.assign rfl rfl ?_;refine GO.nil ?_;refine ao ?_;refine G.seq ?_;refine G.region ?_;refine GO.move rfl rfl ?_;refine GO.move rfl rfl ?_;refine GO.move rfl rfl ?_;refine GO.idxS rfl rfl rfl ⟨rfl,by omega⟩ ?_)
  refine GO.load2 (q:=q) rfl rfl rfl Tk.h r1 r2 ?_
  refine GO.callV1 rfl rfl rfl (hf s (List.mem_of_getElem? hs)) (show Tks (q::M) (q::(M++F)) F from List.Perm.refl _) ?_
  rintro _ _ ⟨rfl,rfl⟩
  (refine GO.nil ?_;refine ao ?_)
  refine G.cond rfl (fun hb=>?_) (fun hb=>?_)
  ·(refine G.seq ?_;refine G.region ?_;refine GO.move rfl rfl ?_;refine GO.assign rfl rfl ?_;refine GO.nil ?_;refine ao ?_;refine G.ret ?_;refine pm ?_;refine gZ ?_;refine gZ ?_;refine pm ?_;refine gZ ?_)
   refine KF.r1 rfl (RV.t rfl) ⟨.inl ⟨k,rfl,?_⟩,rfl⟩ ?_
   ·rw [List.any_eq_true];exact ⟨s,List.mem_of_getElem? hs,hb⟩
   ·exact Sb.r
  ·(refine G.skip ?_;refine iA ?_;refine ao ?_;refine G.region ?_;refine GO.addi rfl rfl rfl (by omega) ?_;refine GO.move rfl rfl ?_;refine GO.nil ?_;refine ao ?_)
   refine ⟨k+1,⟨by omega,?_⟩,by omega,?_,?_⟩
   ·rw [List.take_add_one,hs,List.any_append,hany];simp [hb]
   ·exact SE rfl
   ·exact Sb.r
 ·have:k=ss.length:=by omega
  subst this
  rw [List.take_length] at hany
  (refine G.exit ?_;refine ga ?_;refine ga ?_;refine jN ?_;refine ao ?_;refine G.seq ?_;refine G.region ?_;refine GO.assign rfl rfl ?_;refine GO.nil ?_;refine ao ?_;refine G.ret ?_)
  refine KF.r1 rfl (RV.t rfl) ⟨.inr ⟨rfl,hany⟩,rfl⟩ ?_
  exact Sb.r
theorem iH (q:HP) (v f:Value) (ss:List bi) (pred:bi→Bool) (M:List HP) (hv:SymsR q v ss) (hf:∀ s∈ss,FnV Tryz.prog f [BR s] (q::M) (fun r Q=>r=.bool (pred s)∧Q=q::M)) (hn:ss.length≤9223372036854775807) :
  Fn Tryz.prog 84 #[v,f] (q::M) (fun r Q=>r=.bool (ss.any pred)∧Q=q::M):=by
 refine Fn.mk Tryz.func84 rfl rfl fun w0 F=>?_
 (refine G.seq ?_;refine G.region ?_;refine GO.assign rfl rfl ?_;refine GO.nil ?_;refine ao ?_;refine G.seq ?_;refine G.region ?_;refine GO.move rfl rfl ?_;refine GO.move rfl rfl ?_)
 refine GO.call2 rfl rfl rfl (qE q v f ss pred M hv hf hn) (show Tks (q::M) (q::M++F) F from List.Perm.refl _) ?_
 rintro _ _ ⟨h,rfl⟩
 rcases h with ⟨k,rfl,h⟩ | ⟨rfl,h⟩
 ·(refine GO.gei rfl rfl rfl ?_;refine GO.assign rfl rfl ?_;refine GO.nil ?_;refine ao ?_;refine G.ret ?_)
  refine KF.r1 rfl (RV.t rfl) ⟨?_,rfl⟩ Sb.r
  rw [h];simp
 ·(refine GO.gei rfl rfl rfl ?_;refine GO.assign rfl rfl ?_;refine GO.nil ?_;refine ao ?_;refine G.ret ?_)
  refine KF.r1 rfl (RV.t rfl) ⟨?_,rfl⟩ Sb.r
  rw [h];rfl
theorem nK (n m:Int) (b1:Nat) (u:Value):Fn Tryz.prog 83 #[i64 m,.pointer (some ⟨b1,0,none⟩)] [pt b1 (row [i64 n,u] 33)] (fun r Q=>r=.bool (decide (0≤m) && decide (m < n))∧Q=[pt b1 (row [i64 n,u] 33)]):=by
 refine Fn.mk Tryz.func83 rfl rfl fun w0 F=>?_
 (refine G.seq ?_;refine G.region ?_;refine GO.assign rfl rfl ?_;refine GO.nil ?_;refine ao ?_;refine G.seq ?_;refine G.region ?_;refine GO.move rfl rfl ?_;refine GO.gei rfl rfl rfl ?_;refine GO.move rfl rfl ?_)
 refine GO.splitD 6 rfl (fun h=>?_) (fun h=>?_)
 ·(refine GO.gT rfl rfl rfl ?_;refine GO.move rfl rfl ?_;refine GO.gT rfl rfl rfl ?_;refine GO.fieldAddr rfl rfl ?_;refine GO.gT rfl rfl rfl ?_;refine GO.load1 rfl rfl rfl Tk.h rfl ?_;refine GO.gT rfl rfl rfl ?_;refine GO.lti rfl rfl rfl ?_;refine GO.pickT rfl rfl rfl ?_;refine GO.assign rfl rfl ?_;refine GO.nil ?_;refine ao ?_;refine G.ret ?_)
  refine KF.r1 rfl (RV.t rfl) ⟨by simp [h],rfl⟩ ?_
  exact SB
 ·(refine GO.gF rfl rfl rfl rfl ?_;refine GO.gF rfl rfl rfl rfl ?_;refine GO.gF rfl rfl rfl rfl ?_;refine GO.gF rfl rfl rfl rfl ?_;refine GO.pickF rfl rfl rfl ?_;refine GO.assign rfl rfl ?_;refine GO.nil ?_;refine ao ?_;refine G.ret ?_)
  refine KF.r1 rfl (RV.t rfl) ⟨by simp [h],rfl⟩ ?_
  exact SB
abbrev ntM (n:Int) (u:Value) (b1 b3:Nat):List HP:=[pt b3 (row [.func (.func 83) #[] #[.pointer (some ⟨b1,0,none⟩)]] 171),pt b1 (row [i64 n,u] 33)]
theorem Bz (n:Int) (s:bi) (b1 b3:Nat) (u:Value):Fn Tryz.prog 85 #[BR s,.pointer (some ⟨b3,0,none⟩)] (ntM n u b1 b3) (fun r Q=>r=.bool (!symOK n s)∧Q=ntM n u b1 b3):=by
 obtain ⟨lb,m⟩:=s
 refine Fn.mk Tryz.func85 rfl rfl fun w0 F=>?_
 (refine G.seq ?_;refine G.region ?_)
 refine GO.box rfl rfl rfl fun b2=>?_
 (refine GO.assign rfl rfl ?_;refine GO.nil ?_;refine ao ?_;refine G.seq ?_;refine G.region ?_;refine GO.fieldAddr rfl rfl ?_;refine GO.load1 rfl rfl rfl Tk.h rfl ?_;refine GO.move rfl rfl ?_)
 cases lb with
 | true=>
  (refine GO.gT rfl rfl rfl ?_;refine GO.fieldAddr rfl rfl ?_;refine GO.gT rfl rfl rfl ?_;refine GO.load1 rfl rfl rfl Tk.h rfl ?_;refine GO.gT rfl rfl rfl ?_;refine GO.lti rfl rfl rfl ?_;refine GO.gT rfl rfl rfl ?_;refine GO.move rfl rfl ?_)
  refine GO.splitD 10 rfl (fun h=>?_) (fun h=>?_)
  ·(refine GO.gF rfl rfl rfl rfl ?_;refine GO.gF rfl rfl rfl rfl ?_;refine GO.gF rfl rfl rfl rfl ?_;refine GO.gT rfl rfl rfl ?_;refine GO.pickT rfl rfl rfl ?_;refine GO.pickT rfl rfl rfl ?_;refine GO.move rfl rfl ?_;refine GO.gF rfl rfl rfl rfl ?_;refine GO.gF rfl rfl rfl rfl ?_;refine GO.gF rfl rfl rfl rfl ?_;refine GO.gF rfl rfl rfl rfl ?_;refine GO.gU rfl rfl rfl ?_;refine GO.gU rfl rfl rfl ?_;refine GO.gU rfl rfl rfl ?_;refine GO.gU rfl rfl rfl ?_;refine GO.gU rfl rfl rfl ?_;refine GO.gF rfl rfl rfl rfl ?_;refine GO.pickT rfl rfl rfl ?_;refine GO.assign rfl rfl ?_;refine GO.nil ?_;refine ao ?_;refine G.ret ?_)
   refine KF.r1 rfl (RV.t rfl) ⟨by unfold symOK;simp [h],rfl⟩ ?_
   exact SB
  ·(refine GO.gT rfl rfl rfl ?_;refine GO.fieldAddr rfl rfl ?_;refine GO.gT rfl rfl rfl ?_;refine GO.load1 rfl rfl rfl Tk.h rfl ?_;refine GO.gT rfl rfl rfl ?_;refine GO.gei rfl rfl rfl ?_;refine GO.gT rfl rfl rfl ?_;refine GO.pickF rfl rfl rfl ?_;refine GO.pickT rfl rfl rfl ?_;refine GO.move rfl rfl ?_)
   refine GO.splitD 16 rfl (fun h2=>?_) (fun h2=>?_)
   ·(refine GO.gF rfl rfl rfl rfl ?_;refine GO.gF rfl rfl rfl rfl ?_;refine GO.gF rfl rfl rfl rfl ?_;refine GO.gF rfl rfl rfl rfl ?_;refine GO.gU rfl rfl rfl ?_;refine GO.gU rfl rfl rfl ?_;refine GO.gU rfl rfl rfl ?_;refine GO.gU rfl rfl rfl ?_;refine GO.gU rfl rfl rfl ?_;refine GO.gF rfl rfl rfl rfl ?_;refine GO.pickT rfl rfl rfl ?_;refine GO.assign rfl rfl ?_;refine GO.nil ?_;refine ao ?_;refine G.ret ?_)
    refine KF.r1 rfl (RV.t rfl) ⟨by unfold symOK;simp [h2],rfl⟩ ?_
    exact SB
   ·(refine GO.gT rfl rfl rfl ?_;refine GO.fieldAddr rfl rfl ?_;refine GO.gT rfl rfl rfl ?_;refine GO.load1 rfl rfl rfl Tk.h rfl ?_;refine GO.gT rfl rfl rfl ?_;refine GO.not rfl rfl ?_;refine GO.gT rfl rfl rfl ?_;refine GO.move rfl rfl ?_;refine GO.gF rfl rfl rfl rfl ?_;refine GO.gF rfl rfl rfl rfl ?_;refine GO.gF rfl rfl rfl rfl ?_;refine GO.gF rfl rfl rfl rfl ?_;refine GO.gF rfl rfl rfl rfl ?_;refine GO.gT rfl rfl rfl ?_;refine GO.pickF rfl rfl rfl ?_;refine GO.pickF rfl rfl rfl ?_;refine GO.assign rfl rfl ?_;refine GO.nil ?_;refine ao ?_;refine G.ret ?_)
    refine KF.r1 rfl (RV.t rfl) ⟨by unfold symOK;simp [h,h2],rfl⟩ ?_
    exact SB
 | false=>
  (refine GO.gF rfl rfl rfl rfl ?_;refine GO.gF rfl rfl rfl rfl ?_;refine GO.gF rfl rfl rfl rfl ?_;refine GO.gF rfl rfl rfl rfl ?_;refine GO.gU rfl rfl rfl ?_;refine GO.gU rfl rfl rfl ?_;refine GO.gU rfl rfl rfl ?_;refine GO.gF rfl rfl rfl rfl ?_;refine GO.pickF rfl rfl rfl ?_;refine GO.move rfl rfl ?_;refine GO.gT rfl rfl rfl ?_;refine GO.fieldAddr rfl rfl ?_;refine GO.gT rfl rfl rfl ?_;refine GO.load1 rfl rfl rfl Tk.h rfl ?_;refine GO.gT rfl rfl rfl ?_;refine GO.not rfl rfl ?_;refine GO.gT rfl rfl rfl ?_;refine GO.move rfl rfl ?_;refine GO.gT rfl rfl rfl ?_;refine GO.load1 rfl rfl rfl (Tk.t Tk.h) rfl ?_;refine GO.gT rfl rfl rfl ?_;refine GO.fieldAddr rfl rfl ?_;refine GO.gT rfl rfl rfl ?_;refine GO.load1 rfl rfl rfl Tk.h rfl ?_;refine GO.gT rfl rfl rfl ?_)
  refine (GO.callV1 rfl rfl rfl (FnV.of (caps:=[.pointer (some ⟨b1,0,none⟩)]) (nK n m b1 u)) (Tks.c (Tk.t (Tk.t Tk.h)) Tks.n) ?_)
  rintro _ _ ⟨rfl,rfl⟩
  (refine GO.gT rfl rfl rfl ?_;refine GO.not rfl rfl ?_;refine GO.gT rfl rfl rfl ?_;refine GO.pickT rfl rfl rfl ?_;refine GO.pickF rfl rfl rfl ?_;refine GO.assign rfl rfl ?_;refine GO.nil ?_;refine ao ?_;refine G.ret ?_)
  refine KF.r1 rfl (RV.t rfl) ⟨?_,rfl⟩ ?_
  ·unfold symOK
   simp
   by_cases h1:m < 0 <;> by_cases h2:n≤m <;> simp [h1,h2] <;> omega
  ·exact SB
end Pr
namespace Pr
theorem Fn.framed {P:Program} {f:FuncId} {args:Array Value} {Pre:List HP} {Rv:Value→Prop} (h:Fn P f args Pre (fun v Q=>Rv v∧Q=Pre)) (X:List HP):Fn P f args (X++Pre) (fun v Q=>Rv v∧Q=X++Pre):=by
 intro F w s
 have s1:sat (Pre++(X++F)) w:=by
  refine ai ?_ s
  rw [List.append_assoc]
  exact List.perm_append_comm_assoc X Pre F
 refine (h (X++F) w s1).mono ?_
 rintro e w' ⟨v,Q,a,b,⟨x,rfl⟩,d⟩
 refine ⟨v,X++Q,a,b,⟨x,rfl⟩,?_⟩
 refine ai ?_ d
 rw [List.append_assoc]
 exact List.perm_append_comm_assoc Q X F
attribute [local irreducible] G GO GR GT Fn FnV pt init exs pur sat own ImpS
theorem AQ {C:CnfD} {k:Nat} {p:aF} (h:C.prods[k]?=some p):(C.prods.take (k+1)).all (prodOK C.nts)=((C.prods.take k).all (prodOK C.nts) && prodOK C.nts p):=by
 rw [List.take_add_one,h,List.all_append];simp
theorem iQ (n:Int) (p:aF):prodOK n p=((decide (0≤p.1) && decide (p.1 < n)) && p.2.all (symOK n)):=by
 unfold prodOK
 by_cases h1:p.1 < 0 <;> by_cases h2:n≤p.1 <;> simp [h1,h2] <;> omega
theorem Cz (n:Int) (ss:List bi):(!ss.any fun s=>!symOK n s)=ss.all (symOK n):=by
 induction ss with
 | nil=>rfl
 | cons s ss ih=>simp only [List.any_cons,List.all_cons,← ih];cases symOK n s <;> simp
theorem check_spec (q:HP) (v:Value) (C:CnfD) (hv:CnfR q v C) (hz:Fits C):Fn Tryz.prog 35 #[v] [q] (fun r Q=>r=i64 (if okC C then 0 else 220)∧Q=[q]):=by
 obtain ⟨pv,rfl,hp⟩:=hv
 obtain ⟨a0,cap0,rfl⟩:=hp.form
 have hz1:=hz.1
 refine Fn.mk Tryz.func35 rfl rfl fun w0 F=>?_
 (refine G.seq ?_;refine G.region ?_)
 refine GO.box rfl rfl rfl fun b1=>?_
 (refine GO.assign rfl rfl ?_;refine GO.nil ?_;refine ao ?_;refine G.seq ?_;refine G.region ?_)
 refine GO.makeFunc1 rfl rfl ?_
 refine GO.alloc rfl fun b3=>?_
 refine GO.store1 rfl rfl rfl Tk.h (by decide) ?_
 (refine GO.nil ?_;refine ao ?_;refine G.seq ?_;refine G.region ?_;refine GO.fieldAddr rfl rfl ?_;refine GO.load1 rfl rfl rfl (Tk.t Tk.h) rfl ?_;refine GO.gei rfl rfl rfl ?_;refine GO.move rfl rfl ?_)
 refine GO.cut1 4 (.bool (decide (1≤C.nts) && decide (C.nts≤1024))) ?_ ?_
 ·refine GO.splitD 11 rfl (fun h=>?_) (fun h=>?_)
  ·(refine GO.gT rfl rfl rfl ?_;refine GO.fieldAddr rfl rfl ?_;refine GO.gT rfl rfl rfl ?_;refine GO.load1 rfl rfl rfl (Tk.t Tk.h) rfl ?_;refine GO.gT rfl rfl rfl ?_;refine GO.lei rfl rfl rfl ?_;refine GO.pickT rfl rfl rfl ?_;refine GO.assign rfl rfl ?_;refine GO.nil ?_;refine ao ?_)
   refine ⟨?_,ImpS.sb ?_⟩
   ·((refine SubE.c rfl ?_ ?_;focus (simp;omega));(refine SubE.c rfl ?_ ?_;focus (simp;omega));exact SE rfl)
   ·exact SB
  ·(refine GO.gF rfl rfl rfl rfl ?_;refine GO.gF rfl rfl rfl rfl ?_;refine GO.gF rfl rfl rfl rfl ?_;refine GO.pickF rfl rfl rfl ?_;refine GO.assign rfl rfl ?_;refine GO.nil ?_;refine ao ?_)
   refine ⟨?_,ImpS.sb ?_⟩
   ·((refine SubE.c rfl ?_ ?_;focus (simp;omega));(refine SubE.c rfl ?_ ?_;focus (simp;omega));exact SE rfl)
   ·exact SB
 have hb0:(decide (1≤C.nts) && decide (C.nts≤1024))=!(decide (C.nts < 1) || decide (1024 < C.nts)):=by
  by_cases h1:C.nts < 1 <;> by_cases h2:1024 < C.nts <;> simp [h1,h2] <;> omega
 rw [hb0]
 generalize hbase:(!(decide (C.nts < 1) || decide (1024 < C.nts)))=base
 (refine G.seq ?_;refine G.seq ?_;refine G.region ?_;refine GO.fieldAddr rfl rfl ?_;refine GO.load1 rfl rfl rfl (Tk.t Tk.h) rfl ?_;refine GO.lenS rfl rfl ?_;refine GO.move rfl rfl ?_;refine GO.nil ?_;refine ao ?_;refine G.block ?_)
 refine G.loop2 (fun (k:Nat) (ok:Bool)=>[(1,.pointer (some ⟨b1,0,none⟩)),(3,.pointer (some ⟨b3,0,none⟩)),(4,.bool ok),(17,.slice a0 C.prods.length cap0),(18,i64 C.prods.length),(19,i64 k)])
  (fun _ _=>q::(ntM C.nts (.slice a0 C.prods.length cap0) b1 b3++F)) (fun k ok=>k≤C.prods.length∧ok=(base && (C.prods.take k).all (prodOK C.nts))) (fun k _=>C.prods.length - k) 0 base ⟨by omega,by simp⟩ ?_ ?_ ?_
 ·exact SE rfl
 ·((refine Sb.c (Tk.t (Tk.t Tk.h)) ?_;refine Sb.c Tk.h ?_;exact SB);skip)
 rintro k ok ⟨hk,hok⟩
 (refine G.seq ?_;refine G.region ?_;refine GO.lti rfl rfl rfl ?_;refine GO.nil ?_;refine ao ?_;refine G.seq ?_)
 refine G.condD rfl (fun hlt=>?_) (fun hge=>?_)
 ·have hlt':k < C.prods.length:=by omega
  obtain ⟨p,hpk⟩:∃ p,C.prods[k]?=some p:=⟨C.prods[k],by simp [hlt']⟩
  obtain ⟨b,o,bv,rfl,_,r1,r2,hs⟩:=hp.at hpk
  obtain ⟨ab,capb,rfl⟩:=hs.form
  have hpl:=hz.2 p (List.mem_of_getElem? hpk)
  (refine G.skip ?_;refine ao ?_;refine G.seq ?_;refine G.block ?_;refine G.seq ?_;refine G.region ?_;refine GO.idxS rfl rfl rfl ⟨rfl,by omega⟩ ?_)
  refine GO.load2 (q:=q) rfl rfl rfl (by (exact Tk.h)) r1 r2 ?_
  refine GO.alloc rfl fun b6=>?_
  refine GO.storeW rfl rfl Tk.h ⟨rfl,rfl⟩ (by simp [Value.oneCell']) ?_
  (refine GO.nil ?_;refine ao ?_;refine G.region ?_;refine GO.move rfl rfl ?_;refine GO.move rfl rfl ?_)
  refine GO.cutN 4 (.bool (ok && prodOK C.nts p)) ?_ (fun L' H' h1 h2=>G.subI h1 h2 ?_)
  ·cases ok with
   | false=>
    (refine GO.gF rfl rfl rfl rfl ?_;refine GO.gF rfl rfl rfl rfl ?_;refine GO.gF rfl rfl rfl rfl ?_;refine GO.gF rfl rfl rfl rfl ?_;refine GO.pickF rfl rfl rfl ?_;refine GO.move rfl rfl ?_;refine GO.gF rfl rfl rfl rfl ?_;refine GO.gF rfl rfl rfl rfl ?_;refine GO.gF rfl rfl rfl rfl ?_;refine GO.gF rfl rfl rfl rfl ?_;refine GO.gF rfl rfl rfl rfl ?_;refine GO.pickF rfl rfl rfl ?_;refine GO.assign rfl rfl ?_;refine GO.nil ?_;refine ao ?_)
    refine ⟨?_,ImpS.sb ?_⟩
    ·exact SE rfl
    ·exact SB
   | true=>
    (refine GO.gT rfl rfl rfl ?_;refine GO.load1 rfl rfl rfl (Tk.t (Tk.t Tk.h)) rfl ?_;refine GO.gT rfl rfl rfl ?_;refine GO.fieldAddr rfl rfl ?_;refine GO.gT rfl rfl rfl ?_;refine GO.load1 rfl rfl rfl Tk.h rfl ?_;refine GO.gT rfl rfl rfl ?_)
    refine GO.callV1 rfl rfl rfl (FnV.of (caps:=[.pointer (some ⟨b1,0,none⟩)]) (nK C.nts p.1 b1 _)) (Tks.c (Tk.t (Tk.t (Tk.t Tk.h))) Tks.n) ?_
    rintro _ _ ⟨rfl,rfl⟩
    (refine GO.pickT rfl rfl rfl ?_;refine GO.move rfl rfl ?_)
    refine GO.split 30 rfl (fun h=>?_) (fun h=>?_)
    ·(refine GO.gT rfl rfl rfl ?_;refine GO.fieldAddr rfl rfl ?_;refine GO.gT rfl rfl rfl ?_;refine GO.load1 rfl rfl rfl (Tk.t Tk.h) rfl ?_;refine GO.gT rfl rfl rfl ?_)
     refine GO.makeFunc1 rfl rfl ?_
     refine GO.gT rfl rfl rfl ?_
     refine GO.call2 rfl rfl rfl (iH q _ _ p.2 (fun s=>!symOK C.nts s) (ntM C.nts (.slice (some ⟨b,o,none⟩) C.prods.length cap0) b1 b3) hs (fun s _=>FnV.of (caps:=[.pointer (some ⟨b3,0,none⟩)]) (Fn.framed (Rv:=fun r=>r=.bool (!symOK C.nts s)) (Bz C.nts s b1 b3 _) [q])) (by omega)) (Tks.c (Tk.t (Tk.t Tk.h)) (Tks.c (Tk.t (Tk.t Tk.h)) (Tks.c Tk.h Tks.n))) ?_
     rintro _ _ ⟨rfl,rfl⟩
     have hpt:prodOK C.nts p=!(p.2.any fun s=>!symOK C.nts s):=by rw [iQ,h,Cz];rfl
     rw [hpt]
     (refine GO.gT rfl rfl rfl ?_;refine GO.not rfl rfl ?_;refine GO.pickT rfl rfl rfl ?_;refine GO.assign rfl rfl ?_;refine GO.nil ?_;refine ao ?_)
     refine ⟨?_,ImpS.sb ?_⟩
     ·exact SE rfl
     ·exact SB
    ·have hpf:prodOK C.nts p=false:=by rw [iQ,h];rfl
     rw [hpf]
     (refine GO.gF rfl rfl rfl rfl ?_;refine GO.gF rfl rfl rfl rfl ?_;refine GO.gF rfl rfl rfl rfl ?_;refine GO.gF rfl rfl rfl rfl ?_;refine GO.gF rfl rfl rfl rfl ?_;refine GO.pickF rfl rfl rfl ?_;refine GO.assign rfl rfl ?_;refine GO.nil ?_;refine ao ?_)
     refine ⟨?_,ImpS.sb ?_⟩
     ·exact SE rfl
     ·exact SB
  (refine G.region ?_;refine GO.addi rfl rfl rfl (by omega) ?_;refine GO.move rfl rfl ?_;refine GO.nil ?_;refine ao ?_)
  refine ⟨k+1,ok && prodOK C.nts p,⟨by omega,by rw [hok,AQ hpk,Bool.and_assoc]⟩,by omega,?_,?_⟩
  ·exact SE rfl
  ·exact SB
 ·have:k=C.prods.length:=by omega
  subst this
  rw [List.take_length,← hbase] at hok
  have hok':ok=okC C:=hok
  (refine G.exit ?_;refine ga ?_;refine ga ?_;refine jN ?_;refine ao ?_;refine G.seq ?_;refine G.seq ?_;refine G.region ?_;refine GO.move rfl rfl ?_;refine GO.not rfl rfl ?_;refine GO.nil ?_;refine ao ?_)
  refine G.cond rfl (fun hb=>?_) (fun hb=>?_)
  ·have hf:okC C=false:=by rw [← hok'];simpa using hb
   (refine G.seq ?_;refine G.region ?_;refine GO.assign rfl rfl ?_;refine GO.nil ?_;refine ao ?_;refine G.ret ?_;refine gZ ?_)
   refine KF.r1 rfl (RV.t rfl) ⟨by rw [hf];rfl,rfl⟩ ?_
   exact SB
  ·have hf:okC C=true:=by rw [← hok'];simpa using hb
   (refine G.skip ?_;refine ao ?_;refine G.seq ?_;refine G.region ?_;refine GO.assign rfl rfl ?_;refine GO.nil ?_;refine ao ?_;refine G.ret ?_)
   refine KF.r1 rfl (RV.t rfl) ⟨by rw [hf];rfl,rfl⟩ ?_
   exact SB
end Pr
namespace Pr
def formB:List bi→Int
 | []=>1
 | [s]=>if s.1 then 2 else 0
 | [s,t]=>if s.1 then 0 else if t.1 then 0 else 3
 | _=>0
def weakB (ss:List bi):Bool:=!decide (formB ss=0)
def weakC (C:CnfD):Bool:=okC C && C.prods.all fun p=>weakB p.2
def askE (C:CnfD) (nt:Int) (n:Nat):Int:=if okC C then if weakC C then if nt < 0 then 2 else if C.nts≤nt then 2 else if 64 < n then 3 else 0 else 250 else 220
theorem weakB_len {ss:List bi} (h:weakB ss=true):ss.length≤2:=by
 match ss,h with
 | [],_=>simp
 | [s],_=>simp
 | [s,t],_=>simp
 | s::t::u::more,h=>cases h
theorem zV {C:CnfD} {nt:Int} {n:Nat} (h:askE C nt n=0):okC C=true∧weakC C=true∧0≤nt∧nt < C.nts∧¬ 64 < n:=by
 unfold askE at h
 split at h
 ·split at h
  ·split at h
   ·cases h
   ·split at h
    ·cases h
    ·split at h
     ·cases h
     ·exact ⟨by assumption,by assumption,by omega,by omega,by assumption⟩
  ·cases h
 ·cases h
attribute [local irreducible] G GO GR GT Fn FnV pt init exs pur sat own ImpS fJ fi cP ij wordV symsV
theorem of_spec (q:HP) (v:Value) (ss:List bi) (hv:SymsR q v ss) (hn:¬ 140737488355328 < ss.length):Fn Tryz.prog 106 #[v] [q] (fun r Q=>r=i64 (formB ss)∧Q=[q]):=by
 obtain ⟨a,cap,rfl⟩:=hv.form
 refine Fn.mk2 Tryz.func106 rfl rfl fun w0 F=>?_
 match ss,hv,hn with
 | [],hv,hn=>
  apply Ru
  exact kr1 rfl ⟨rfl,rfl⟩
 | [s],hv,hn=>
  obtain ⟨b,o,rfl,_,r1,_⟩:=hv.at (k:=0) (s:=s) rfl
  obtain ⟨s1,s2⟩:=s
  (apply Ru;refine G.condF rfl rfl ?_;apply Ru;refine GO.idxS (j:=0) rfl rfl rfl ⟨rfl,by simp⟩ ?_;apply Ru;refine sld (by assumption) ?_;apply Ru)
  cases s1 with
  | true=>
   apply Ru
   exact kr1 rfl ⟨rfl,rfl⟩
  | false=>
   apply Ru
   exact kr1 rfl ⟨rfl,rfl⟩
 | [s,t],hv,hn=>
  obtain ⟨b,o,rfl,_,r1,_⟩:=hv.at (k:=0) (s:=s) rfl
  obtain ⟨b',o',e,_,r2,_⟩:=hv.at (k:=1) (s:=t) rfl
  injection e with e
  injection e with e1 e2
  subst e1 e2
  obtain ⟨s1,s2⟩:=s
  obtain ⟨t1,t2⟩:=t
  (apply Ru;refine G.condF rfl rfl ?_;apply Ru;refine G.condF rfl rfl ?_;apply Ru;refine GO.idxS (j:=0) rfl rfl rfl ⟨rfl,by simp⟩ ?_;apply Ru;refine sld (by assumption) ?_;apply Ru)
  cases s1 with
  | true=>
   (refine GO.gF rfl rfl rfl rfl ?_;refine GO.gF rfl rfl rfl rfl ?_;refine GO.gF rfl rfl rfl rfl ?_;refine GO.gF rfl rfl rfl rfl ?_;refine GO.gF rfl rfl rfl rfl ?_;refine GO.pickF rfl rfl rfl ?_;apply Ru)
   exact kr1 rfl ⟨rfl,rfl⟩
  | false=>
   (refine GO.gT rfl rfl rfl ?_;apply Ru;refine GO.gT rfl rfl rfl ?_;refine GO.idxS (j:=1) rfl rfl rfl ⟨rfl,by simp⟩ ?_;refine GO.gT rfl rfl rfl ?_;apply Ru;refine GO.gT rfl rfl rfl ?_;refine sld (by assumption) ?_;refine GO.gT rfl rfl rfl ?_;apply Ru;refine GO.pickT rfl rfl rfl ?_;apply Ru)
   cases t1 with
   | true=>
    (refine G.condF rfl rfl ?_;apply Ru)
    exact kr1 rfl ⟨rfl,rfl⟩
   | false=>
    (refine G.condT rfl rfl ?_;apply Ru)
    exact kr1 rfl ⟨rfl,rfl⟩
 | s::t::u::more,hv,hn=>
  have d0:decide (((s::t::u::more).length:Int)=0)=false:=decide_eq_false (by simp;omega)
  have d1:decide (((s::t::u::more).length:Int)=1)=false:=decide_eq_false (by simp;omega)
  have d2:decide (((s::t::u::more).length:Int)=2)=false:=decide_eq_false (by simp;omega)
  (apply Ru;refine G.condF rfl rfl ?_;apply Ru;refine G.condF rfl rfl ?_;apply Ru;refine G.condF rfl rfl ?_;apply Ru)
  exact kr1 rfl ⟨rfl,rfl⟩
theorem Be (q:HP) (A:Int) (bv:Value) (ss:List bi) (hv:SymsR q bv ss) (hn:¬ 140737488355328 < ss.length):Fn Tryz.prog 202 #[.agg #[i64 A,bv]] [q] (fun r Q=>r=.bool (!weakB ss)∧Q=[q]):=by
 have ho:=of_spec q bv ss hv hn
 obtain ⟨a,cap,rfl⟩:=hv.form
 refine Fn.mk2 Tryz.func202 rfl rfl fun w0 F=>?_
 (apply Ru;refine sbx fun b1=>?_;apply Ru)
 refine scl (ho) ?_
 rintro _ _ ⟨rfl,rfl⟩
 apply Ru
 refine KF2.r1 rfl (RV.t rfl) ⟨?_,rfl⟩ (ImpS.sb ?_)
 ·unfold weakB;rw [Bool.not_not]
 ·exact SB
theorem pn (q:HP) (v f:Value) (ps:List aF) (pred:aF→Bool) (hv:PrsR q v ps) (hf:∀ p∈ps,∀ bv,SymsR q bv p.2→FnV Tryz.prog f [.agg #[i64 p.1,bv]] [q] (fun r Q=>r=.bool (pred p)∧Q=[q])) (hn:¬ 140737488355328 < ps.length) :
  Fn Tryz.prog 227 #[v,f] [q] (fun r Q=>((∃ k:Nat,r=i64 k∧ps.any pred=true)∨(r=i64 (-1)∧ps.any pred=false))∧Q=[q]):=by
 obtain ⟨a,cap,rfl⟩:=hv.form
 refine Fn.mk2 Tryz.func227 rfl rfl fun w0 F=>?_
 apply Ru
 refine G.loop (fun k:Nat=>[(0,.slice a ps.length cap),(1,f),(7,i64 ps.length),(8,i64 k)]) (fun _=>q::F) (fun k=>k≤ps.length∧(ps.take k).any pred=false) (fun k=>ps.length - k) 0 ⟨by omega,rfl⟩ ?_ ?_ ?_
 ·exact SE rfl
 ·exact SB
 rintro k ⟨hk,hany⟩
 apply Ru
 refine G.condD rfl (fun hlt=>?_) (fun hge=>?_)
 ·have hlt':k < ps.length:=by omega
  obtain ⟨p,hs⟩:∃ p:aF,ps[k]?=some p:=⟨ps[k],by simp [hlt']⟩
  obtain ⟨b,o,bv,rfl,_,r1,r2,hss⟩:=hv.at hs
  (apply Ru;refine six ?_;refine sl2 (by assumption) (by assumption) ?_)
  refine GO.callV1 rfl rfl rfl (hf p (List.mem_of_getElem? hs) bv hss) (show Tks [q] (q::F) F from List.Perm.refl _) ?_
  rintro _ _ ⟨rfl,rfl⟩
  apply Ru
  refine G.cond rfl (fun hb=>?_) (fun hb=>?_)
  ·apply Ru
   refine KF2.r1 rfl (RV.t rfl) ⟨.inl ⟨k,rfl,?_⟩,rfl⟩ (ImpS.sb ?_)
   ·rw [List.any_eq_true];exact ⟨p,List.mem_of_getElem? hs,hb⟩
   ·exact SB
  ·(apply Ru;refine sad ?_)
   refine ⟨k+1,⟨by omega,?_⟩,by omega,?_,?_⟩
   ·rw [List.take_add_one,hs,List.any_append,hany];simp [hb]
   ·exact SE rfl
   ·exact SB
 ·have:k=ps.length:=by omega
  subst this
  rw [List.take_length] at hany
  apply Ru
  exact kr1 rfl ⟨.inr ⟨rfl,hany⟩,rfl⟩
theorem m6 (q:HP) (v f:Value) (ps:List aF) (pred:aF→Bool) (hv:PrsR q v ps) (hf:∀ p∈ps,∀ bv,SymsR q bv p.2→FnV Tryz.prog f [.agg #[i64 p.1,bv]] [q] (fun r Q=>r=.bool (pred p)∧Q=[q])) (hn:¬ 140737488355328 < ps.length) :
  Fn Tryz.prog 201 #[v,f] [q] (fun r Q=>r=.bool (ps.any pred)∧Q=[q]):=by
 refine Fn.mk2 Tryz.func201 rfl rfl fun w0 F=>?_
 apply Ru
 refine scl (pn q v f ps pred hv hf hn) ?_
 rintro _ _ ⟨h,rfl⟩
 rcases h with ⟨k,rfl,h⟩ | ⟨rfl,h⟩
 ·apply Ru
  refine KF2.r1 rfl (RV.t rfl) ⟨?_,rfl⟩ (ImpS.sb ?_)
  ·rw [h];simp
  ·exact SB
 ·apply Ru
  refine KF2.r1 rfl (RV.t rfl) ⟨?_,rfl⟩ (ImpS.sb ?_)
  ·rw [h];rfl
  ·exact SB
theorem Cj (q:HP) (v:Value) (C:CnfD) (hv:CnfR q v C) (hz:Fits C):Fn Tryz.prog 157 #[v] [q] (fun r Q=>r=.bool (weakC C)∧Q=[q]):=by
 have hc:=check_spec q v C hv hz
 have hcon:=fun (pv:Value) (hp:PrsR q pv C.prods)=>m6 q pv (.func (.func 202) #[] #[]) C.prods (fun p=>!weakB p.2) hp (fun p hpm bv hs=>FnV.of (caps:=[]) (Be q p.1 bv p.2 hs (by have:=hz.2 p hpm;omega))) (by have:=hz.1;omega)
 obtain ⟨pv,rfl,hp⟩:=hv
 obtain ⟨ap,cp,rfl⟩:=hp.form
 have hcon:=hcon _ hp
 have hany:(!C.prods.any fun p=>!weakB p.2)=C.prods.all fun p=>weakB p.2:=by
  generalize C.prods=l
  induction l with
  | nil=>rfl
  | cons p l ih=>simp only [List.any_cons,List.all_cons,← ih];cases weakB p.2 <;> simp
 unfold weakC
 cases hok:okC C with
 | false=>
  rw [hok] at hc
  refine Fn.mk2 Tryz.func157 rfl rfl fun w0 F=>?_
  (apply Ru;refine sbx fun b1=>?_;apply Ru;refine GO.loadW rfl rfl rfl Tk.h rfl ?_)
  refine scl (hc) ?_
  rintro _ _ ⟨rfl,rfl⟩
  rw [if_neg (by simp)]
  (apply Ru;refine GO.gF rfl rfl rfl rfl ?_;refine GO.gF rfl rfl rfl rfl ?_;refine GO.gF rfl rfl rfl rfl ?_;refine GO.gF rfl rfl rfl rfl ?_;refine GO.pickF rfl rfl rfl ?_;apply Ru)
  exact kr1 rfl ⟨rfl,rfl⟩
 | true=>
  rw [hok] at hc
  refine Fn.mk2 Tryz.func157 rfl rfl fun w0 F=>?_
  (apply Ru;refine sbx fun b1=>?_;apply Ru;refine GO.loadW rfl rfl rfl Tk.h rfl ?_)
  refine scl (hc) ?_
  rintro _ _ ⟨rfl,rfl⟩
  rw [if_pos rfl]
  apply Ru
  refine scl (hcon) ?_
  rintro _ _ ⟨rfl,rfl⟩
  apply Ru
  refine KF2.r1 rfl (RV.t rfl) ⟨?_,rfl⟩ (ImpS.sb ?_)
  ·rw [hany];rfl
  ·exact SB
theorem xl (q:HP) (v:Value) (C:CnfD) (hv:CnfR q v C) (hz:Fits C) (nt:Int) (w:List Int) (wv:Value) (hw:WordR q wv w):Fn Tryz.prog 112 #[v,i64 nt,wv] [q] (fun r Q=>r=i64 (askE C nt w.length)∧Q=[q]):=by
 have hc:=check_spec q v C hv hz
 have hi:=Cj q v C hv hz
 obtain ⟨pv,rfl,hp⟩:=hv
 obtain ⟨ap,cp,rfl⟩:=hp.form
 obtain ⟨aw,cw,rfl⟩:=hw.form
 unfold askE
 cases hok:okC C with
 | false=>
  rw [hok] at hc
  refine Fn.mk2 Tryz.func112 rfl rfl fun w0 F=>?_
  (apply Ru;refine sbx fun b3=>?_;apply Ru;refine GO.loadW rfl rfl rfl Tk.h rfl ?_)
  refine scl (hc) ?_
  rintro _ _ ⟨rfl,rfl⟩
  rw [if_neg (by simp)]
  (apply Ru;refine G.condT rfl rfl ?_;apply Ru)
  exact kr1 rfl ⟨rfl,rfl⟩
 | true=>
  rw [hok] at hc
  cases hwk:weakC C with
  | false=>
   rw [hwk] at hi
   refine Fn.mk2 Tryz.func112 rfl rfl fun w0 F=>?_
   (apply Ru;refine sbx fun b3=>?_;apply Ru;refine GO.loadW rfl rfl rfl Tk.h rfl ?_)
   refine scl (hc) ?_
   rintro _ _ ⟨rfl,rfl⟩
   rw [if_pos rfl]
   (apply Ru;refine G.condF rfl rfl ?_;apply Ru;refine GO.loadW rfl rfl rfl (Tk.t Tk.h) rfl ?_)
   refine scl (hi) ?_
   rintro _ _ ⟨rfl,rfl⟩
   (apply Ru;refine G.condT rfl rfl ?_;apply Ru)
   exact kr1 rfl ⟨rfl,rfl⟩
  | true=>
   rw [hwk] at hi
   rw [if_pos rfl,if_pos rfl]
   refine Fn.mk2 Tryz.func112 rfl rfl fun w0 F=>?_
   (apply Ru;refine sbx fun b3=>?_;apply Ru;refine GO.loadW rfl rfl rfl Tk.h rfl ?_)
   refine scl (hc) ?_
   rintro _ _ ⟨rfl,rfl⟩
   rw [if_pos rfl]
   (apply Ru;refine GO.loadW rfl rfl rfl (Tk.t Tk.h) rfl ?_)
   refine scl (hi) ?_
   rintro _ _ ⟨rfl,rfl⟩
   by_cases h1:nt < 0
   ·have d1:decide (nt < 0)=true:=decide_eq_true h1
    rw [if_pos h1]
    (apply Ru;refine G.condF rfl rfl ?_;apply Ru;refine sgF ?_;refine sgF ?_;refine sgF ?_;refine sgF ?_;refine spT ?_)
    exact kr1 rfl ⟨rfl,rfl⟩
   ·have d1:decide (nt < 0)=false:=decide_eq_false h1
    rw [if_neg h1]
    by_cases h2:C.nts≤nt
    ·have d2:decide (C.nts≤nt)=true:=decide_eq_true h2
     rw [if_pos h2]
     (apply Ru;refine G.condF rfl rfl ?_;apply Ru;refine sgT ?_;refine sgT ?_;refine sgT ?_;refine sgT ?_;refine spF ?_;refine scT ?_)
     exact kr1 rfl ⟨rfl,rfl⟩
    ·have d2:decide (C.nts≤nt)=false:=decide_eq_false h2
     rw [if_neg h2]
     by_cases h3:64 < w.length
     ·have d3:decide ((64:Int) < (w.length:Int))=true:=decide_eq_true (by omega)
      rw [if_pos h3]
      (apply Ru;refine G.condF rfl rfl ?_;apply Ru;refine sgT ?_;refine sgT ?_;refine sgT ?_;refine sgT ?_;refine spF ?_;refine scF ?_;refine scT ?_)
      exact kr1 rfl ⟨rfl,rfl⟩
     ·have d3:decide ((64:Int) < (w.length:Int))=false:=decide_eq_false (by omega)
      rw [if_neg h3]
      (apply Ru;refine G.condF rfl rfl ?_;apply Ru;refine sgT ?_;refine sgT ?_;refine sgT ?_;refine sgT ?_;refine spF ?_;refine scF ?_;refine scF ?_)
      exact kr1 rfl ⟨rfl,rfl⟩
end Pr
namespace Pr
def nulS (E:Int→Bool) (s:bi):Bool:=!s.1 && E s.2
def subs (E:Int→Bool):List bi→List (List bi)
 | []=>[[]]
 | s::r=>(if nulS E s then subs E r else [])++(subs E r).map (s::·)
def cntE (E:Int→Bool):List bi→Nat
 | []=>0
 | s::r=>(if nulS E s then 1 else 0)+cntE E r
def bj (E:Int→Bool):Nat→List bi→List bi
 | _,[]=>[]
 | m,s::r=>if nulS E s then (if m % 2=1 then bj E (m / 2) r else s::bj E (m / 2) r) else s::bj E m r
theorem lK (E:Int→Bool):∀ (r:List bi) (m:Nat),bj E m r∈subs E r
 | [],m=>by simp [bj,subs]
 | s::r,m=>by
  unfold bj subs
  by_cases h:nulS E s=true
  ·rw [if_pos h,if_pos h]
   split
   ·exact List.mem_append_left _ (lK E r _)
   ·exact List.mem_append_right _ (List.mem_map_of_mem (lK E r _))
  ·rw [if_neg h,if_neg h]
   exact List.mem_append_right _ (List.mem_map_of_mem (lK E r _))
theorem jI (E:Int→Bool):∀ (r:List bi) (x:List bi),x∈subs E r→∃ m,m < 2 ^ cntE E r∧x=bj E m r
 | [],x,h=>⟨0,by simp [cntE],by simpa [bj,subs] using h⟩
 | s::r,x,h=>by
  unfold subs at h
  unfold cntE
  rcases List.mem_append.1 h with h | h
  ·by_cases hs:nulS E s=true
   ·rw [if_pos hs] at h
    obtain ⟨m,h1,rfl⟩:=jI E r x h
    refine ⟨2 * m+1,?_,?_⟩
    ·rw [if_pos hs,Nat.pow_add];omega
    ·conv=>rhs;unfold bj
     rw [if_pos hs,if_pos (by omega),show (2 * m+1) / 2=m by omega]
   ·rw [if_neg hs] at h;cases h
  ·obtain ⟨y,hy,rfl⟩:=List.mem_map.1 h
   obtain ⟨m,h1,rfl⟩:=jI E r y hy
   by_cases hs:nulS E s=true
   ·refine ⟨2 * m,?_,?_⟩
    ·rw [if_pos hs,Nat.pow_add];omega
    ·conv=>rhs;unfold bj
     rw [if_pos hs,if_neg (by omega),show (2 * m) / 2=m by omega]
   ·refine ⟨m,?_,?_⟩
    ·rw [if_neg hs,Nat.zero_add];exact h1
    ·conv=>rhs;unfold bj
     rw [if_neg hs]
theorem rI (E:Int→Bool) (s:bi):∀ (l:List bi) (m:Nat),bj E m (l++[s])=bj E m l++(if nulS E s then (if (m / 2 ^ cntE E l) % 2=1 then [] else [s]) else [s])
 | [],m=>by
  simp only [List.nil_append,bj,cntE,Nat.pow_zero,Nat.div_one]
 | t::l,m=>by
  have ih:=fun m=>rI E s l m
  rw [List.cons_append]
  unfold bj cntE
  by_cases ht:nulS E t=true
  ·rw [if_pos ht,if_pos ht,if_pos ht,ih,Nat.pow_add,Nat.pow_one,Nat.div_div_eq_div_mul]
   split <;> simp
  ·rw [if_neg ht,if_neg ht,if_neg ht,ih,Nat.zero_add];simp
theorem jJ (E:Int→Bool):∀ (r:List bi) (m:Nat),(bj E m r).length≤r.length
 | [],_=>by simp [bj]
 | s::r,m=>by
  unfold bj
  have h1:=jJ E r (m / 2)
  have h2:=jJ E r m
  split
  ·split <;> simp <;> omega
  ·simp;omega
theorem lJ (E:Int→Bool):∀ (r:List bi) (m:Nat) (s:bi),s∈bj E m r→s∈r
 | [],_,_,h=>by simp [bj] at h
 | t::r,m,s,h=>by
  unfold bj at h
  split at h
  ·split at h
   ·exact List.mem_cons_of_mem _ (lJ E r _ s h)
   ·rcases List.mem_cons.1 h with h | h
    ·rw [h];exact List.mem_cons_self ..
    ·exact List.mem_cons_of_mem _ (lJ E r _ s h)
  ·rcases List.mem_cons.1 h with h | h
   ·rw [h];exact List.mem_cons_self ..
   ·exact List.mem_cons_of_mem _ (lJ E r _ s h)
def kM (x y:bi):Bool:=if x.1=y.1 then decide (x.2 < y.2) else y.1
def ek:List bi→List bi→Bool
 | s::a,t::b=>if s=t then ek a b else kM s t
 | _,_=>false
def ew (p q:aF):Bool:=if p.1=q.1 then (if p.2.length=q.2.length then ek p.2 q.2 else decide (p.2.length < q.2.length)) else decide (p.1 < q.1)
theorem qR {s t:bi} (h:s≠t):kM s t=!kM t s:=by
 obtain ⟨a,m⟩:=s
 obtain ⟨b,n⟩:=t
 unfold kM
 dsimp only
 by_cases e:a=b
 ·subst e
  rw [if_pos rfl,if_pos rfl]
  have:m≠n:=fun e=>h (by rw [e])
  by_cases h1:m < n
  ·rw [decide_eq_true h1,decide_eq_false (by omega)];rfl
  ·rw [decide_eq_false h1,decide_eq_true (by omega)];rfl
 ·rw [if_neg e,if_neg (Ne.symm e)]
  cases a <;> cases b <;> simp_all
theorem tT {s t u:bi} (h:kM s t=true) (k:kM t u=true):kM s u=true:=by
 obtain ⟨a,m⟩:=s
 obtain ⟨b,n⟩:=t
 obtain ⟨c,o⟩:=u
 unfold kM at *
 dsimp only at *
 cases a <;> cases b <;> cases c <;> simp_all <;> omega
theorem pR:∀ a:List bi,ek a a=false
 | []=>rfl
 | s::a=>by unfold ek;rw [if_pos rfl];exact pR a
theorem pQ:∀ {a b:List bi},a.length=b.length→a≠b→ek a b=!ek b a
 | [],[],_,h=>absurd rfl h
 | [],_::_,h,_=>by simp at h
 | _::_,[],h,_=>by simp at h
 | s::a,t::b,hl,h=>by
  unfold ek
  by_cases e:s=t
  ·subst e
   rw [if_pos rfl,if_pos rfl]
   exact pQ (by simpa using hl) (fun e=>h (by rw [e]))
  ·rw [if_neg e,if_neg (Ne.symm e)];exact qR e
theorem m8:∀ {a b c:List bi},ek a b=true→ek b c=true→ek a c=true
 | [],_,_,h,_=>by unfold ek at h;cases h
 | _::_,[],_,h,_=>by unfold ek at h;cases h
 | _::_,_::_,[],_,h=>by unfold ek at h;cases h
 | s::a,t::b,u::c,h,k=>by
  unfold ek at *
  by_cases e1:s=t
  ·subst e1
   rw [if_pos rfl] at h
   by_cases e2:s=u
   ·subst e2
    rw [if_pos rfl] at k ⊢
    exact m8 h k
   ·rw [if_neg e2] at k ⊢;exact k
  ·rw [if_neg e1] at h
   by_cases e2:t=u
   ·subst e2
    rw [if_neg e1];exact h
   ·rw [if_neg e2] at k
    by_cases e3:s=u
    ·subst e3
     have:=qR e1
     rw [h,k] at this;cases this
    ·rw [if_neg e3];exact tT h k
theorem prodLt_irr (p:aF):ew p p=false:=by unfold ew;rw [if_pos rfl,if_pos rfl];exact pR _
theorem iR {p q:aF} (h:p≠q):ew p q=!ew q p:=by
 obtain ⟨a,x⟩:=p
 obtain ⟨b,y⟩:=q
 unfold ew
 dsimp only
 by_cases e:a=b
 ·subst e
  rw [if_pos rfl,if_pos rfl]
  by_cases e2:x.length=y.length
  ·rw [if_pos e2,if_pos e2.symm]
   exact pQ e2 (fun e=>h (by rw [e]))
  ·rw [if_neg e2,if_neg (Ne.symm e2)]
   by_cases h1:x.length < y.length
   ·rw [decide_eq_true h1,decide_eq_false (by omega)];rfl
   ·rw [decide_eq_false h1,decide_eq_true (by omega)];rfl
 ·rw [if_neg e,if_neg (Ne.symm e)]
  by_cases h1:a < b
  ·rw [decide_eq_true h1,decide_eq_false (by omega)];rfl
  ·rw [decide_eq_false h1,decide_eq_true (by omega)];rfl
theorem iS {p q r:aF} (h:ew p q=true) (k:ew q r=true):ew p r=true:=by
 obtain ⟨a,x⟩:=p
 obtain ⟨b,y⟩:=q
 obtain ⟨c,z⟩:=r
 unfold ew at *
 dsimp only at *
 by_cases e1:a=b
 ·subst e1
  rw [if_pos rfl] at h
  by_cases e2:a=c
  ·subst e2
   rw [if_pos rfl] at k ⊢
   by_cases l1:x.length=y.length
   ·rw [if_pos l1] at h
    by_cases l2:y.length=z.length
    ·rw [if_pos l2] at k
     rw [if_pos (l1.trans l2)];exact m8 h k
    ·rw [if_neg l2] at k
     rw [if_neg (by omega)]
     have:=of_decide_eq_true k
     exact decide_eq_true (by omega)
   ·rw [if_neg l1] at h
    have h:=of_decide_eq_true h
    by_cases l2:y.length=z.length
    ·rw [if_neg (by omega)];exact decide_eq_true (by omega)
    ·rw [if_neg l2] at k
     have:=of_decide_eq_true k
     rw [if_neg (by omega)];exact decide_eq_true (by omega)
  ·rw [if_neg e2] at k ⊢;exact k
 ·rw [if_neg e1] at h
  have h:=of_decide_eq_true h
  by_cases e2:b=c
  ·subst e2
   rw [if_neg e1];exact decide_eq_true h
  ·rw [if_neg e2] at k
   have:=of_decide_eq_true k
   rw [if_neg (by omega)];exact decide_eq_true (by omega)
def Ups (l:List aF):Prop:=l.Pairwise fun p q=>ew p q=true
def WithP (E:Int→Bool) (ps:List aF) (p:aF):Prop:=∃ b,(p.1,b)∈ps∧p.2∈subs E b∧p.2≠[]
end Pr
namespace Pr
attribute [local irreducible] G GO GR GT Fn FnV pt init exs pur sat own ImpS
theorem BQ {Y F:List HP} {x y:HP}:Tks Y (x::y::(Y++F)) (x::y::F):=by
 have h1:(x::y::(Y++F)).Perm (x::(Y++(y::F))):=List.Perm.cons _ List.perm_middle.symm
 exact h1.trans List.perm_middle.symm
theorem Sb.mid2 {Y F:List HP} {x y:HP}:Sb (y::(Y++F)) (Y++(x::y::F)):=⟨[x],by
 have h1:(Y++(x::y::F)).Perm (x::(Y++(y::F))):=List.perm_middle
 have h2:(x::(Y++(y::F))).Perm (x::y::(Y++F)):=List.Perm.cons _ List.perm_middle
 exact (h1.trans h2).trans (List.perm_append_singleton x (y::(Y++F))).symm⟩
def CF (p:aF) (bv:Value):Value:=.agg [i64 p.1,bv].toArray
inductive Reach {σ:Type} (step:σ→aF→σ × Bool) (ps:List aF):σ→σ→Prop
 | refl (s:σ):Reach step ps s s
 | more {s t:σ} {p:aF}:Reach step ps s t→p∈ps→Reach step ps s (step t p).1
theorem Reach.inv {σ:Type} {step:σ→aF→σ × Bool} {ps:List aF} {J:σ→Prop} (h:∀ s p,J s→p∈ps→J (step s p).1) {s t:σ} (r:Reach step ps s t) (hs:J s):J t:=by
 induction r with
 | refl=>exact hs
 | more _ hp ih=>exact h _ _ ih hp
theorem zA {σ:Type} (q:HP) (v f:Value) (C:CnfD) (hv:CnfR q v C) (hz:Fits C) (M:σ→List HP) (I:σ→Prop) (step:σ→aF→σ × Bool) (μ:σ→Nat)
  (hf:∀ s p,I s→p∈C.prods→∀ bv,SymsR q bv p.2→FnV Tryz.prog f [CF p bv] (q::M s) (fun r Q=>r=.bool (step s p).2∧Q=q::M (step s p).1))
  (hI:∀ s p,I s→p∈C.prods→I (step s p).1) (hdn:∀ s p,I s→p∈C.prods→(step s p).2=true→μ (step s p).1 < μ s) (hst:∀ s p,(step s p).2=false→(step s p).1=s) (s0:σ) (h0:I s0) :
  Fn Tryz.prog 153 #[v,f] (q::M s0) (fun _ Q=>∃ s',I s'∧Reach step C.prods s0 s'∧(∀ p∈C.prods,(step s' p).2=false)∧Q=q::M s'):=by
 obtain ⟨pv,rfl,hp⟩:=hv
 obtain ⟨a0,cap0,rfl⟩:=hp.form
 have hz1:=hz.1
 refine Fn.mk Tryz.func153 rfl rfl fun w0 F=>?_
 (refine G.seq ?_;refine G.region ?_)
 refine GO.box rfl rfl rfl fun b2=>?_
 (refine GO.nil ?_;refine ao ?_;refine G.seq ?_;refine G.region ?_;refine GO.assign rfl rfl ?_;refine GO.nil ?_;refine ao ?_;refine G.block ?_)
 refine G.loop2 (fun (_:σ) (again:Bool)=>[(1,f),(2,.pointer (some ⟨b2,0,none⟩)),(4,.bool again)])
  (fun s _=>pt b2 (row [i64 C.nts,.slice a0 C.prods.length cap0] 33)::((q::M s)++F))
  (fun s again=>I s∧Reach step C.prods s0 s∧(again=false→∀ p∈C.prods,(step s p).2=false)) (fun s again=>2 * μ s+(if again then 1 else 0)) s0 true ⟨h0,.refl s0,fun h=>by cases h⟩ ?_ ?_ ?_
 ·exact SE rfl
 ·exact Sb.r
 rintro s again ⟨hIs,hR,hA⟩
 (refine G.seq ?_;refine G.seq ?_;refine G.region ?_;refine GO.move rfl rfl ?_;refine GO.nil ?_;refine ao ?_)
 cases again with
 | false=>
  (refine G.condF rfl rfl ?_;refine G.exit ?_;refine ga ?_;refine ga ?_;refine jN ?_)
  refine KF.n0 rfl (Q:=q::M s) ⟨s,hIs,hR,hA rfl,rfl⟩ (Sb.s Sb.r)
 | true=>
  (refine G.condT rfl rfl ?_;refine G.skip ?_;refine ao ?_;refine G.block ?_;refine G.seq ?_;refine G.region ?_;refine GO.assign rfl rfl ?_;refine GO.nil ?_;refine ao ?_;refine G.seq ?_;refine G.region ?_;refine GO.fieldAddr rfl rfl ?_;refine GO.load1 rfl rfl rfl Tk.h rfl ?_;refine GO.lenS rfl rfl ?_;refine GO.move rfl rfl ?_;refine GO.nil ?_;refine ao ?_;refine G.block ?_)
  refine G.loop3 (fun (k:Nat) (_:σ) (ag:Bool)=>[(1,f),(2,.pointer (some ⟨b2,0,none⟩)),(4,.bool ag),(9,.slice a0 C.prods.length cap0),(10,i64 C.prods.length),(11,i64 k)])
   (fun _ t _=>pt b2 (row [i64 C.nts,.slice a0 C.prods.length cap0] 33)::((q::M t)++F))
   (fun k t ag=>k≤C.prods.length∧I t∧Reach step C.prods s0 t∧(ag=true→μ t < μ s)∧(ag=false→t=s∧∀ j p,j < k→C.prods[j]?=some p→(step s p).2=false)) (fun k _ _=>C.prods.length - k) 0 s false
   ⟨by omega,hIs,hR,(fun h=>by cases h),fun _=>⟨rfl,fun j p hj=>by omega⟩⟩ ?_ ?_ ?_
  ·exact SE rfl
  ·exact Sb.r
  rintro k t ag ⟨hk,hIt,hRt,hg1,hg2⟩
  (refine G.seq ?_;refine G.region ?_;refine GO.lti rfl rfl rfl ?_;refine GO.nil ?_;refine ao ?_;refine G.seq ?_)
  refine G.condD rfl (fun hlt=>?_) (fun hge=>?_)
  ·have hlt':k < C.prods.length:=by omega
   obtain ⟨p,hpk⟩:∃ p,C.prods[k]?=some p:=⟨C.prods[k],by simp [hlt']⟩
   have hpm:=List.mem_of_getElem? hpk
   obtain ⟨b,o,bv,rfl,_,r1,r2,hs⟩:=hp.at hpk
   obtain ⟨ab,capb,rfl⟩:=hs.form
   (refine G.skip ?_;refine ao ?_;refine G.seq ?_;refine G.block ?_;refine G.seq ?_;refine G.region ?_;refine GO.idxS rfl rfl rfl ⟨rfl,by omega⟩ ?_)
   refine GO.load2 (q:=q) rfl rfl rfl (Tk.t Tk.h) r1 r2 ?_
   refine GO.alloc rfl fun b6=>?_
   refine GO.storeW rfl rfl Tk.h ⟨rfl,rfl⟩ (by simp [Value.oneCell']) ?_
   (refine GO.nil ?_;refine ao ?_;refine G.region ?_;refine GO.move rfl rfl ?_)
   refine GO.loadW rfl rfl rfl Tk.h rfl ?_
   refine GO.callV1 rfl rfl rfl (hf t p hIt hpm _ hs) BQ ?_
   rintro _ _ ⟨rfl,rfl⟩
   have hIt':=hI t p hIt hpm
   have hRt':=Reach.more hRt hpm
   cases hb:(step t p).2 with
   | true=>
    have hm:=hdn t p hIt hpm hb
    (refine GO.move rfl rfl ?_;refine GO.gF rfl rfl rfl rfl ?_;refine GO.pickT rfl rfl rfl ?_;refine GO.assign rfl rfl ?_;refine GO.nil ?_;refine iA ?_;refine ao ?_;refine G.region ?_;refine GO.addi rfl rfl rfl (by omega) ?_;refine GO.move rfl rfl ?_;refine GO.nil ?_;refine ao ?_)
    refine ⟨k+1,(step t p).1,true,⟨by omega,hIt',hRt',(fun _=>?_),fun h=>by cases h⟩,by omega,?_,Sb.mid2⟩
    ·cases ag with
     | true=>have:=hg1 rfl;omega
     | false=>obtain ⟨e,_⟩:=hg2 rfl;subst e;exact hm
    ·exact SE rfl
   | false=>
    have he:=hst t p hb
    rw [he] at hIt' hRt' ⊢
    (refine GO.move rfl rfl ?_;refine GO.gT rfl rfl rfl ?_;refine GO.move rfl rfl ?_;refine GO.pickF rfl rfl rfl ?_;refine GO.assign rfl rfl ?_;refine GO.nil ?_;refine iA ?_;refine ao ?_;refine G.region ?_;refine GO.addi rfl rfl rfl (by omega) ?_;refine GO.move rfl rfl ?_;refine GO.nil ?_;refine ao ?_)
    refine ⟨k+1,t,ag,⟨by omega,hIt,hRt,hg1,fun h=>?_⟩,by omega,?_,Sb.mid2⟩
    ·obtain ⟨e,hj⟩:=hg2 h
     subst e
     refine ⟨rfl,fun j p' hjk hp'=>?_⟩
     by_cases ej:j=k
     ·subst ej;rw [hpk] at hp';simp only [Option.some.injEq] at hp';subst hp';exact hb
     ·exact hj j p' (by omega) hp'
    ·exact SE rfl
  ·have:k=C.prods.length:=by omega
   subst this
   (refine G.exit ?_;refine ga ?_;refine ga ?_;refine jN ?_;refine iA ?_;refine ao ?_)
   refine ⟨t,ag,⟨hIt,hRt,fun h p hpm=>?_⟩,?_,?_,Sb.r⟩
   ·obtain ⟨e,hj⟩:=hg2 h
    subst e
    obtain ⟨j,hjl,hj'⟩:=List.getElem_of_mem hpm
    exact hj j p hjl (by rw [List.getElem?_eq_getElem hjl,hj'])
   ·cases ag with
    | true=>have:=hg1 rfl;simp;omega
    | false=>obtain ⟨e,_⟩:=hg2 rfl;subst e;simp
   ·exact SE rfl
end Pr
namespace Pr
attribute [local irreducible] G GO GR GT Fn FnV pt init exs pur sat own ImpS
abbrev pvs (xs:List (Int × Value)):List Value:=duo i64 id xs
def Cp (z:HP):List aF→List (Int × Value)→Prop
 | [],[]=>True
 | p::ps,x::xs=>(x.1=p.1∧SymsR z x.2 p.2)∧Cp z ps xs
 | _,_=>False
theorem Cp.len {z:HP}:∀ {ps:List aF} {xs:List (Int × Value)},Cp z ps xs→xs.length=ps.length
 | [],[],_=>rfl
 | _::_,_::_,h=>by simp [Cp.len h.2]
 | [],_::_,h=>h.elim
 | _::_,[],h=>h.elim
theorem Cp.sup {z z':HP} (hs:Sup z z'):∀ {ps:List aF} {xs:List (Int × Value)},Cp z ps xs→Cp z' ps xs
 | [],[],_=>trivial
 | _::_,_::_,h=>⟨⟨h.1.1,h.1.2.sup hs⟩,Cp.sup hs h.2⟩
 | [],_::_,h=>h.elim
 | _::_,[],h=>h.elim
theorem Cp.snoc {z:HP} {p:aF} {x:Int × Value} (h1:x.1=p.1) (h2:SymsR z x.2 p.2):∀ {ps:List aF} {xs:List (Int × Value)},Cp z ps xs→Cp z (ps++[p]) (xs++[x])
 | [],[],_=>⟨⟨h1,h2⟩,trivial⟩
 | _::_,_::_,h=>⟨h.1,Cp.snoc h1 h2 h.2⟩
 | [],_::_,h=>h.elim
 | _::_,[],h=>h.elim
theorem Cp.get {z:HP}:∀ {ps:List aF} {xs:List (Int × Value)} {k:Nat} {p:aF},Cp z ps xs→ps[k]?=some p→∃ x,xs[k]?=some x∧x.1=p.1∧SymsR z x.2 p.2
 | [],[],_,_,_,h=>by simp at h
 | _::_,x::_,0,_,h,hk=>by simp at hk;subst hk;exact ⟨x,rfl,h.1.1,h.1.2⟩
 | _::_,_::_,k+1,_,h,hk=>by
  obtain ⟨x,h1,h2⟩:=Cp.get h.2 (by simpa using hk)
  exact ⟨x,by simpa using h1,h2⟩
 | [],_::_,_,_,h,_=>h.elim
 | _::_,[],_,_,h,_=>h.elim
theorem Cp.mem {z:HP}:∀ {ps:List aF} {xs:List (Int × Value)} {x:Int × Value},Cp z ps xs→x∈xs→∃ p∈ps,x.1=p.1∧SymsR z x.2 p.2
 | [],[],_,_,h=>by simp at h
 | p::_,_::_,x,h,hm=>by
  rcases List.mem_cons.1 hm with rfl | hm
  ·exact ⟨p,by simp,h.1⟩
  ·obtain ⟨p',h1,h2⟩:=Cp.mem h.2 hm
   exact ⟨p',by simp [h1],h2⟩
 | [],_::_,_,h,_=>h.elim
 | _::_,[],_,h,_=>h.elim
theorem Cp.one {z:HP} {ps:List aF} {xs:List (Int × Value)} (h:Cp z ps xs):∀ x∈xs,Value.oneCell' x.2=true:=fun x hx=>by
 obtain ⟨p,_,_,hs⟩:=h.mem hx
 obtain ⟨a,cap,e⟩:=hs.form
 rw [e];rfl
theorem Cp.prs {z q:HP} {v:Value} {ps:List aF} {xs:List (Int × Value)} (h:Cp z ps xs) (hs:Sup z q) (hv:Sl q v xs.length 2 (pvs xs)):PrsR q v ps:=
 ⟨pvs xs,by rw [← h.len];exact hv,fun k p hk=>by
  obtain ⟨x,h1,h2,h3⟩:=h.get hk
  obtain ⟨g1,g2⟩:=tw (f:=i64) (g:=id) h1
  exact ⟨x.2,by rw [g1,h2],g2,h3.sup hs⟩⟩
end Pr
namespace Pr
def dy (m n:Int):Int:=if m < n then -1 else if n < m then 1 else 0
theorem pM {m n:Int}:dy m n < 0↔m < n:=by
 unfold dy;split <;> (try split) <;> omega
theorem dx {m n:Int}:dy m n=0↔m=n:=by
 unfold dy;split <;> (try split) <;> omega
def ia (x y:bi):Int:=if x.1=y.1 then dy x.2 y.2 else if x.1 then 1 else -1
theorem Al {x y:bi}:ia x y < 0↔kM x y=true:=by
 obtain ⟨a,m⟩:=x
 obtain ⟨b,n⟩:=y
 unfold ia kM
 dsimp only
 by_cases e:a=b
 ·rw [if_pos e,if_pos e,pM,decide_eq_true_iff]
 ·rw [if_neg e,if_neg e]
  cases a <;> cases b <;> simp_all
theorem io {x y:bi}:ia x y=0↔x=y:=by
 obtain ⟨a,m⟩:=x
 obtain ⟨b,n⟩:=y
 unfold ia
 dsimp only
 by_cases e:a=b
 ·rw [if_pos e,dx,Prod.mk.injEq]
  exact ⟨fun h=>⟨e,h⟩,fun h=>h.2⟩
 ·rw [if_neg e]
  constructor
  ·intro h;split at h <;> omega
  ·intro h;injection h with h1 _;exact absurd h1 e
def fM:List bi→List bi→Int
 | [],[]=>0
 | [],_::_=>-1
 | _::_,[]=>1
 | s::a,t::b=>if ia s t=0 then fM a b else ia s t
theorem sx:∀ {a b:List bi},a.length=b.length→(fM a b < 0↔ek a b=true)
 | [],[],_=>by unfold fM ek;simp
 | [],_::_,h=>by simp at h
 | _::_,[],h=>by simp at h
 | s::a,t::b,h=>by
  have ih:=sx (a:=a) (b:=b) (by simpa using h)
  unfold fM ek
  by_cases e:s=t
  ·rw [if_pos (io.2 e),if_pos e];exact ih
  ·rw [if_neg (fun h=>e (io.1 h)),if_neg e];exact Al
theorem pT:∀ {a b:List bi},fM a b=0↔a=b
 | [],[]=>by unfold fM;simp
 | [],_::_=>by unfold fM;simp
 | _::_,[]=>by unfold fM;simp
 | s::a,t::b=>by
  have ih:=pT (a:=a) (b:=b)
  unfold fM
  by_cases e:s=t
  ·rw [if_pos (io.2 e),ih,e];simp
  ·rw [if_neg (fun h=>e (io.1 h))]
   constructor
   ·intro h;exact absurd (io.1 h) e
   ·intro h;injection h with h _;exact absurd h e
def jD (p q:aF):Int:=if dy p.1 q.1≠0 then dy p.1 q.1 else if dy p.2.length q.2.length≠0 then dy p.2.length q.2.length else fM p.2 q.2
theorem wz {p q:aF}:jD p q < 0↔ew p q=true:=by
 unfold jD ew
 by_cases e:p.1=q.1
 ·rw [if_neg (by rw [dx.2 e];simp),if_pos e]
  by_cases e2:p.2.length=q.2.length
  ·rw [if_neg (by rw [dx.2 (by omega)];simp),if_pos e2];exact sx e2
  ·rw [if_pos (fun h=>e2 (by have:=dx.1 h;omega)),if_neg e2,pM,decide_eq_true_iff];omega
 ·rw [if_pos (fun h=>e (dx.1 h)),if_neg e,pM,decide_eq_true_iff]
theorem uy {p q:aF}:jD p q=0↔p=q:=by
 obtain ⟨h,a⟩:=p
 obtain ⟨k,b⟩:=q
 unfold jD
 dsimp only
 by_cases e:h=k
 ·rw [if_neg (by rw [dx.2 e];simp)]
  by_cases e2:a.length=b.length
  ·rw [if_neg (by rw [dx.2 (by omega)];simp),pT,Prod.mk.injEq]
   exact ⟨fun h=>⟨e,h⟩,fun h=>h.2⟩
  ·rw [if_pos (fun h=>e2 (by have:=dx.1 h;omega))]
   constructor
   ·intro h;exact absurd (dx.1 h) (by omega)
   ·intro h;injection h with _ h;exact absurd (by rw [h]) e2
 ·rw [if_pos (fun h=>e (dx.1 h))]
  constructor
  ·intro h;exact absurd (dx.1 h) e
  ·intro h;injection h with h _;exact absurd h e
attribute [local irreducible] G GO GR GT Fn FnV pt init exs pur sat own ImpS symsV
theorem gC (m:Int):Fn Tryz.prog 181 #[i64 m] [] (fun r Q=>r=.bool false∧Q=[]):=by
 have d:decide (m≠m)=false:=decide_eq_false (fun h=>h rfl)
 refine Fn.mk2 Tryz.func181 rfl rfl fun w0 F=>?_
 apply Ru
 exact kr1 rfl ⟨rfl,rfl⟩
theorem gb (m n:Int):Fn Tryz.prog 136 #[i64 m,i64 n] [] (fun r Q=>r=i64 (dy m n)∧Q=[]):=by
 refine Fn.mk2 Tryz.func136 rfl rfl fun w0 F=>?_
 apply Ru
 refine scl (gC m) ?_
 rintro _ _ ⟨rfl,rfl⟩
 apply Ru
 refine scl (gC n) ?_
 rintro _ _ ⟨rfl,rfl⟩
 apply Ru
 refine G.condD rfl (fun h1=>?_) (fun h1=>?_)
 ·apply Ru
  exact kr1 rfl ⟨by unfold dy;rw [if_pos h1],rfl⟩
 ·apply Ru
  refine G.condD rfl (fun h2=>?_) (fun h2=>?_)
  ·apply Ru
   exact kr1 rfl ⟨by unfold dy;rw [if_neg h1,if_pos h2],rfl⟩
  ·apply Ru
   exact kr1 rfl ⟨by unfold dy;rw [if_neg h1,if_neg h2],rfl⟩
theorem xd (x y:bi):Fn Tryz.prog 143 #[.agg #[.bool x.1,i64 x.2],.agg #[.bool y.1,i64 y.2]] [] (fun r Q=>r=i64 (ia x y)∧Q=[]):=by
 obtain ⟨a,m⟩:=x
 obtain ⟨b,n⟩:=y
 refine Fn.mk2 Tryz.func143 rfl rfl fun w0 F=>?_
 cases a <;> cases b
 ·(apply Ru;refine sbx fun b2=>?_;refine sbx fun b3=>?_;apply Ru)
  refine scl (gb m n) ?_
  rintro _ _ ⟨rfl,rfl⟩
  apply Ru
  exact kr1 rfl ⟨rfl,rfl⟩
 ·(apply Ru;refine sbx fun b2=>?_;refine sbx fun b3=>?_;apply Ru;refine G.condT rfl rfl ?_;apply Ru)
  exact kr1 rfl ⟨rfl,rfl⟩
 ·(apply Ru;refine sbx fun b2=>?_;refine sbx fun b3=>?_;apply Ru;refine G.condT rfl rfl ?_;apply Ru)
  exact kr1 rfl ⟨rfl,rfl⟩
 ·(apply Ru;refine sbx fun b2=>?_;refine sbx fun b3=>?_;apply Ru)
  refine scl (gb m n) ?_
  rintro _ _ ⟨rfl,rfl⟩
  apply Ru
  exact kr1 rfl ⟨rfl,rfl⟩
theorem pJ {α:Type} {l:List α} {k:Nat} {a:α} (h:l[k]?=some a):l.drop k=a::l.drop (k+1):=by
 obtain ⟨hk,e⟩:=List.getElem?_eq_some_iff.1 h
 rw [List.drop_eq_getElem_cons hk,e]
theorem mJ (z:HP) (av bv:Value) (a b:List bi) (ha:SymsR z av a) (hb:SymsR z bv b) (hn:¬ 140737488355328 < a.length) :
  Fn Tryz.prog 142 #[av,bv,.func (.func 143) #[] #[]] [z] (fun r Q=>r=i64 (fM a b)∧Q=[z]):=by
 obtain ⟨aa,ca,rfl⟩:=ha.form
 obtain ⟨ab,cb,rfl⟩:=hb.form
 refine Fn.mk2 Tryz.func142 rfl rfl fun w0 F=>?_
 apply Ru
 refine G.loop (fun k:Nat=>[(0,.slice aa a.length ca),(1,.slice ab b.length cb),(2,.func (.func 143) #[] #[]),(11,.slice aa a.length ca),(12,i64 (a.length:Nat)),(13,i64 (k:Nat))]) (fun _=>z::F) (fun k=>k≤a.length∧k≤b.length∧fM a b=fM (a.drop k) (b.drop k)) (fun k=>a.length - k) 0 ⟨Nat.zero_le _,Nat.zero_le _,by rw [List.drop_zero,List.drop_zero]⟩ ?_ ?_ ?_
 ·exact SE rfl
 ·exact SB
 ·rintro k ⟨hk,hkb,hC⟩
  apply Ru
  refine G.condD rfl (fun hlt=>?_) (fun hge=>?_)
  ·obtain ⟨s,hs⟩:∃ s,a[k]?=some s:=⟨_,List.getElem?_eq_getElem (by omega)⟩
   have hda:=pJ hs
   obtain ⟨ba,oa,rfl,_,r1,r2⟩:=ha.at hs
   (apply Ru;refine six ?_;refine sl2 (by assumption) (by assumption) ?_;refine sal fun b8=>?_;apply Ru)
   refine G.condD rfl (fun hle=>?_) (fun hnle=>?_)
   ·apply Ru
    refine KF2.r1 rfl (RV.t rfl) ⟨?_,rfl⟩ (ImpS.sb ?_)
    ·have hb0:b.drop k=[]:=List.drop_eq_nil_of_le (by omega)
     rw [hC,hda,hb0];rfl
    ·exact SB
   ·obtain ⟨t,ht⟩:∃ t,b[k]?=some t:=⟨_,List.getElem?_eq_getElem (by omega)⟩
    have hdb:=pJ ht
    obtain ⟨bb,ob,rfl,_,r3,r4⟩:=hb.at ht
    have hcall:=FnV.of (args:=[.agg #[.bool s.1,i64 s.2],.agg #[.bool t.1,i64 t.2]]) (caps:=[]) (xd s t)
    rw [hda,hdb] at hC
    rw [show fM (s::a.drop (k+1)) (t::b.drop (k+1))=if ia s t=0 then fM (a.drop (k+1)) (b.drop (k+1)) else ia s t from rfl] at hC
    (apply Ru;refine six ?_;refine sl2 (by assumption) (by assumption) ?_;refine sal fun b9=>?_;apply Ru;refine GO.loadW rfl rfl rfl (Tk.t Tk.h) rfl ?_;refine GO.loadW rfl rfl rfl Tk.h rfl ?_)
    refine GO.callV2 rfl rfl rfl rfl hcall Tks.n ?_
    rintro _ _ ⟨rfl,rfl⟩
    apply Ru
    refine G.condD rfl (fun hne=>?_) (fun heq=>?_)
    ·rw [if_neg hne] at hC
     apply Ru
     exact kr1 rfl ⟨by rw [hC],rfl⟩
    ·rw [if_pos (Decidable.not_not.1 heq)] at hC
     (apply Ru;refine sad ?_)
     refine ⟨k+1,⟨by omega,by omega,hC⟩,by omega,?_,?_⟩
     ·exact SE rfl
     ·exact SB
  ·have e:k=a.length:=by omega
   subst e
   rw [List.drop_length] at hC
   apply Ru
   refine G.condD rfl (fun hlt=>?_) (fun hge2=>?_)
   ·obtain ⟨t,ht⟩:∃ t,b[a.length]?=some t:=⟨_,List.getElem?_eq_getElem (by omega)⟩
    rw [pJ ht] at hC
    apply Ru
    exact kr1 rfl ⟨by rw [hC];rfl,rfl⟩
   ·rw [List.drop_eq_nil_of_le (by omega)] at hC
    apply Ru
    exact kr1 rfl ⟨by rw [hC];rfl,rfl⟩
def or3 (x y w:Int):Int:=if x≠0 then x else if y≠0 then y else w
theorem sY (b:Nat) (x y w:Int):Fn Tryz.prog 135 #[.slice (some ⟨b,0,none⟩) 3 3] [pt b (row [i64 x,i64 y,i64 w] 3)] (fun r Q=>r=i64 (or3 x y w)∧Q=[pt b (row [i64 x,i64 y,i64 w] 3)]):=by
 have nth:∀ k,k < 3→∃ u,[x,y,w][k]?=some u:=fun k hk=>⟨_,List.getElem?_eq_getElem (by simpa using hk)⟩
 refine Fn.mk2 Tryz.func135 rfl rfl fun w0 F=>?_
 apply Ru
 refine G.loop (fun k:Nat=>[(3,i64 0),(6,.slice (some ⟨b,0,none⟩) 3 3),(7,i64 3),(8,i64 (k:Nat))]) (fun _=>pt b (row [i64 x,i64 y,i64 w] 3)::F) (fun k=>k≤3∧(1≤k→x=0)∧(2≤k→y=0)∧(3≤k→w=0)) (fun k=>3 - k) 0 ⟨by omega,by omega,by omega,by omega⟩ ?_ ?_ ?_
 ·exact SE rfl
 ·exact SB
 ·rintro k ⟨hk,h1,h2,h3⟩
  match k,hk,h1,h2,h3 with
  | 0,_,_,_,_=>
   (apply Ru;refine G.condT rfl rfl ?_;apply Ru;refine six ?_)
   refine G.condD rfl (fun hne=>?_) (fun heq=>?_)
   ·apply Ru
    exact kr1 rfl ⟨by unfold or3;rw [if_pos hne],rfl⟩
   ·(apply Ru;refine sad ?_)
    refine ⟨1,⟨by omega,fun _=>Decidable.not_not.1 heq,by omega,by omega⟩,by omega,?_,?_⟩
    ·exact SE rfl
    ·exact SB
  | 1,_,h1,_,_=>
   (apply Ru;refine G.condT rfl rfl ?_;apply Ru;refine six ?_)
   refine G.condD rfl (fun hne=>?_) (fun heq=>?_)
   ·apply Ru
    exact kr1 rfl ⟨by unfold or3;rw [if_neg (by simp [h1]),if_pos hne],rfl⟩
   ·(apply Ru;refine sad ?_)
    refine ⟨2,⟨by omega,fun _=>h1 (by omega),fun _=>Decidable.not_not.1 heq,by omega⟩,by omega,?_,?_⟩
    ·exact SE rfl
    ·exact SB
  | 2,_,h1,h2,_=>
   (apply Ru;refine G.condT rfl rfl ?_;apply Ru;refine six ?_)
   refine G.condD rfl (fun hne=>?_) (fun heq=>?_)
   ·apply Ru
    exact kr1 rfl ⟨by unfold or3;rw [if_neg (by simp [h1]),if_neg (by simp [h2])],rfl⟩
   ·(apply Ru;refine sad ?_)
    refine ⟨3,⟨by omega,fun _=>h1 (by omega),fun _=>h2 (by omega),fun _=>Decidable.not_not.1 heq⟩,by omega,?_,?_⟩
    ·exact SE rfl
    ·exact SB
  | 3,_,h1,h2,h3=>
   (apply Ru;refine G.condF rfl rfl ?_;apply Ru)
   exact kr1 rfl ⟨by unfold or3;rw [if_neg (by simp [h1]),if_neg (by simp [h2]),h3 (by omega)],rfl⟩
  | k+4,hk,_,_,_=>exact absurd hk (by omega)
theorem or_order (p q:aF):or3 (dy p.1 q.1) (dy p.2.length q.2.length) (fM p.2 q.2)=jD p q:=rfl
theorem gp (z:HP) (p q:aF) (pv qv:Value) (hp:SymsR z pv p.2) (hq:SymsR z qv q.2) (hn:¬ 140737488355328 < p.2.length) :
  Fn Tryz.prog 80 #[.agg #[i64 p.1,pv],.agg #[i64 q.1,qv]] [z] (fun r Q=>r=i64 (jD p q)∧Q=[z]):=by
 have hbody:=mJ z pv qv p.2 q.2 hp hq hn
 have hor:=fun b=>sY b (dy p.1 q.1) (dy p.2.length q.2.length) (fM p.2 q.2)
 simp only [or_order] at hor
 have hc1:=gb p.1 q.1
 have hc2:=gb (p.2.length:Nat) (q.2.length:Nat)
 generalize dy p.1 q.1=c1 at hor hc1
 generalize dy (p.2.length:Nat) (q.2.length:Nat)=c2 at hor hc2
 generalize fM p.2 q.2=c3 at hor hbody
 obtain ⟨ap,cp,rfl⟩:=hp.form
 obtain ⟨aq,cq,rfl⟩:=hq.form
 refine Fn.mk2 Tryz.func80 rfl rfl fun w0 F=>?_
 (apply Ru;refine sbx fun b2=>?_;refine sbx fun b3=>?_;apply Ru)
 refine dr 17 ?_
 apply Ru
 apply GQ.step;focus (intro Z;refine scl (hc1) ?_;rintro _ _ ⟨rfl,rfl⟩;refine GO.nil (KQ.s ?_);exact SB)
 apply Ru
 apply GQ.step;focus (intro Z;refine scl (hc2) ?_;rintro _ _ ⟨rfl,rfl⟩;refine GO.nil (KQ.s ?_);exact SB)
 apply Ru
 apply GQ.step;focus (intro Z;refine scl (hbody) ?_;rintro _ _ ⟨rfl,rfl⟩;refine GO.nil (KQ.s ?_);exact SB)
 apply Ru
 refine GO.buildSlice3 (n:=1) rfl rfl rfl rfl (by intro v hv;simp only [List.mem_cons,List.not_mem_nil,or_false] at hv;rcases hv with rfl | rfl | rfl <;> rfl) rfl ⟨by omega,by omega⟩ fun bs=>?_
 refine GO.call1 rfl rfl (hor bs) (Tks.c Tk.h Tks.n) ?_
 rintro _ _ ⟨rfl,rfl⟩
 apply Ru
 exact kr1 rfl ⟨rfl,rfl⟩
theorem wi (z:HP) (p q:aF) (pv qv:Value) (hp:SymsR z pv p.2) (hq:SymsR z qv q.2) (hn:¬ 140737488355328 < p.2.length) :
  Fn Tryz.prog 82 #[.agg #[i64 p.1,pv],.agg #[i64 q.1,qv]] [z] (fun r Q=>r=.bool (decide (p=q))∧Q=[z]):=by
 have ho:=gp z p q pv qv hp hq hn
 have he:decide (jD p q=0)=decide (p=q):=by rw [decide_eq_decide];exact uy
 obtain ⟨ap,cp,rfl⟩:=hp.form
 obtain ⟨aq,cq,rfl⟩:=hq.form
 generalize jD p q=c at ho he
 refine Fn.mk2 Tryz.func82 rfl rfl fun w0 F=>?_
 (apply Ru;refine sbx fun b2=>?_;refine sbx fun b3=>?_;apply Ru;refine GO.loadW rfl rfl rfl (Tk.t Tk.h) rfl ?_;refine GO.loadW rfl rfl rfl Tk.h rfl ?_)
 refine scl (ho) ?_
 rintro _ _ ⟨rfl,rfl⟩
 apply Ru
 exact kr1 rfl ⟨by rw [← he],rfl⟩
end Pr
namespace Pr
def Srt (ps:List aF):Prop:=ps.Pairwise fun p q=>ew q p=false
theorem Srt.le {ps:List aF} (h:Srt ps) {i j:Nat} {p q:aF} (hp:ps[i]?=some p) (hq:ps[j]?=some q) (hij:i≤j):p=q∨ew p q=true:=by
 by_cases e:i=j
 ·subst e
  rw [hp] at hq
  injection hq with hq
  exact .inl hq
 ·obtain ⟨h1,e1⟩:=List.getElem?_eq_some_iff.1 hp
  obtain ⟨h2,e2⟩:=List.getElem?_eq_some_iff.1 hq
  have:=(List.pairwise_iff_getElem.1 h) i j h1 h2 (by omega)
  rw [e1,e2] at this
  by_cases e3:p=q
  ·exact .inl e3
  ·have h4:=iR e3
   rw [this] at h4
   exact .inr h4
theorem Srt.snoc {ps:List aF} (h:Srt ps) {t:Nat} {x y:aF} (hx:ps[t+1]?=some x) (hy:ps[t]?=some y) (hne:x≠y) {zs:List aF} (hz:Ups zs) (hm:∀ p,p∈zs↔p∈ps.take (t+1)):Ups (zs++[x]):=by
 have hyx:ew y x=true:=(h.le hy hx (by omega)).resolve_left (fun e=>hne e.symm)
 refine List.pairwise_append.2 ⟨hz,List.pairwise_singleton ..,fun p hp q hq=>?_⟩
 rw [List.mem_singleton.1 hq]
 obtain ⟨j,hj⟩:=List.getElem?_of_mem ((hm p).1 hp)
 have hjl:=(List.getElem?_eq_some_iff.1 hj).1
 rw [List.length_take] at hjl
 rw [List.getElem?_take,if_pos (by omega)] at hj
 rcases h.le hj hy (by omega) with e | e
 ·rw [e];exact hyx
 ·exact iS e hyx
theorem jt {ps:List aF} {t:Nat} {x:aF} (hx:ps[t]?=some x) (p:aF):p∈ps.take (t+1)↔p∈ps.take t∨p=x:=by
 rw [List.take_add_one,hx,List.mem_append]
 simp
theorem Ups.one (p:aF):Ups [p]:=List.pairwise_singleton ..
theorem Cp.cut {z:HP}:∀ {ps:List aF} {xs:List (Int × Value)} (k:Nat),Cp z ps xs→Cp z (ps.take k) (xs.take k)
 | _,_,0,_=>by rw [List.take_zero,List.take_zero];trivial
 | [],[],k+1,_=>trivial
 | _::_,_::_,k+1,h=>⟨h.1,Cp.cut k h.2⟩
 | [],_::_,_+1,h=>h.elim
 | _::_,[],_+1,h=>h.elim
attribute [local irreducible] G GO GR GT Fn FnV pt init exs pur sat own ImpS symsV
theorem CE (z:HP) {p q:aF} {x y:Int × Value} (hx1:x.1=p.1) (hx2:SymsR z x.2 p.2) (hy1:y.1=q.1) (hy2:SymsR z y.2 q.2) (hn:¬ 140737488355328 < p.2.length) :
  FnV Tryz.prog (.func (.func 82) #[] #[]) [.agg #[i64 x.1,x.2],.agg #[i64 y.1,y.2]] [z] (fun r Q=>r=.bool (decide (p=q))∧Q=[z]):=by
 rw [hx1,hy1]
 exact FnV.of (args:=[.agg #[i64 p.1,x.2],.agg #[i64 q.1,y.2]]) (caps:=[]) (wi z p q x.2 y.2 hx2 hy2 hn)
theorem nF {b:Nat} {ys:List (Int × Value)} {rst:List Value} {T:TypeId} {j:Nat} {y:Int × Value} (h:ys[j]?=some y):Rd (pt b (row (pvs ys++rst) T)) ⟨b,0+j * 2,none⟩ (i64 y.1)∧Rd (pt b (row (pvs ys++rst) T)) ⟨b,0+j * 2+1,none⟩ y.2:=by
 obtain ⟨c1,c2⟩:=tw (f:=i64) (g:=id) h
 have hlen:(pvs ys).length=ys.length * 2:=kF ys
 have hl:=(List.getElem?_eq_some_iff.1 h).1
 exact ⟨Rd.row (by rw [Nat.zero_add,List.getElem?_append_left (by omega)];exact c1),Rd.row (by rw [Nat.zero_add,List.getElem?_append_left (by omega)];exact c2)⟩
theorem qG (z:HP) (v:Value) (xs:List (Int × Value)) (ps:List aF) (hc:Cp z ps xs) (hs:Srt ps) (hn:¬ 1152921504606846976 < xs.length) (hb:∀ p∈ps,¬ 140737488355328 < p.2.length) :
  Fn Tryz.prog 81 #[v,.func (.func 82) #[] #[]] [own 82 2 xs.length v (pvs xs),z]
   (fun r Q=>∃ zs ys,Cp z zs ys∧Ups zs∧(∀ p,p∈zs↔p∈ps)∧ys.length≤xs.length∧Q=[own 82 2 ys.length r (pvs ys),z]):=by
 have hcl:=hc.len
 have h1:=hc.one
 refine Fn.mk2 Tryz.func81 rfl rfl fun w0 F=>?_
 apply Ru
 refine G.condD rfl (fun hlt=>?_) (fun hge=>?_)
 ·apply Ru
  refine KF2.r1 rfl (RV.t rfl) ⟨ps,xs,hc,?_,fun p=>Iff.rfl,Nat.le_refl _,rfl⟩ (ImpS.sb ?_)
  ·match ps,hcl with
   | [],_=>exact List.Pairwise.nil
   | [p],_=>exact Ups.one p
   | _::_::_,hcl=>exact absurd hcl (by simp only [List.length_cons];omega)
  ·exact SB
 ·refine G.own_open (F:=z::F) Tk.h (fun _ h _=>?_) (fun b cap rst hv g1 g2 g3 g4=>?_)
  ·exfalso;omega
  subst hv
  unfold maxLen at g3
  apply Ru
  refine G.loop (fun k:Nat=>[(0,.slice (some ⟨b,0,none⟩) xs.length cap),(1,.func (.func 82) #[] #[]),(5,i64 ((k+1:Nat):Int))]) (fun _=>pt b (row (pvs xs++rst) 82)::z::F) (fun k=>k+1≤xs.length∧Ups (ps.take (k+1))) (fun k=>xs.length - k) 0 ⟨by omega,?_⟩ ?_ ?_ ?_
  ·match ps,hcl with
   | p::ps,_=>rw [List.take_succ_cons,List.take_zero];exact Ups.one p
   | [],hcl=>exact absurd hcl (by simp only [List.length_nil];omega)
  ·exact SE rfl
  ·exact SB
  ·rintro k ⟨hk,hU⟩
   apply Ru
   refine G.condD rfl (fun hlt=>?_) (fun hge2=>?_)
   ·have hkl:k+1 < xs.length:=by omega
    obtain ⟨px,hpx⟩:∃ p,ps[k+1]?=some p:=⟨_,List.getElem?_eq_getElem (by omega)⟩
    obtain ⟨py,hpy⟩:∃ p,ps[k]?=some p:=⟨_,List.getElem?_eq_getElem (by omega)⟩
    obtain ⟨x,hx,hx1,hx2⟩:=hc.get hpx
    obtain ⟨y,hy,hy1,hy2⟩:=hc.get hpy
    obtain ⟨a1,a2⟩:=nF (b:=b) (rst:=rst) (T:=82) hx
    obtain ⟨a3,a4⟩:=nF (b:=b) (rst:=rst) (T:=82) hy
    have hcall:=CE z hx1 hx2 hy1 hy2 (hb _ (List.mem_of_getElem? hpx))
    apply Ru
    refine dr 10 ?_
    (apply Ru;refine qix ?_;refine ql2 (by assumption) (by assumption) ?_;apply Ru;(apply GQ.step;focus (intro Z;refine GO.subi rfl rfl rfl (by omega) ?_;exact KQ.z)))
    apply GQ.step;focus (intro Z;refine GO.idxS (j:=k) rfl rfl rfl ⟨by omega,by omega⟩ ?_;exact KQ.z)
    (refine ql2 (by assumption) (by assumption) ?_;apply Ru)
    refine GO.callV2 rfl rfl rfl rfl hcall (Tks.c (Tk.t Tk.h) Tks.n) ?_
    rintro _ _ ⟨rfl,rfl⟩
    apply Ru
    refine G.condD rfl (fun heq=>?_) (fun hne=>?_)
    ·subst heq
     apply Ru
     refine GO.sliceLo (l:=k+1) rfl rfl rfl ⟨rfl,by omega,by omega⟩ ?_
     apply Ru
     refine G.loop3 (fun (i j:Nat) (_:List (Int × Value))=>[(0,.slice (some ⟨b,0,none⟩) xs.length cap),(1,.func (.func 82) #[] #[]),(5,i64 (i:Nat)),(6,.slice (some ⟨b,0+(k+1) * 2,none⟩) (xs.length - (k+1)) (cap - (k+1))),(7,i64 ((j+1:Nat):Int))]) (fun _ _ ys=>pt b (row (pvs ys++rst) 82)::z::F)
      (fun i j ys=>k+1+j+1≤xs.length∧ys.length=xs.length∧1≤i∧i≤k+1+j∧ys.drop (k+1+j)=xs.drop (k+1+j)∧∃ zs,zs.length=i∧Cp z zs (ys.take i)∧Ups zs∧∀ p,p∈zs↔p∈ps.take (k+1+j+1)) (fun _ j _=>xs.length - j) (k+1) 0 xs
      ⟨by omega,rfl,by omega,by omega,rfl,ps.take (k+1),by rw [List.length_take];omega,hc.cut _,hU,fun p=>?_⟩ ?_ ?_ ?_
     ·rw [Nat.add_zero,jt hpx,jt hpy]
      constructor
      ·intro h;exact .inl h
      ·rintro (h | h)
       ·exact h
       ·exact .inr h
     ·exact SE rfl
     ·exact SB
     ·rintro i j ys ⟨hj,hyl,hi1,hij,hdr,zs,hzl,hzc,hzu,hzm⟩
      apply Ru
      refine G.condD rfl (fun hlt3=>?_) (fun hge3=>?_)
      ·have hjl:k+1+j+1 < xs.length:=by omega
       obtain ⟨qx,hqx⟩:∃ p,ps[k+1+j+1]?=some p:=⟨_,List.getElem?_eq_getElem (by omega)⟩
       obtain ⟨qy,hqy⟩:∃ p,ps[k+1+j]?=some p:=⟨_,List.getElem?_eq_getElem (by omega)⟩
       obtain ⟨u,hu,hu1,hu2⟩:=hc.get hqx
       obtain ⟨t,ht,ht1,ht2⟩:=hc.get hqy
       have hat:∀ m,k+1+j≤m→ys[m]?=xs[m]?:=fun m hm=>by
        have:=congrArg (fun l=>l[m - (k+1+j)]?) hdr
        simp only [List.getElem?_drop] at this
        rwa [show k+1+j+(m - (k+1+j))=m by omega] at this
       have hu':=hu
       have ht':=ht
       rw [← hat _ (by omega)] at hu' ht'
       obtain ⟨a5,a6⟩:=nF (b:=b) (rst:=rst) (T:=82) hu'
       obtain ⟨a7,a8⟩:=nF (b:=b) (rst:=rst) (T:=82) ht'
       have e1:0+(k+1) * 2+(j+1) * 2=0+(k+1+j+1) * 2:=by omega
       have e2:0+(k+1) * 2+j * 2=0+(k+1+j) * 2:=by omega
       have hcall2:=CE z hu1 hu2 ht1 ht2 (hb _ (List.mem_of_getElem? hqx))
       have h1u:Value.oneCell' u.2=true:=h1 u (List.mem_of_getElem? hu)
       apply Ru
       rw [← e1] at a5 a6
       rw [← e2] at a7 a8
       refine dr 10 ?_
       (apply Ru;refine qix ?_;refine ql2 (by assumption) (by assumption) ?_;apply Ru;(apply GQ.step;focus (intro Z;refine GO.subi rfl rfl rfl (by omega) ?_;exact KQ.z)))
       apply GQ.step;focus (intro Z;refine GO.idxS (j:=j) rfl rfl rfl ⟨by omega,by omega⟩ ?_;exact KQ.z)
       (refine ql2 (by assumption) (by assumption) ?_;apply Ru)
       refine GO.callV2 rfl rfl rfl rfl hcall2 (Tks.c (Tk.t Tk.h) Tks.n) ?_
       rintro _ _ ⟨rfl,rfl⟩
       have hdr1:ys.drop (k+1+(j+1))=xs.drop (k+1+(j+1)):=by
        have:=congrArg (fun l=>l.drop 1) hdr
        simpa [List.drop_drop,Nat.add_assoc] using this
       cases hqq:decide (qx=qy) with
       | true=>
        have eqq:=of_decide_eq_true hqq
        (apply Ru;refine G.condF rfl rfl ?_;apply Ru;refine sad ?_)
        refine ⟨i,j+1,ys,⟨by omega,hyl,hi1,by omega,hdr1,zs,hzl,hzc,hzu,fun p=>?_⟩,by omega,?_,?_⟩
        ·rw [hzm,show k+1+(j+1)+1=k+1+j+1+1 by omega,jt hqx,jt hqy,eqq]
         constructor
         ·intro h;exact .inl h
         ·rintro (h | h)
          ·exact h
          ·exact .inr h
        ·exact SE rfl
        ·exact SB
       | false=>
        have nqq:=of_decide_eq_false hqq
        have hil:i < ys.length:=by omega
        have hset:(pvs ys++rst).take (0+i * 2)++[i64 u.1,u.2]++(pvs ys++rst).drop (0+i * 2+2)=pvs (ys.set i u)++rst:=Bu (s:=u) hil
        have hlen:(pvs ys).length=ys.length * 2:=kF ys
        (apply Ru;refine G.condT rfl rfl ?_;apply Ru;refine six ?_;refine sl2 (by assumption) (by assumption) ?_;refine six ?_)
        refine GO.storeG (l:=pvs ys++rst) (vs:=[i64 u.1,u.2]) rfl rfl rfl rfl (Tk.t Tk.h) (by rw [List.length_append];simp only [List.length_cons,List.length_nil];omega) (by simp [Value.oneCell'];exact h1u) ?_
        simp only [List.length_cons,List.length_nil,Nat.zero_add 1,Nat.reduceAdd]
        rw [hset]
        (apply Ru;refine sad ?_;refine sad ?_)
        have hys:(ys.set i u).length=ys.length:=List.length_set
        refine ⟨i+1,j+1,ys.set i u,⟨by omega,by omega,by omega,by omega,?_,zs++[qx],by rw [List.length_append,hzl];rfl,?_,?_,fun p=>?_⟩,by omega,?_,?_⟩
        ·rw [List.drop_set_of_lt (by omega)];exact hdr1
        ·rw [List.take_add_one,List.getElem?_set_self hil,List.take_set_of_le (Nat.le_refl _)]
         exact Cp.snoc hu1 hu2 hzc
        ·exact hs.snoc hqx hqy nqq hzu hzm
        ·rw [List.mem_append,List.mem_singleton,hzm,show k+1+(j+1)+1=k+1+j+1+1 by omega,jt hqx]
        ·exact SE rfl
        ·exact SB
      ·have e:k+1+j+1=xs.length:=by omega
       have hlen:(pvs ys).length=ys.length * 2:=kF ys
       rw [List.length_append] at g4
       have htl:(ys.take i).length=i:=by rw [List.length_take];omega
       have hlen2:(pvs (ys.take i)).length=(ys.take i).length * 2:=kF _
       rw [e,← hcl.symm,List.take_length] at hzm
       apply Ru
       refine GO.sliceLo (l:=i) rfl rfl rfl ⟨rfl,by omega,by omega⟩ ?_
       refine GO.clear (l:=pvs ys++rst) rfl Tk.h (by omega) (by rw [List.length_append];simp only [List.length_cons,List.length_nil];omega) (by simp [Value.oneCell']) fun vs hvs=>?_
       simp only [List.length_cons,List.length_nil] at hvs
       have e1:(pvs ys++rst).take (0+i * 2)=pvs (ys.take i):=by
        rw [Nat.zero_add,List.take_append_of_le_length (by omega),← pI]
       rw [e1,List.append_assoc]
       apply Ru
       refine GO.sliceHi (l:=i) rfl rfl rfl ⟨rfl,by omega⟩ ?_
       refine GO.ownShut (sz:=2) (n:=i) (cap:=cap) rfl (by rw [hlen2,htl]) (by omega) (by unfold maxLen;omega) (by rw [List.length_append,List.length_append,List.length_drop,List.length_append,hlen2,htl];omega) ?_
       apply Ru
       refine KF2.r1 rfl (RV.t rfl) ⟨zs,ys.take i,hzc,hzu,hzm,by omega,rfl⟩ (ImpS.sb ?_)
       rw [htl]
       exact SB
    ·(apply Ru;refine sad ?_)
     refine ⟨k+1,⟨by omega,?_⟩,by omega,?_,?_⟩
     ·rw [show ps.take (k+1+1)=ps.take (k+1)++[px] by rw [List.take_add_one,hpx];rfl]
      exact hs.snoc hpx hpy hne hU fun p=>Iff.rfl
     ·exact SE rfl
     ·exact SB
   ·have e:k+1=xs.length:=by omega
    rw [e,← hcl.symm,List.take_length] at hU
    apply Ru
    refine KF2.r1 rfl (RV.t rfl) ⟨ps,xs,hc,hU,fun p=>Iff.rfl,Nat.le_refl _,rfl⟩ ?_
    refine ImpS.own (rest':=rst) rfl g1 g2 (by unfold maxLen;omega) g4 (ImpS.sb ?_)
    exact SB
end Pr
namespace Pr
open Go Go.Sort Go.Shelf Go.RowKit
theorem pq {W w':World} (h:Below W.heap.size W w') (hd:W.drawn≤w'.drawn):∃ q os',w'=grow (W.drewN q) os':=by
 obtain ⟨e1,e2,e3,e4,e5⟩:=h
 refine ⟨w'.drawn - W.drawn,w'.heap.extract W.heap.size w'.heap.size,?_⟩
 have hh:w'.heap=W.heap++w'.heap.extract W.heap.size w'.heap.size:=by
  apply Array.ext_getElem?
  intro k
  by_cases hk:k < W.heap.size
  ·rw [e5 k hk,Array.getElem?_append_left hk]
  ·rw [Array.getElem?_append_right (by omega),Array.getElem?_extract]
   by_cases h2:k < w'.heap.size
   ·rw [if_pos (by omega)];congr 1;omega
   ·rw [if_neg (by omega)];exact Array.getElem?_eq_none (by omega)
 generalize w'.heap.extract W.heap.size w'.heap.size=os at hh
 obtain ⟨h1,h2,h3,h4,h5⟩:=w'
 obtain ⟨g1,g2,g3,g4,g5⟩:=W
 simp only at e1 e2 e3 hh hd
 subst e1 e2 e3 hh
 show World.mk (g1++os) h2 h3 h4 h5=World.mk (g1++os) h2 (g3+(h3 - g3)) h4 h5
 rw [Nat.add_sub_cancel' hd]
theorem jy {l:List HP} {w:World} (h:sat l w) (os:Array Obj):sat l (grow w os):=oB h fun b o e=>by
 show (w.heap++os)[b]?=some o
 rw [Array.getElem?_append_left (Array.getElem?_eq_some_iff.1 e).1];exact e
section
variable {α:Type}
theorem jT {enc:α→List Value} {k:Nat} (hk:∀ x,(enc x).length=k) {j:Nat} (hj:j < k):∀ (l:List α) (i:Nat),(l.flatMap enc)[i * k+j]?=(l[i]?).bind fun x=>(enc x)[j]?
 | [],i=>by simp
 | x::l,0=>by rw [List.flatMap_cons,Nat.zero_mul,Nat.zero_add,List.getElem?_append_left (by rw [hk];exact hj)];rfl
 | x::l,i+1=>by
  rw [List.flatMap_cons,List.getElem?_append_right (by rw [hk,Nat.add_mul];omega),hk,show (i+1) * k+j - k=i * k+j by rw [Nat.add_mul];omega,jT hk hj l i]
  rfl
theorem iB {enc:α→List Value} {k:Nat} (hk:∀ x,(enc x).length=k):∀ (l:List α),(l.flatMap enc).length=l.length * k
 | []=>by simp
 | x::l=>by rw [List.flatMap_cons,List.length_append,hk,iB hk l,List.length_cons,Nat.add_mul];omega
variable [Inhabited α]
theorem gH {enc:α→List Value} {k:Nat} (hk:∀ x,(enc x).length=k) (d:Array α):(flatK enc k d).toList=d.toList.flatMap enc:=by
 apply List.ext_getElem?
 intro t
 by_cases ht:t < d.size * k
 ·have hk0:0 < k:=by
   rcases Nat.eq_zero_or_pos k with h | h;· subst h;simp at ht
   ·exact h
  have e1:t / k * k+t % k=t:=by rw [Nat.mul_comm];exact Nat.div_add_mod t k
  have h1:t / k < d.size:=Nat.div_lt_of_lt_mul (by rwa [Nat.mul_comm] at ht)
  have h2:t % k < k:=Nat.mod_lt _ hk0
  have a1:=get_flatK enc k d t ht
  rw [getElem!_pos (flatK enc k d) t (by simpa using ht),getElem!_pos d (t / k) h1,getElem!_pos (enc d[t / k]) (t % k) (by rw [hk];exact h2)] at a1
  have a2:=jT hk h2 d.toList (t / k)
  rw [e1] at a2
  rw [a2,List.getElem?_eq_getElem (by simpa using ht),List.getElem?_eq_getElem (by simpa using h1)]
  simp only [Option.bind_some]
  rw [List.getElem?_eq_getElem (by rw [hk];exact h2)]
  exact congrArg some a1
 ·rw [List.getElem?_eq_none (by simpa using ht),List.getElem?_eq_none (by rw [iB hk];simpa using ht)]
theorem iO (F:Array Value) (l rest:List Value) (h:F.size=l.length):putCells id 0 F (l++rest).toArray=(F.toList++rest).toArray:=by
 apply Array.ext_getElem?
 intro k
 simp only [putCells,Array.getElem?_mapIdx,List.getElem?_toArray]
 by_cases hk:k < F.size
 ·rw [List.getElem?_append_left (by omega),List.getElem?_append_left (by simpa using hk),List.getElem?_eq_getElem (by omega),List.getElem?_eq_getElem (by simpa using hk),Option.map_some,if_pos ⟨by omega,by omega⟩,Nat.sub_zero,getElem!_pos F k hk]
  rfl
 ·have e1:(l++rest)[k]?=rest[k - F.size]?:=by rw [List.getElem?_append_right (by omega),h]
  have e2:(F.toList++rest)[k]?=rest[k - F.size]?:=by rw [List.getElem?_append_right (by simpa using hk)];simp
  rw [e1,e2]
  cases rest[k - F.size]? with
  | none=>rfl
  | some y=>rw [Option.map_some,if_neg (by omega)]
theorem yG {d d':Array α} (h:PermIn 0 d.size d d'):d'.toList.Perm d.toList:=by
 obtain ⟨h1,_,h3⟩:=h
 have e1:d.extract 0 d.size=d:=by simp
 have e2:d'.extract 0 d.size=d':=by rw [← h1];simp
 rwa [e1,e2] at h3
theorem tY {lt:α→α→Bool} {d d':Array α} (hs:d'.size=d.size) (h:SortedIn lt 0 d.size d'):d'.toList.Pairwise (fun x y=>lt y x=false):=by
 rw [List.pairwise_iff_getElem]
 intro i j hi hj hij
 simp only [Array.length_toList] at hi hj
 have:=h i j (Nat.zero_le _) hij (by omega)
 rw [getElem!_pos d' i hi,getElem!_pos d' j hj] at this
 simpa using this
theorem Aw {P:Program} {ρ:Ren} (L:SlLaysF0.n6 P ρ) (k:Nat) (aE:∀ w,(isAgg (ρ.t 24)).run P w=.ok true w) (zE:∀ w,(Go.sizeOf (ρ.t 24)).run P w=.ok k w) (enc:α→List Value) (hk:∀ x,(enc x).length=k) (h1:∀ x,∀ v∈enc x,v.oneCell'=true) (cf:α→α→Int) (hO:SWO (Go.Proofs.ltOf cf)) (g:Nat) (cb:Array Value)
  (eg:∀ args w,(callFunc g args).run P w=.ok (.enter g args) w) (z:HP) (ok:World→α→Prop) (hok:∀ x W l,sat (z::l) W→ok W x)
  (hg:∀ x y W,ok W x→ok W y→Fn P g (#[.agg (enc x).toArray,.agg (enc y).toArray]++cb) [init W] (fun r Q=>r=.int .i64 (cf x y)∧Q=[init W])) (el:TypeId) (xs:List α) (b n cap:Nat) (hn:n=xs.length) (hsz:n < 4611686018427387904) (rest:List Value) :
  Fn P (ρ.f 6) #[.slice (some ⟨b,0,none⟩) n cap,.func (.func g) #[] cb] [pt b (row (xs.flatMap enc++rest) el),z] (fun r Q=>r=.tuple #[]∧∃ ys:List α,ys.Perm xs∧ys.Pairwise (fun x y=>Go.Proofs.ltOf cf y x=false)∧Q=[pt b (row (ys.flatMap enc++rest) el),z]):=by
 intro F w s
 subst hn
 have s:sat (pt b (row (xs.flatMap enc++rest) el)::z::F) w:=s
 have hb:=aT s
 have hlt:=(Array.getElem?_eq_some_iff.1 hb).1
 have hfl:(flatK enc k xs.toArray).toList=xs.flatMap enc:=gH hk xs.toArray
 have hH:HoldsK enc k w b 0 xs.toArray:=by
  intro j hj
  have hj':j < (xs.flatMap enc).length:=by rw [← hfl];simpa using hj
  have e1:(flatK enc k xs.toArray)[j]! =(xs.flatMap enc)[j]:=by
   rw [getElem!_pos _ j hj]
   have:(flatK enc k xs.toArray).toList[j]?=(xs.flatMap enc)[j]?:=by rw [hfl]
   rw [List.getElem?_eq_getElem (by simpa using hj),List.getElem?_eq_getElem hj'] at this
   exact Option.some.inj this
  constructor
  ·simp only [World.cell?,hb,row,Nat.zero_add,List.getElem?_toArray]
   rw [List.getElem?_append_left hj',List.getElem?_eq_getElem hj',e1];rfl
  ·simp [World.frozen?,hb,row]
 have key:∀ (m:Nat) (os:Array Obj) (d':Array α),d'.size=xs.toArray.size→sat (pt b (row (d'.toList.flatMap enc++rest) el)::z::F) (sortWorldK enc k w b 0 m d' os):=by
  intro m os d' hsz'
  refine jy (w:=putRowK enc k (Sort.ahead w m) b 0 d') (bE (w:=w) s ?_ ?_) os
  ·show ((w.heap.modify b (onCells (putCells id 0 (flatK enc k d')))))[b]?=_
   rw [Array.getElem?_modify,if_pos rfl,hb]
   simp only [Option.map_some,row,onCells]
   rw [iO _ _ _ (by rw [size_flatK,hsz',iB hk];simp),gH hk]
  ·intro j hj
   show ((w.heap.modify b (onCells (putCells id 0 (flatK enc k d')))))[j]?=_
   rw [Array.getElem?_modify,if_neg (Ne.symm hj)]
 have hc:Go.Proofs.CmpLays P g cb enc k cf b 0 xs.toArray.size w:=fun m os dk hdk x y=>by
  have sk:=ai (List.Perm.swap z _ F) (key m os dk hdk)
  exact (callsIn_wide (n:=0)).1 ((hg x y _ (hok x _ _ sk) (hok y _ _ sk) [] _ (oC _)).mono fun e w' ⟨v,Q,e1,sm,⟨e2,e3⟩,q⟩=>by
   subst e1 e2 e3
   exact ⟨rfl,pq (lf sm q) sm.draws⟩)
 have h:=Go.Proofs.AnyQ.slices_SortFunc L k aE zE enc hk h1 cf hO g cb b 0 cap xs.toArray w eg hc hH hlt (by simpa using hsz)
 rw [show xs.toArray.size=xs.length by simp] at h
 refine callsIn_wide.2 (h.mono ?_)
 rintro e w' ⟨rfl,d',m,os,hp,hs,rfl⟩
 have hsz':d'.size=xs.toArray.size:=hp.1
 refine ⟨_,_,rfl,?_,⟨rfl,d'.toList,by simpa using yG hp,tY hsz' (by simpa using hs),rfl⟩,key m os d' hsz'⟩
 refine ⟨rfl,rfl,rfl,?_,?_⟩
 ·show w.heap.size≤(Array.append _ _).size
  simp [putRowK,putRow,mapBlock]
 ·show w.drawn≤w.drawn+m
  omega
end
end Pr
namespace Pr
attribute [local irreducible] G GO GR GT Fn FnV pt init exs pur sat own ImpS
def symHas (o:Nat→Bool) (lb:Bool) (s:bi):Bool:=if s.1 then lb else o s.2.toNat
def Ak (n:Int) (s:bi):Prop:=s.1=false→0≤s.2∧s.2 < n
abbrev Dc (o:Nat→Bool) (lb:Bool) (n:Nat) (bo b4 b5:Nat):List HP:=
 [pt b5 (row [.bool lb] 4),pt b4 (row [.slice (some ⟨bo,0,none⟩) n n] 105),pt bo (row (jk o n) 4)]
theorem A0 (o:Nat→Bool) (lb:Bool) (n bo b4 b5:Nat) (s:bi) (hs:Ak n s) :
  Fn Tryz.prog 200 #[BR s,.pointer (some ⟨b5,0,none⟩),.pointer (some ⟨b4,0,none⟩)] (Dc o lb n bo b4 b5) (fun r Q=>r=.bool (!symHas o lb s)∧Q=Dc o lb n bo b4 b5):=by
 obtain ⟨sl,m⟩:=s
 refine Fn.mk Tryz.func200 rfl rfl fun w0 F=>?_
 (refine G.seq ?_;refine G.region ?_)
 refine GO.box rfl rfl rfl fun b3=>?_
 (refine GO.assign rfl rfl ?_;refine GO.nil ?_;refine ao ?_;refine G.seq ?_;refine G.region ?_;refine GO.fieldAddr rfl rfl ?_;refine GO.load1 rfl rfl rfl Tk.h rfl ?_;refine GO.move rfl rfl ?_)
 cases sl with
 | true=>
  (refine GO.gT rfl rfl rfl ?_;refine GO.load1 rfl rfl rfl (Tk.t Tk.h) rfl ?_;refine GO.gT rfl rfl rfl ?_;refine GO.not rfl rfl ?_;refine GO.pickT rfl rfl rfl ?_;refine GO.move rfl rfl ?_)
  cases lb with
  | true=>
   (refine GO.gT rfl rfl rfl ?_;refine GO.fieldAddr rfl rfl ?_;refine GO.gT rfl rfl rfl ?_;refine GO.load1 rfl rfl rfl Tk.h rfl ?_;refine GO.gT rfl rfl rfl ?_;refine GO.not rfl rfl ?_;refine GO.gT rfl rfl rfl ?_;refine GO.move rfl rfl ?_;refine GO.gF rfl rfl rfl rfl ?_;refine GO.gF rfl rfl rfl rfl ?_;refine GO.gF rfl rfl rfl rfl ?_;refine GO.gF rfl rfl rfl rfl ?_;refine GO.gF rfl rfl rfl rfl ?_;refine GO.gF rfl rfl rfl rfl ?_;refine GO.gT rfl rfl rfl ?_;refine GO.pickF rfl rfl rfl ?_;refine GO.pickF rfl rfl rfl ?_;refine GO.assign rfl rfl ?_;refine GO.nil ?_;refine ao ?_;refine G.ret ?_)
   refine KF.r1 rfl (RV.t rfl) ⟨rfl,rfl⟩ ?_
   exact SB
  | false=>
   (refine GO.gF rfl rfl rfl rfl ?_;refine GO.gF rfl rfl rfl rfl ?_;refine GO.gF rfl rfl rfl rfl ?_;refine GO.gF rfl rfl rfl rfl ?_;refine GO.gU rfl rfl rfl ?_;refine GO.gU rfl rfl rfl ?_;refine GO.gU rfl rfl rfl ?_;refine GO.gU rfl rfl rfl ?_;refine GO.gU rfl rfl rfl ?_;refine GO.gU rfl rfl rfl ?_;refine GO.gF rfl rfl rfl rfl ?_;refine GO.pickT rfl rfl rfl ?_;refine GO.assign rfl rfl ?_;refine GO.nil ?_;refine ao ?_;refine G.ret ?_)
   refine KF.r1 rfl (RV.t rfl) ⟨rfl,rfl⟩ ?_
   exact SB
 | false=>
  obtain ⟨h1,h2⟩:=hs rfl
  obtain ⟨k,hk⟩:=Int.eq_ofNat_of_zero_le h1
  dsimp only at h1 h2 hk
  subst hk
  have hkn:k < n:=by omega
  (refine GO.gF rfl rfl rfl rfl ?_;refine GO.gF rfl rfl rfl rfl ?_;refine GO.pickF rfl rfl rfl ?_;refine GO.move rfl rfl ?_;refine GO.gT rfl rfl rfl ?_;refine GO.fieldAddr rfl rfl ?_;refine GO.gT rfl rfl rfl ?_;refine GO.load1 rfl rfl rfl Tk.h rfl ?_;refine GO.gT rfl rfl rfl ?_;refine GO.not rfl rfl ?_;refine GO.gT rfl rfl rfl ?_;refine GO.move rfl rfl ?_;refine GO.gT rfl rfl rfl ?_;refine GO.load1 rfl rfl rfl (Tk.t (Tk.t Tk.h)) rfl ?_;refine GO.gT rfl rfl rfl ?_;refine GO.fieldAddr rfl rfl ?_;refine GO.gT rfl rfl rfl ?_;refine GO.load1 rfl rfl rfl Tk.h rfl ?_;refine GO.gT rfl rfl rfl ?_;refine GO.idxS rfl rfl rfl ⟨rfl,by omega⟩ ?_;refine GO.gT rfl rfl rfl ?_)
  refine GO.load1 rfl rfl rfl (by (exact (Tk.t (Tk.t (Tk.t Tk.h))))) (eo hkn) ?_
  (refine GO.gT rfl rfl rfl ?_;refine GO.not rfl rfl ?_;refine GO.gT rfl rfl rfl ?_;refine GO.pickT rfl rfl rfl ?_;refine GO.pickF rfl rfl rfl ?_;refine GO.assign rfl rfl ?_;refine GO.nil ?_;refine ao ?_;refine G.ret ?_)
  refine KF.r1 rfl (RV.t rfl) ⟨rfl,rfl⟩ ?_
  exact SB
theorem CA (o:Nat→Bool) (lb:Bool) (ss:List bi):(!ss.any fun s=>!symHas o lb s)=ss.all (symHas o lb):=by
 induction ss with
 | nil=>rfl
 | cons s ss ih=>simp only [List.any_cons,List.all_cons,← ih];cases symHas o lb s <;> simp
theorem q8 (q:HP) (v:Value) (o:Nat→Bool) (lb:Bool) (n bo:Nat) (ss:List bi) (hv:SymsR q v ss) (hs:∀ s∈ss,Ak n s) (hn:ss.length≤9223372036854775807) :
  Fn Tryz.prog 155 #[v,.slice (some ⟨bo,0,none⟩) n n,.bool lb] [q,pt bo (row (jk o n) 4)] (fun r Q=>r=.bool (ss.all (symHas o lb))∧Q=[q,pt bo (row (jk o n) 4)]):=by
 refine Fn.mk Tryz.func155 rfl rfl fun w0 F=>?_
 (refine G.seq ?_;refine G.region ?_)
 refine GO.box rfl rfl rfl fun b4=>?_
 refine GO.box rfl rfl rfl fun b5=>?_
 (refine GO.assign rfl rfl ?_;refine GO.nil ?_;refine ao ?_;refine G.seq ?_;refine G.region ?_;refine GO.move rfl rfl ?_)
 refine GO.makeFunc2 rfl rfl rfl ?_
 refine GO.call2 rfl rfl rfl (iH q v _ ss (fun s=>!symHas o lb s) (Dc o lb n bo b4 b5) hv (fun s hm=>FnV.of (caps:=[.pointer (some ⟨b5,0,none⟩),.pointer (some ⟨b4,0,none⟩)]) (Fn.framed (Rv:=fun r=>r=.bool (!symHas o lb s)) (A0 o lb n bo b4 b5 s (hs s hm)) [q])) hn)
  (Tks.c (Tk.t (Tk.t Tk.h)) (Tks.c Tk.h (Tks.c Tk.h (Tks.c Tk.h Tks.n)))) ?_
 rintro _ _ ⟨rfl,rfl⟩
 (refine GO.not rfl rfl ?_;refine GO.assign rfl rfl ?_;refine GO.nil ?_;refine ao ?_;refine G.ret ?_)
 refine KF.r1 rfl (RV.t rfl) ⟨by rw [CA],rfl⟩ ?_
 exact SB
def cloStep (lb:Bool) (o:Nat→Bool) (p:aF):(Nat→Bool) × Bool:=
 if o p.1.toNat || !p.2.all (symHas o lb) then (o,false) else (upd o p.1.toNat true,true)
abbrev D3 (lb:Bool) (n bo b3 b7:Nat) (o:Nat→Bool):List HP:=
 [pt b7 (row [.slice (some ⟨bo,0,none⟩) n n] 105),pt b3 (row [.bool lb] 4),pt bo (row (jk o n) 4)]
def AK (n:Int) (p:aF):Prop:=(0≤p.1∧p.1 < n)∧∀ s∈p.2,Ak n s
theorem zO (q:HP) (lb:Bool) (o:Nat→Bool) (n bo b3 b7:Nat) (p:aF) (bv:Value) (hb:SymsR q bv p.2) (hp:AK n p) (hn:p.2.length≤9223372036854775807) :
  Fn Tryz.prog 154 #[CF p bv,.pointer (some ⟨b7,0,none⟩),.pointer (some ⟨b3,0,none⟩)] (q::D3 lb n bo b3 b7 o) (fun r Q=>r=.bool (cloStep lb o p).2∧Q=q::D3 lb n bo b3 b7 (cloStep lb o p).1):=by
 obtain ⟨h,ss⟩:=p
 obtain ⟨⟨h1,h2⟩,hss⟩:=hp
 dsimp only at h1 h2
 obtain ⟨k,rfl⟩:=Int.eq_ofNat_of_zero_le h1
 have hkn:k < n:=by omega
 obtain ⟨ab,capb,rfl⟩:=hb.form
 refine Fn.mk Tryz.func154 rfl rfl fun w0 F=>?_
 (refine G.seq ?_;refine G.region ?_)
 refine GO.box rfl rfl rfl fun b3'=>?_
 (refine GO.assign rfl rfl ?_;refine GO.nil ?_;refine ao ?_;refine G.seq ?_;refine G.seq ?_;refine G.region ?_;refine GO.load1 rfl rfl rfl (Tk.t (Tk.t Tk.h)) rfl ?_;refine GO.fieldAddr rfl rfl ?_;refine GO.load1 rfl rfl rfl Tk.h rfl ?_;refine GO.idxS rfl rfl rfl ⟨rfl,by omega⟩ ?_)
 refine GO.load1 rfl rfl rfl (by (exact (Tk.t (Tk.t (Tk.t (Tk.t Tk.h)))))) (eo hkn) ?_
 refine GO.move rfl rfl ?_
 cases ho:o k with
 | true=>
  have e:cloStep lb o ((k:Int),ss)=(o,false):=by unfold cloStep;simp [ho]
  rw [e]
  (refine GO.gF rfl rfl rfl rfl ?_;refine GO.gF rfl rfl rfl rfl ?_;refine GO.gF rfl rfl rfl rfl ?_;refine GO.gF rfl rfl rfl rfl ?_;refine GO.gF rfl rfl rfl rfl ?_;refine GO.gF rfl rfl rfl rfl ?_;refine GO.pickT rfl rfl rfl ?_;refine GO.nil ?_;refine ao ?_;refine G.condT rfl rfl ?_;refine G.seq ?_;refine G.region ?_;refine GO.assign rfl rfl ?_;refine GO.nil ?_;refine ao ?_;refine G.ret ?_;refine gZ ?_)
  refine KF.r1 rfl (RV.t rfl) ⟨rfl,rfl⟩ ?_
  exact SB
 | false=>
  (refine GO.gT rfl rfl rfl ?_;refine GO.fieldAddr rfl rfl ?_;refine GO.gT rfl rfl rfl ?_;refine GO.load1 rfl rfl rfl Tk.h rfl ?_;refine GO.gT rfl rfl rfl ?_;refine GO.load1 rfl rfl rfl (Tk.t (Tk.t Tk.h)) rfl ?_;refine GO.gT rfl rfl rfl ?_;refine GO.load1 rfl rfl rfl (Tk.t (Tk.t (Tk.t Tk.h))) rfl ?_;refine GO.gT rfl rfl rfl ?_)
  refine GO.call3 rfl rfl rfl rfl (q8 q _ o lb n bo ss hb hss hn) (Tks.c (Tk.t Tk.h) (Tks.c (Tk.t (Tk.t (Tk.t Tk.h))) Tks.n)) ?_
  rintro _ _ ⟨rfl,rfl⟩
  cases ha:ss.all (symHas o lb) with
  | false=>
   have e:cloStep lb o ((k:Int),ss)=(o,false):=by unfold cloStep;simp [ho,ha]
   rw [e]
   (refine GO.gT rfl rfl rfl ?_;refine GO.not rfl rfl ?_;refine GO.pickF rfl rfl rfl ?_;refine GO.nil ?_;refine ao ?_;refine G.condT rfl rfl ?_;refine G.seq ?_;refine G.region ?_;refine GO.assign rfl rfl ?_;refine GO.nil ?_;refine ao ?_;refine G.ret ?_;refine gZ ?_)
   refine KF.r1 rfl (RV.t rfl) ⟨rfl,rfl⟩ ?_
   exact SB
  | true=>
   have e:cloStep lb o ((k:Int),ss)=(upd o k true,true):=by unfold cloStep;simp [ho,ha]
   rw [e]
   (refine GO.gT rfl rfl rfl ?_;refine GO.not rfl rfl ?_;refine GO.pickF rfl rfl rfl ?_;refine GO.nil ?_;refine ao ?_;refine G.condF rfl rfl ?_;refine G.skip ?_;refine ao ?_;refine G.seq ?_;refine G.region ?_;refine GO.load1 rfl rfl rfl (Tk.t (Tk.t (Tk.t Tk.h))) rfl ?_;refine GO.fieldAddr rfl rfl ?_;refine GO.load1 rfl rfl rfl (Tk.t (Tk.t Tk.h)) rfl ?_;refine GO.idxS rfl rfl rfl ⟨rfl,by omega⟩ ?_)
   refine GO.store1 rfl rfl rfl (by (exact (Tk.t Tk.h))) (by rw [oH];omega) ?_
   rw [oG]
   (refine GO.nil ?_;refine ao ?_;refine G.seq ?_;refine G.region ?_;refine GO.assign rfl rfl ?_;refine GO.nil ?_;refine ao ?_;refine G.ret ?_)
   refine KF.r1 rfl (RV.t rfl) ⟨rfl,rfl⟩ ?_
   exact SB
end Pr
namespace Pr
attribute [local irreducible] G GO GR GT Fn FnV pt init exs pur sat own ImpS
theorem AR {C:CnfD} (h:okC C=true):(1≤C.nts∧C.nts≤1024)∧∀ p∈C.prods,AK C.nts p:=by
 unfold okC at h
 simp only [Bool.and_eq_true,List.all_eq_true,Bool.not_eq_true',Bool.or_eq_false_iff,decide_eq_false_iff_not] at h
 obtain ⟨⟨h1,h2⟩,h3⟩:=h
 refine ⟨⟨by omega,by omega⟩,fun p hp=>?_⟩
 have:=h3 p hp
 rw [iQ] at this
 simp only [Bool.and_eq_true,decide_eq_true_eq,List.all_eq_true] at this
 refine ⟨this.1,fun s hs hl=>?_⟩
 have:=this.2 s hs
 unfold symOK at this
 rw [hl] at this
 simp at this
 omega
def tu (o:Nat→Bool) (n:Nat):Nat:=(List.range n).countP fun i=>!o i
theorem zF {o:Nat→Bool} {n k:Nat} (hk:k < n) (ho:o k=false):tu (upd o k true) n < tu o n:=by
 have:=fx (f:=fun i=>!o i) (g:=fun i=>!(upd o k true) i) (i:=k) (by simp [ho]) (by simp [upd]) (fun j hj=>by simp [upd,hj]) (List.range n) List.nodup_range (by simpa using hk)
 unfold tu;omega
def Dt (C:CnfD) (lb:Bool) (q:HP) (r:Value) (Q:List HP):Prop:=
 (okC C=true∧∃ b o,r=.tuple [.slice (some ⟨b,0,none⟩) C.nts.toNat C.nts.toNat,i64 0].toArray∧Reach (cloStep lb) C.prods (fun _=>false) o∧(∀ p∈C.prods,(cloStep lb o p).2=false)∧Q=[pt b (row (jk o C.nts.toNat) 4),q]) ∨
 (okC C=false∧r=.tuple [.slice none 0 0,i64 220].toArray∧Q=[q])
theorem vI (q:HP) (v:Value) (C:CnfD) (lb:Bool) (hv:CnfR q v C) (hz:Fits C):Fn Tryz.prog 103 #[v,.bool lb] [q] (Dt C lb q):=by
 have hv0:=hv
 obtain ⟨pv,rfl,hp⟩:=hv
 obtain ⟨a0,cap0,rfl⟩:=hp.form
 refine Fn.mk Tryz.func103 rfl rfl fun w0 F=>?_
 (refine G.seq ?_;refine G.region ?_)
 refine GO.box rfl rfl rfl fun b2=>?_
 refine GO.box rfl rfl rfl fun b3=>?_
 (refine GO.assign rfl rfl ?_;refine GO.assign rfl rfl ?_;refine GO.nil ?_;refine ao ?_;refine G.seq ?_;refine G.seq ?_;refine G.region ?_)
 refine GO.loadW rfl rfl rfl (Tk.t Tk.h) rfl ?_
 refine GO.call1 rfl rfl (check_spec q _ C hv0 hz) (Tks.c (Tk.t (Tk.t Tk.h)) Tks.n) ?_
 rintro _ _ ⟨rfl,rfl⟩
 cases hok:okC C with
 | false=>
  have hcv:(if false=true then (0:Int) else 220)=220:=rfl
  rw [hcv]
  (refine GO.assign rfl rfl ?_;refine GO.nil ?_;refine ao ?_;refine G.seq ?_;refine G.region ?_;refine GO.move rfl rfl ?_;refine GO.nei rfl rfl rfl ?_;refine GO.nil ?_;refine ao ?_;refine G.condT rfl rfl ?_;refine G.seq ?_;refine G.region ?_;refine GO.move rfl rfl ?_;refine GO.assign rfl rfl ?_;refine GO.assign rfl rfl ?_;refine GO.nil ?_;refine ao ?_;refine G.ret ?_;refine gZ ?_)
  refine KF.r2 rfl (RV.t rfl) (RV.t rfl) (.inr ⟨hok,rfl,rfl⟩) ?_
  exact SB
 | true=>
  have hcv:(if true=true then (0:Int) else 220)=0:=rfl
  rw [hcv]
  obtain ⟨⟨hn1,hn2⟩,hin⟩:=AR hok
  (refine GO.assign rfl rfl ?_;refine GO.nil ?_;refine ao ?_;refine G.seq ?_;refine G.region ?_;refine GO.move rfl rfl ?_;refine GO.neF rfl rfl rfl rfl ?_;refine GO.nil ?_;refine ao ?_;refine G.condF rfl rfl ?_;refine G.skip ?_;refine ao ?_;refine G.seq ?_;refine G.region ?_;refine GO.fieldAddr rfl rfl ?_;refine GO.load1 rfl rfl rfl (Tk.t (Tk.t Tk.h)) rfl ?_)
  refine GO.make1 (n:=C.nts.toNat) rfl rfl rfl ⟨by omega,by omega⟩ ⟨by omega,by omega⟩ fun bo=>?_
  rw [oI (f:=Value.bool)]
  refine GO.alloc rfl fun b7=>?_
  refine GO.store1 rfl rfl rfl Tk.h (by decide) ?_
  (refine GO.nil ?_;refine ao ?_;refine G.seq ?_;refine G.region ?_)
  refine GO.loadW rfl rfl rfl (Tk.t (Tk.t (Tk.t (Tk.t Tk.h)))) rfl ?_
  refine GO.makeFunc2 rfl rfl rfl ?_
  refine GO.call2 rfl rfl rfl (zA q _ _ C hv0 hz (D3 lb C.nts.toNat bo b3 b7) (fun _=>True) (cloStep lb) (fun o=>tu o C.nts.toNat)
   (fun o p _ hpm bv hb=>FnV.of (caps:=[.pointer (some ⟨b7,0,none⟩),.pointer (some ⟨b3,0,none⟩)]) (zO q lb o C.nts.toNat bo b3 b7 p bv hb (by have:=hin p hpm;rw [Int.toNat_of_nonneg (by omega)];exact this) (by have:=hz.2 p hpm;omega)))
   (fun _ _ _ _=>trivial)
   (fun o p _ hpm h=>by
    unfold cloStep at h ⊢
    obtain ⟨⟨h1,h2⟩,_⟩:=hin p hpm
    split at h
    ·cases h
    ·rename_i hc
     rw [if_neg hc]
     simp at hc
     exact zF (by omega) hc.1)
   (fun o p h=>by unfold cloStep at h ⊢;split at h <;> simp_all) (fun _=>false) trivial) (Tks.c (Tk.t (Tk.t Tk.h)) (Tks.c Tk.h (Tks.c (Tk.t Tk.h) (Tks.c Tk.h Tks.n)))) ?_
  rintro _ _ ⟨o,_,hR,hst,rfl⟩
  (refine GO.nil ?_;refine ao ?_;refine G.seq ?_;refine G.region ?_;refine GO.load1 rfl rfl rfl (Tk.t Tk.h) rfl ?_;refine GO.assign rfl rfl ?_;refine GO.assign rfl rfl ?_;refine GO.nil ?_;refine ao ?_;refine G.ret ?_)
  refine KF.r2 rfl (RV.t rfl) (RV.t rfl) (.inl ⟨hok,bo,o,rfl,hR,hst,rfl⟩) ?_
  exact SB
theorem wT (q:HP) (v:Value) (C:CnfD) (hv:CnfR q v C) (hz:Fits C):Fn Tryz.prog 41 #[v] [q] (Dt C false q):=by
 have hv0:=hv
 obtain ⟨pv,rfl,hp⟩:=hv
 obtain ⟨a0,cap0,rfl⟩:=hp.form
 refine Fn.mk Tryz.func41 rfl rfl fun w0 F=>?_
 (refine G.seq ?_;refine G.region ?_)
 refine GO.box rfl rfl rfl fun b1=>?_
 (refine GO.assign rfl rfl ?_;refine GO.assign rfl rfl ?_;refine GO.nil ?_;refine ao ?_;refine G.seq ?_;refine G.region ?_)
 refine GO.loadW rfl rfl rfl Tk.h rfl ?_
 refine GO.call2 rfl rfl rfl (vI q _ C false hv0 hz) (Tks.c (Tk.t Tk.h) Tks.n) ?_
 rintro _ _ (⟨hok,b,o,rfl,hR,hst,rfl⟩ | ⟨hok,rfl,rfl⟩)
 ·(refine GO.extract rfl rfl rfl ?_;refine GO.extract rfl rfl rfl ?_;refine GO.assign rfl rfl ?_;refine GO.assign rfl rfl ?_;refine GO.nil ?_;refine ao ?_;refine G.ret ?_)
  refine KF.r2 rfl (RV.t rfl) (RV.t rfl) (.inl ⟨hok,b,o,rfl,hR,hst,rfl⟩) ?_
  exact SB
 ·(refine GO.extract rfl rfl rfl ?_;refine GO.extract rfl rfl rfl ?_;refine GO.assign rfl rfl ?_;refine GO.assign rfl rfl ?_;refine GO.nil ?_;refine ao ?_;refine G.ret ?_)
  refine KF.r2 rfl (RV.t rfl) (RV.t rfl) (.inr ⟨hok,rfl,rfl⟩) ?_
  exact SB
end Pr
namespace Pr
attribute [local irreducible] G GO GR GT Fn FnV pt init exs pur sat own ImpS
def IntsR (q:HP) (v:Value) (l:List Int):Prop:=Sl q v l.length 1 (dp l)
theorem IntsR.form {q:HP} {v:Value} {l:List Int} (h:IntsR q v l):∃ a cap,v=.slice a l.length cap:=let ⟨a,cap,e,_⟩:=h;⟨a,cap,e⟩
theorem IntsR.at {q:HP} {a:Option Addr} {n cap k:Nat} {l:List Int} {x:Int} (h:IntsR q (.slice a n cap) l) (hk:l[k]?=some x) :
  ∃ b o,a=some ⟨b,o,none⟩∧n=l.length∧Rd q ⟨b,o+k * 1,none⟩ (i64 x):=by
 obtain ⟨a',cap',e,hl,hr⟩:=h
 injection e with e1 e2 e3
 subst e1 e2
 have hlt:=(List.getElem?_eq_some_iff.1 hk).1
 obtain ⟨b,o,rfl,hr'⟩:=hr (by omega)
 exact ⟨b,o,rfl,rfl,hr' _ _ (by rw [Nat.mul_one];exact zo hk)⟩
theorem IntsR.sup {q q':HP} (h:Sup q q') {v:Value} {l:List Int} (k:IntsR q v l):IntsR q' v l:=Sl.sup h k
end Pr
namespace Pr
attribute [local irreducible] G GO GR GT Fn FnV pt init exs pur sat own ImpS
theorem cloneS_spec (q:HP) (v:Value) (ss:List bi) (hv:SymsR q v ss) (hz:ss.length * 16≤140737488355328):Fn Tryz.prog 108 #[v] [q] (fun r Q=>∃ z,SymsR z r ss∧Q=[z,q]):=by
 obtain ⟨a,cap,rfl⟩:=hv.form
 refine Fn.mk Tryz.func108 rfl rfl fun w0 F=>?_
 apply Ru
 cases a with
 | none=>
  have hss:ss=[]:=by
   obtain ⟨a',cap',e,_,hr⟩:=hv
   injection e with e1 _ _
   subst e1
   cases ss with
   | nil=>rfl
   | cons s ss=>obtain ⟨b,o,h,_⟩:=hr (by simp);cases h
  subst hss
  refine G.imp (H':=pur True::_) (fun l w s=>bF.2 ⟨trivial,s⟩) ?_
  (refine G.condT rfl rfl ?_;apply Ru)
  refine KF.r1 rfl (RV.t rfl) ⟨pur True,⟨none,0,rfl,rfl,fun h=>by simp at h⟩,rfl⟩ ?_
  exact SB
 | some a=>
  (refine G.condF rfl rfl ?_;apply Ru)
  refine GO.buildSlice0 rfl fun v5=>?_
  apply Ru
  refine GO.appendFrom (m:=ss.length) (q:=q) rfl rfl rfl Tk.h Tk.h hv (yk _) ⟨by decide,rfl⟩ (by unfold maxLen;omega) (by omega) fun v7=>?_
  rw [List.nil_append,Nat.zero_add ss.length]
  refine GO.ownRd Tk.h fun q5 h5=>?_
  apply Ru
  refine KF.r1 rfl (RV.t rfl) ⟨q5,h5,rfl⟩ ?_
  exact SB
end Pr
namespace Pr
open Go Go.Sort Go.Shelf Go.RowKit
abbrev PV (z:HP):={ x:aF × Value // SymsR z x.2 x.1.2∧¬ 140737488355328 < x.1.2.length }
instance (z:HP):Inhabited (PV z):=⟨⟨((0,[]),.slice none 0 0),⟨none,0,rfl,rfl,fun h=>absurd h (by simp)⟩,by simp⟩⟩
def np {z:HP} (x:PV z):List Value:=[i64 x.1.1.1,x.1.2]
theorem zJ {z:HP} (x:PV z):∀ v∈np x,v.oneCell'=true:=by
 intro v hv
 simp only [np,List.mem_cons,List.not_mem_nil,or_false] at hv
 rcases hv with rfl | rfl
 ·rfl
 ·obtain ⟨a,cap,e⟩:=x.2.1.form
  rw [e];rfl
def vH {z:HP} (x y:PV z):Int:=jD x.1.1 y.1.1
theorem m7 {z:HP} (x y:PV z):Go.Proofs.ltOf vH x y=ew x.1.1 y.1.1:=by
 unfold Go.Proofs.ltOf vH
 rw [Bool.eq_iff_iff,decide_eq_true_iff]
 exact wz
theorem Dg (z:HP):SWO (Go.Proofs.ltOf (vH (z:=z))) where
 irrefl x:=by rw [m7];exact prodLt_irr _
 trans x y w h k:=by rw [m7] at *;exact iS h k
 ntrans x y w h k:=by
  rw [m7] at *
  by_cases e1:x.1.1=y.1.1
  ·rw [e1];exact k
  ·by_cases e2:y.1.1=w.1.1
   ·rw [← e2];exact h
   ·have h1:=iR e1
    have h2:=iR e2
    rw [h] at h1
    rw [k] at h2
    have h3:=iS (p:=w.1.1) (q:=y.1.1) (r:=x.1.1) (by simpa using h2) (by simpa using h1)
    by_cases e3:x.1.1=w.1.1
    ·rw [e3];exact prodLt_irr _
    ·rw [iR e3,h3];rfl
theorem SymsR.init {z:HP} {v:Value} {ss:List bi} (h:SymsR z v ss) {l:List HP} {W:World} (s:sat (z::l) W):SymsR (Go.Proofs.YtkeialpeabhaaaaGreat.init W) v ss:=by
 obtain ⟨a,cap,e,hl,hr⟩:=h
 exact ⟨a,cap,e,hl,fun h0=>let ⟨b,o,e1,h1⟩:=hr h0;⟨b,o,e1,fun j u hj=>Rd.init (h1 j u hj l W s)⟩⟩
theorem Cp.pv {z:HP}:∀ {ps:List aF} {xs:List (Int × Value)},Cp z ps xs→(∀ p∈ps,¬ 140737488355328 < p.2.length)→∃ ys:List (PV z),ys.flatMap np=pvs xs∧ys.map (fun y=>y.1.1)=ps∧ys.length=xs.length
 | [],[],_,_=>⟨[],rfl,rfl,rfl⟩
 | p::ps,x::xs,h,hb=>by
  obtain ⟨ys,h1,h2,h3⟩:=Cp.pv h.2 fun q hq=>hb q (List.mem_cons_of_mem _ hq)
  refine ⟨⟨(p,x.2),h.1.2,hb p (List.mem_cons_self ..)⟩::ys,?_,by rw [List.map_cons,h2],by rw [List.length_cons,List.length_cons,h3]⟩
  rw [List.flatMap_cons,h1]
  show [i64 p.1,x.2]++pvs xs=_
  rw [← h.1.1];rfl
 | [],_::_,h,_=>h.elim
 | _::_,[],h,_=>h.elim
theorem ui {z:HP}:∀ ys:List (PV z),∃ xs,Cp z (ys.map fun y=>y.1.1) xs∧ys.flatMap np=pvs xs∧xs.length=ys.length
 | []=>⟨[],trivial,rfl,rfl⟩
 | y::ys=>by
  obtain ⟨xs,h1,h2,h3⟩:=ui ys
  exact ⟨(y.1.1.1,y.1.2)::xs,⟨⟨rfl,y.2.1⟩,h1⟩,by rw [List.flatMap_cons,h2];rfl,by rw [List.length_cons,List.length_cons,h3]⟩
attribute [local irreducible] pt Go.Proofs.YtkeialpeabhaaaaGreat.init exs pur sat own ImpS symsV
theorem yw (z:HP) (xs:List (PV z)) (b n cap:Nat) (hn:n=xs.length) (hsz:n < 4611686018427387904) (rest:List Value) :
  Fn Tryz.prog 79 #[.slice (some ⟨b,0,none⟩) n cap,.func (.func 80) #[] #[]] [pt b (row (xs.flatMap np++rest) 82),z]
   (fun r Q=>r=.tuple #[]∧∃ ys:List (PV z),ys.Perm xs∧ys.Pairwise (fun x y=>Go.Proofs.ltOf vH y x=false)∧Q=[pt b (row (ys.flatMap np++rest) 82),z]):=
 Aw sortP 2 (fun w=>eY (P:=Tryz.prog) (t:=82) w) (fun w=>bJ (P:=Tryz.prog) (t:=82) w) np (fun _=>rfl) zJ vH (Dg z) 80 #[] (Cal.out (P:=Tryz.prog)) z
  (fun W x=>SymsR (Go.Proofs.YtkeialpeabhaaaaGreat.init W) x.1.2 x.1.1.2) (fun x W l s=>x.2.1.init s) (fun x y W hx hy=>gp (Go.Proofs.YtkeialpeabhaaaaGreat.init W) x.1.1 y.1.1 x.1.2 y.1.2 hx hy x.2.2) 82 xs b n cap hn hsz rest
theorem yx (z:HP) (v:Value) (ps:List aF) (xs:List (Int × Value)) (hc:Cp z ps xs) (hb:∀ p∈ps,¬ 140737488355328 < p.2.length) (hsz:xs.length < 4611686018427387904) :
  Fn Tryz.prog 79 #[v,.func (.func 80) #[] #[]] [own 82 2 xs.length v (pvs xs),z]
   (fun r Q=>r=.tuple #[]∧∃ qs ys,Cp z qs ys∧Srt qs∧(∀ p,p∈qs↔p∈ps)∧ys.length=xs.length∧Q=[own 82 2 ys.length v (pvs ys),z]):=by
 intro F w s
 obtain ⟨as_,e1,e2,e3⟩:=hc.pv hb
 have s:sat (own 82 2 xs.length v (pvs xs)::z::F) w:=s
 rcases bK s with ⟨rfl,hx0,hx,s'⟩ | ⟨b,cap,rest,rfl,hx,h1,h2,h3,s'⟩
 ·have hxn:xs=[]:=List.eq_nil_of_length_eq_zero hx0
  subst hxn
  have hpn:ps=[]:=List.eq_nil_of_length_eq_zero hc.len.symm
  subst hpn
  refine callsIn_wide.2 ((Go.Proofs.AnyF.slices_SortFunc_none sortP none 0 _ w).mono ?_)
  rintro e w' ⟨rfl,rfl⟩
  exact ⟨_,_,rfl,Same.refl _,⟨rfl,[],[],trivial,List.Pairwise.nil,fun p=>Iff.rfl,rfl,rfl⟩,s⟩
 ·rw [← e1] at s'
  refine (yw z as_ b xs.length cap e3.symm hsz rest F w s').mono ?_
  rintro e w' ⟨_,_,rfl,sm,⟨rfl,ys,hp,hs,rfl⟩,q⟩
  obtain ⟨zs,g1,g2,g3⟩:=ui ys
  have hzl:zs.length=xs.length:=by rw [g3,hp.length_eq,e3]
  have q:sat (pt b (row (ys.flatMap np++rest) 82)::z::F) w':=q
  rw [g2] at q
  have hl2:(pvs zs).length=zs.length * 2:=kF zs
  refine ⟨_,_,rfl,sm,⟨rfl,ys.map (fun y=>y.1.1),zs,g1,?_,fun p=>?_,hzl,rfl⟩,?_⟩
  ·refine List.pairwise_map.2 (hs.imp fun {x y} h=>?_)
   rw [m7] at h;exact h
  ·rw [← e2]
   exact (hp.map _).mem_iff
  ·rw [hzl]
   exact dM rfl (by rw [hl2,hzl]) h1 h2 (by rw [List.length_append,hl2,hzl,← h3,List.length_append,hx]) q
end Pr
namespace Pr
attribute [local irreducible] G GO GR GT Fn FnV pt init exs pur sat own ImpS symsV
theorem sM (v:Value):Fn Tryz.prog 78 #[v] [] (fun r Q=>r=.tuple #[]∧Q=[]):=by
 refine Fn.mk2 Tryz.func78 rfl rfl fun w0 F=>?_
 apply Ru
 refine KF2.n0 rfl ⟨rfl,rfl⟩ (ImpS.sb ?_)
 exact SB
theorem y4 (q:HP) (v:Value) (C:CnfD) (hv:CnfR q v C) (hz:Fits C) :
  Fn Tryz.prog 77 #[v,.func (.func 78) #[] #[]] [q] (fun r Q=>∃ pv' xs z,r=.agg #[i64 C.nts,pv']∧pv'.oneCell'=true∧Cp z C.prods xs∧Q=[own 82 2 xs.length pv' (pvs xs),z,q]):=by
 have hz1:=hz.1
 obtain ⟨pv,rfl,hp⟩:=hv
 obtain ⟨a0,cap0,rfl⟩:=hp.form
 refine Fn.mk2 Tryz.func77 rfl rfl fun w0 F=>?_
 (apply Ru;refine sbx fun b2=>?_;refine sal fun b4=>?_;apply Ru)
 refine GO.buildPart1 (sv _) rfl rfl ?_
 (refine sal fun b5=>?_;apply Ru)
 refine G.ownNil (T:=82) (sz:=2) ?_
 refine G.imp (H':=pur True::_) (fun l w s=>bF.2 ⟨trivial,s⟩) ?_
 refine G.loop4 (fun (k:Nat) (_:Value) (_:List (Int × Value)) (_:HP)=>[(1,.func (.func 78) #[] #[]),(2,.pointer (some ⟨b2,0,none⟩)),(4,.pointer (some ⟨b4,0,none⟩)),(5,.pointer (some ⟨b5,0,none⟩)),(13,.slice a0 C.prods.length cap0),(14,i64 (C.prods.length:Nat)),(15,i64 (k:Nat))])
  (fun k pv xs z=>own 82 2 xs.length pv (pvs xs)::pt b5 (row [i64 C.nts,pv] 33)::z::q::pt b4 (row [i64 0,.slice none 0 0] 33)::F)
  (fun k pv xs z=>k≤C.prods.length∧xs.length=k∧Cp z (C.prods.take k) xs) (fun k _ _ _=>C.prods.length - k) 0 (.slice none 0 0) [] (pur True) ⟨Nat.zero_le _,rfl,by rw [List.take_zero];trivial⟩ ?_ ?_ ?_
 ·exact SE rfl
 ·((refine Sb.c (Tk.t Tk.h) ?_;exact SB);skip)
 ·rintro k pv xs z ⟨hk,hxk,hc⟩
  apply Ru
  refine G.condD rfl (fun hlt=>?_) (fun hge=>?_)
  ·obtain ⟨p,hpk⟩:∃ p,C.prods[k]?=some p:=⟨_,List.getElem?_eq_getElem (by omega)⟩
   have hz2:=hz.2 p (List.mem_of_getElem? hpk)
   obtain ⟨b,o,bv,rfl,_,r1,r2,hs⟩:=hp.at hpk
   obtain ⟨ab,capb,rfl⟩:=hs.form
   have htk:C.prods.take (k+1)=C.prods.take k++[p]:=by rw [List.take_add_one,hpk];rfl
   (apply Ru;refine six ?_;refine sl2 (by assumption) (by assumption) ?_;refine sal fun b7=>?_;apply Ru)
   refine scl (cloneS_spec q _ p.2 hs hz2) ?_
   rintro bv5 _ ⟨z5,h5,rfl⟩
   obtain ⟨a5,cap5,rfl⟩:=h5.form
   have hcall:=FnV.of (args:=[.slice a5 p.2.length cap5]) (caps:=[]) (sM (.slice a5 p.2.length cap5))
   apply Ru
   refine GO.callV1 rfl rfl rfl hcall Tks.n ?_
   rintro _ _ ⟨rfl,rfl⟩
   refine GO.mem (H':=own 82 2 xs.length pv (pvs xs)::pt b5 (row [i64 C.nts,pv] 33)::z5::z::pt b7 (row [i64 p.1,.slice ab p.2.length capb] 82)::q::pt b4 (row [i64 0,.slice none 0 0] 33)::F) SB ?_
   refine GO.ownOne Tk.h fun hone=>?_
   apply Ru
   refine GO.buildSlice1 (n:=2) (v1:=.agg #[i64 p.1,.slice a5 p.2.length cap5]) rfl rfl (fun v hv=>by rw [List.mem_singleton.1 hv];rfl) rfl ⟨by omega,by omega⟩ fun b6=>?_
   refine GO.appendOwn (m:=1) (news:=[i64 p.1,.slice a5 p.2.length cap5]) rfl rfl rfl (Tk.t Tk.h) Tk.h rfl (by simp [Value.oneCell']) ⟨by decide,rfl⟩ Nat.one_pos (by unfold maxLen;omega) (by omega) fun v2=>?_
   refine GO.ownOne Tk.h fun hone2=>?_
   rw [show pvs xs++[i64 p.1,.slice a5 p.2.length cap5]=pvs (xs++[(p.1,.slice a5 p.2.length cap5)]) from (ei xs [(p.1,Value.slice a5 p.2.length cap5)]).symm,show xs.length+1=(xs++[(p.1,Value.slice a5 p.2.length cap5)]).length by simp]
   have hc2:=Cp.snoc (z:=aL [z5,z]) (p:=p) (x:=(p.1,.slice a5 p.2.length cap5)) rfl (h5.sup (Sup.left _ _)) (hc.sup (Sup.right z5 z))
   have hxl:(xs++[(p.1,Value.slice a5 p.2.length cap5)]).length=k+1:=by simp;exact hxk
   generalize xs++[(p.1,Value.slice a5 p.2.length cap5)]=xs2 at hc2 hxl ⊢
   refine GO.merge (x:=z5) (y:=z) (Tks.c (Tk.t (Tk.t (Tk.t Tk.h))) (Tks.c (Tk.t (Tk.t (Tk.t Tk.h))) Tks.n)) ?_
   (apply Ru;refine GO.store1 rfl rfl (by assumption) (Tk.t (Tk.t (Tk.t Tk.h))) (by simp) ?_;apply Ru;refine sad ?_)
   refine ⟨k+1,v2,xs2,aL [z5,z],⟨by omega,hxl,by rw [htk];exact hc2⟩,by omega,?_,?_⟩
   ·exact SE rfl
   ·((refine Sb.c (Tk.t (Tk.t Tk.h)) ?_;refine Sb.c Tk.h ?_;exact SB);skip)
  ·have e:k=C.prods.length:=by omega
   rw [e,List.take_length] at hc
   refine G.ownOne Tk.h fun hone=>?_
   (apply Ru;refine GO.loadW rfl rfl rfl (Tk.t Tk.h) rfl ?_;refine GO.storeW rfl rfl (Tk.t (Tk.t (Tk.t (Tk.t Tk.h)))) ⟨rfl,rfl⟩ (by simp [Value.oneCell'];assumption) ?_;apply Ru)
   refine KF2.r1 rfl (RV.cW rfl rfl Tk.h rfl) ⟨pv,xs,z,rfl,hone,hc,rfl⟩ (ImpS.sb ?_)
   exact SB
theorem uI {C:CnfD} (hz:Fits C):∀ p∈C.prods,¬ 140737488355328 < p.2.length:=fun p hp=>by
 have:=hz.2 p hp
 omega
theorem sorted_spec (q:HP) (v:Value) (C:CnfD) (hv:CnfR q v C) (hz:Fits C) :
  Fn Tryz.prog 33 #[v] [q] (fun r Q=>∃ pv' xs z zs,r=.agg #[i64 C.nts,pv']∧Cp z zs xs∧Ups zs∧(∀ p,p∈zs↔p∈C.prods)∧Q=[own 82 2 xs.length pv' (pvs xs),z,q]):=by
 have hz1:=hz.1
 have hw:=y4 q v C hv hz
 obtain ⟨pv,rfl,hp⟩:=hv
 obtain ⟨a0,cap0,rfl⟩:=hp.form
 refine Fn.mk2 Tryz.func33 rfl rfl fun w0 F=>?_
 (apply Ru;refine sbx fun b1=>?_;refine sal fun b2=>?_;apply Ru;refine GO.loadW rfl rfl rfl (Tk.t Tk.h) rfl ?_)
 refine scl (hw) ?_
 rintro _ _ ⟨pv',xs,z,rfl,hone,hc,rfl⟩
 have hcl:=hc.len
 (refine sal fun b3=>?_;refine GO.storeW rfl rfl Tk.h ⟨rfl,rfl⟩ (by simp [Value.oneCell'];assumption) ?_;apply Ru)
 refine scl (yx z pv' C.prods xs hc (uI hz) (by omega)) ?_
 rintro _ _ ⟨rfl,qs,ys,hq,hs,hqm,hyl,rfl⟩
 apply Ru
 refine scl (qG z pv' ys qs hq hs (by omega) (fun p hp=>uI hz p ((hqm p).1 hp))) ?_
 rintro pv2 _ ⟨zs,us,hzc,hzu,hzm,hul,rfl⟩
 refine GO.ownOne Tk.h fun hone2=>?_
 (apply Ru;refine GO.store1 rfl rfl (by assumption) (Tk.t (Tk.t Tk.h)) (by simp) ?_;apply Ru;refine GO.loadW rfl rfl rfl Tk.h rfl ?_;refine GO.storeW rfl rfl (Tk.t (Tk.t (Tk.t (Tk.t Tk.h)))) ⟨rfl,rfl⟩ (by simp [Value.oneCell'];assumption) ?_;apply Ru)
 refine KF2.r1 rfl (RV.cW rfl rfl Tk.h rfl) ⟨pv2,us,z,zs,rfl,hzc,hzu,fun p=>(hzm p).trans (hqm p),rfl⟩ (ImpS.sb ?_)
 exact SB
def Dq (C:CnfD) (q:HP) (r:Value) (Q:List HP):Prop:=
 (okC C=true∧∃ pv' xs z zs,r=.tuple #[.agg #[i64 C.nts,pv'],i64 0]∧Cp z zs xs∧Ups zs∧(∀ p,p∈zs↔p∈C.prods)∧Q=[own 82 2 xs.length pv' (pvs xs),z,q]) ∨
 (okC C=false∧r=.tuple #[.agg #[i64 0,.slice none 0 0],i64 220]∧Q=[q])
theorem sort_spec (q:HP) (v:Value) (C:CnfD) (hv:CnfR q v C) (hz:Fits C) :
  Fn Tryz.prog 43 #[v] [q] (Dq C q):=by
 have hck:=check_spec q v C hv hz
 have hso:=sorted_spec q v C hv hz
 obtain ⟨pv,rfl,hp⟩:=hv
 obtain ⟨a0,cap0,rfl⟩:=hp.form
 cases hok:okC C with
 | true=>
  rw [hok,if_pos rfl] at hck
  refine Fn.mk2 Tryz.func43 rfl rfl fun w0 F=>?_
  (apply Ru;refine sbx fun b1=>?_;refine sal fun b2=>?_;apply Ru;refine GO.loadW rfl rfl rfl (Tk.t Tk.h) rfl ?_)
  refine scl (hck) ?_
  rintro _ _ ⟨rfl,rfl⟩
  (apply Ru;refine GO.loadW rfl rfl rfl (Tk.t (Tk.t Tk.h)) rfl ?_)
  refine scl (hso) ?_
  rintro _ _ ⟨pv',xs,z,zs,rfl,hc,hu,hm,rfl⟩
  refine GO.ownOne Tk.h fun hone=>?_
  (refine GO.storeW rfl rfl (Tk.t (Tk.t (Tk.t Tk.h))) ⟨rfl,rfl⟩ (by simp [Value.oneCell'];assumption) ?_;apply Ru)
  refine KF2.r2 rfl (RV.cW rfl rfl Tk.h rfl) (RV.t rfl) (.inl ⟨hok,pv',xs,z,zs,rfl,hc,hu,hm,rfl⟩) (ImpS.sb ?_)
  exact SB
 | false=>
  rw [hok,if_neg (by simp)] at hck
  refine Fn.mk2 Tryz.func43 rfl rfl fun w0 F=>?_
  (apply Ru;refine sbx fun b1=>?_;refine sal fun b2=>?_;apply Ru;refine GO.loadW rfl rfl rfl (Tk.t Tk.h) rfl ?_)
  refine scl (hck) ?_
  rintro _ _ ⟨rfl,rfl⟩
  (apply Ru;refine G.condT rfl rfl ?_;apply Ru)
  refine KF2.r2 rfl (RV.cW rfl rfl Tk.h rfl) (RV.t rfl) (.inr ⟨hok,rfl,rfl⟩) (ImpS.sb ?_)
  exact SB
end Pr
namespace Pr
section
variable {P:Program} {b:Frame} {a:Act} {k:List Item} {cs:List Frame} {w:World} {Q:Exit→Act→World→Prop} {F:Fence} {n:Nat}
theorem bS {c:Code}:step P (lone (b.atR a (.code (.scope c)::k)) cs w)=.next (lone (b.atR a (.code c::.inScope c::k)) cs w):=
 step_lone_go (by simp [stepG,stepG.exec,Frame.atR])
theorem fA {c:Code}:step P (lone (b.atR a (.inScope c::k)) cs w)=.next (lone (b.atR a k) cs w):=
 step_lone_go (by simp [stepG,stepG.exec,Frame.atR])
theorem w9 {c:Code} (h:c.wpIn F n P (Exit.noGoto Q) a w):(Code.scope c).wpIn F n P Q a w:=by
 intro b k cs hro hb hr
 have h0:(lone (b.atR a (.code (.scope c)::k)) cs w).fenced P F:=fenced_calm hb hr rfl
 obtain ⟨e,a₁,w₁,hq,harr⟩:=h b (.inScope c::k) cs hro hb hr
 cases e with
 | normal=>exact ⟨.normal,a₁,w₁,hq,.head h0 bS (StepsIn.trans harr (.one (fenced_calm hb hr rfl) fA))⟩
 | exit id=>
  have hx:exitTo id (.inScope c::k)=exitTo id k:=by simp [exitTo]
  exact ⟨.exit id,a₁,w₁,hq,fun k' hk=>.head h0 bS (harr.1 k' (by rw [hx];exact hk)),fun hr' hk=>let ⟨k₁,h1,h2⟩:=harr.2 hr' (by rw [hx];exact hk);⟨k₁,h1,.head h0 bS h2⟩⟩
 | goto l=>exact hq.elim
 | ret=>exact ⟨_,a₁,w₁,hq,.of_steps (.one h0 bS) harr⟩
 | panic ch=>exact ⟨_,a₁,w₁,hq,.of_steps (.one h0 bS) harr⟩
 | outgrown=>exact ⟨_,a₁,w₁,hq,.of_steps (.one h0 bS) harr⟩
end
def j7 (K:aY):aY
 | .goto _,_,_=>False
 | e,L,H=>K e L H
section
variable {P:Program} {c:Cx} {K:aY} {L:Env} {H:List HP}
theorem G.scope {x:Code} (k:G P c x (j7 K) L H):G P c (.scope x) K L H:=by
 intro a w h
 refine w9 (wpIn_mono (k a w h) ?_)
 rintro e a' w' ⟨L',H',s,q⟩
 cases e with
 | goto l=>exact q.elim
 | normal=>exact ⟨L',H',s,q⟩
 | exit id=>exact ⟨L',H',s,q⟩
 | ret=>exact ⟨L',H',s,q⟩
 | panic ch=>exact ⟨L',H',s,q⟩
 | outgrown=>exact ⟨L',H',s,q⟩
theorem lQ (k:K .normal L H):j7 K .normal L H:=k
theorem B9 (k:K .ret L H):j7 K .ret L H:=k
end
end Pr
namespace Pr
def plE (E:Int→Bool):List bi→Nat→List Int
 | [],_=>[]
 | s::r,i=>(if nulS E s then [(i:Int)] else [])++plE E r (i+1)
theorem ut (E:Int→Bool) (s:bi):∀ (l:List bi) (i:Nat),plE E (l++[s]) i=plE E l i++(if nulS E s then [((i+l.length:Nat):Int)] else [])
 | [],i=>by simp [plE]
 | t::l,i=>by
  rw [List.cons_append]
  unfold plE
  rw [ut E s l (i+1),List.append_assoc,List.length_cons,show i+1+l.length=i+(l.length+1) by omega]
theorem iV (E:Int→Bool):∀ (l:List bi) (i:Nat),(plE E l i).length=cntE E l
 | [],_=>rfl
 | t::l,i=>by
  unfold plE cntE
  rw [List.length_append,iV E l (i+1)]
  split <;> rfl
theorem wu (E:Int→Bool):∀ (l:List bi) (i:Nat) (x:Int),x∈plE E l i→(i:Int)≤x∧x < ((i+l.length:Nat):Int)
 | [],_,_,h=>by cases h
 | t::l,i,x,h=>by
  unfold plE at h
  rw [List.length_cons]
  rcases List.mem_append.1 h with h | h
  ·split at h
   ·rw [List.mem_singleton.1 h];omega
   ·cases h
  ·have:=wu E l (i+1) x h;omega
theorem sV (E:Int→Bool):∀ (l m:List bi) (i:Nat),plE E (l++m) i=plE E l i++plE E m (i+l.length)
 | [],m,i=>by simp [plE]
 | t::l,m,i=>by
  rw [List.cons_append,show plE E (t::(l++m)) i=(if nulS E t then [(i:Int)] else [])++plE E (l++m) (i+1) from rfl,show plE E (t::l) i=(if nulS E t then [(i:Int)] else [])++plE E l (i+1) from rfl]
  rw [sV E l m (i+1),List.append_assoc,List.length_cons,show i+1+l.length=i+(l.length+1) by omega]
def Ds (l:List Int) (x k:Int):Prop:=(k=-1∧x ∉ l)∨∃ j:Nat,k=(j:Nat)∧l[j]?=some x∧∀ i,i < j→l[i]?≠some x
theorem zr {E:Int→Bool} {ss:List bi} {i:Nat} {s:bi} (hs:ss[i]?=some s) {k:Int} (h:Ds (plE E ss 0) (i:Nat) k):k=if nulS E s then ((cntE E (ss.take i):Nat):Int) else -1:=by
 obtain ⟨hi,e⟩:=List.getElem?_eq_some_iff.1 hs
 have hsp:ss=ss.take i++(s::ss.drop (i+1)):=by rw [← e,List.getElem_cons_drop,List.take_append_drop]
 have hlt:(ss.take i).length=i:=by rw [List.length_take];omega
 have hpl:plE E ss 0=plE E (ss.take i) 0++((if nulS E s then [(i:Int)] else [])++plE E (ss.drop (i+1)) (i+1)):=by
  conv=>lhs;rw [hsp,sV,hlt,Nat.zero_add]
  rfl
 have h1:=wu E (ss.take i) 0
 have h2:=wu E (ss.drop (i+1)) (i+1)
 have hl:=iV E (ss.take i) 0
 rw [hlt] at h1
 by_cases hn:nulS E s=true
 ·rw [if_pos hn] at hpl ⊢
  have hat:(plE E ss 0)[cntE E (ss.take i)]?=some ((i:Nat):Int):=by
   rw [hpl,List.getElem?_append_right (by omega),hl,Nat.sub_self];rfl
  rcases h with ⟨_,hno⟩ | ⟨j,rfl,hj,hfirst⟩
  ·exact absurd (List.mem_of_getElem? hat) hno
  ·have hjc:¬ cntE E (ss.take i) < j:=fun hlt=>hfirst _ hlt hat
   have hcj:¬ j < cntE E (ss.take i):=fun hlt=>by
    rw [hpl,List.getElem?_append_left (by omega)] at hj
    have:=h1 _ (List.mem_of_getElem? hj)
    omega
   omega
 ·rw [if_neg hn] at hpl ⊢
  rcases h with ⟨h,_⟩ | ⟨j,rfl,hj,_⟩
  ·exact h
  ·have hm:=List.mem_of_getElem? hj
   rw [hpl,List.nil_append] at hm
   rcases List.mem_append.1 hm with hm | hm
   ·have:=h1 _ hm;omega
   ·have:=h2 _ hm;omega
theorem By (m c:Nat) (hm:m < 2 ^ 64):(BitVec.ofNat 64 m >>> c) &&& 1#64=1#64↔(m / 2 ^ c) % 2=1:=by
 rw [← BitVec.toNat_inj,BitVec.toNat_and,BitVec.toNat_ushiftRight,BitVec.toNat_ofNat,Nat.mod_eq_of_lt hm,Nat.shiftRight_eq_div_pow,show (1#64).toNat=1 from rfl,Nat.and_one_is_mod]
attribute [local irreducible] G GO GR GT Fn FnV pt init exs pur sat own ImpS symsV dp
theorem wN (q:HP) (lv:Value) (l:List Int) (x:Int) (hv:IntsR q lv l) (hl:¬ 140737488355328 < l.length) :
  Fn Tryz.prog 105 #[lv,i64 x] [q] (fun r Q=>∃ k,r=i64 k∧Ds l x k∧Q=[q]):=by
 obtain ⟨a,cap,rfl⟩:=hv.form
 refine Fn.mk2 Tryz.func105 rfl rfl fun w0 F=>?_
 apply Ru
 refine G.loop (fun k:Nat=>[(0,.slice a l.length cap),(1,i64 x),(7,i64 (l.length:Nat)),(8,i64 (k:Nat))]) (fun _=>q::F) (fun k=>k≤l.length∧∀ i,i < k→l[i]?≠some x) (fun k=>l.length - k) 0 ⟨Nat.zero_le _,fun i h=>absurd h (Nat.not_lt_zero _)⟩ ?_ ?_ ?_
 ·exact SE rfl
 ·exact SB
 ·rintro k ⟨hk,hall⟩
  apply Ru
  refine G.condD rfl (fun hlt=>?_) (fun hge=>?_)
  ·obtain ⟨y,hy⟩:∃ y,l[k]?=some y:=⟨_,List.getElem?_eq_getElem (by omega)⟩
   obtain ⟨b,o,rfl,_,r1⟩:=hv.at hy
   (apply Ru;refine six ?_;refine sld (by assumption) ?_;apply Ru)
   refine G.condD rfl (fun heq=>?_) (fun hne=>?_)
   ·apply Ru
    exact kr1 rfl ⟨_,rfl,.inr ⟨k,rfl,by rw [hy,heq],hall⟩,rfl⟩
   ·(apply Ru;refine sad ?_)
    refine ⟨k+1,⟨by omega,fun i hi=>?_⟩,by omega,?_,?_⟩
    ·by_cases e:i=k
     ·subst e
      rw [hy]
      exact fun e=>hne (by injection e with e;exact e.symm)
     ·exact hall i (by omega)
    ·exact SE rfl
    ·exact SB
  ·apply Ru
   refine KF2.r1 rfl (RV.t rfl) ⟨-1,rfl,.inl ⟨rfl,fun hm=>?_⟩,rfl⟩ (ImpS.sb ?_)
   ·obtain ⟨i,hi⟩:=List.getElem?_of_mem hm
    exact hall i (by have:=(List.getElem?_eq_some_iff.1 hi).1;omega) hi
   ·exact SB
theorem B3 (E:Int→Bool) (m:Nat) (ss:List bi) (T:TypeId) (v:Value):own T 2 (bj E m (ss.take 0)).length v (symsV (bj E m (ss.take 0)))=own T 2 0 v []:=by
 rw [List.take_zero]
 unfold bj symsV;rfl
theorem yj (l:List bi) (s:bi):symsV (l++[s])=symsV l++[.bool s.1,i64 s.2]:=by
 unfold symsV;simp
def CJ (E:Int→Bool) (ss:List bi) (i:Nat) (u:List Value) (Y:List HP):Prop:=∃ v,u=[v]∧Y=[own 85 2 (bj E i ss).length v (symsV (bj E i ss))]
theorem tH (q:HP) (E:Int→Bool) (bv lv:Value) (ss:List bi) (hb:SymsR q bv ss) (hp:IntsR q lv (plE E ss 0)) (hl:¬ 1048576 < ss.length) (hc:cntE E ss≤12) (b2 b3:Nat) :
  A5 Tryz.prog (.func (.func 104) #[] #[.pointer (some ⟨b3,0,none⟩),.pointer (some ⟨b2,0,none⟩)]) (2 ^ cntE E ss) (CJ E ss) [q] [pt b3 (row [lv] 67),pt b2 (row [bv] 80)]:=by
 refine ⟨_,_,rfl,inferInstance,fun y J X hy=>?_⟩
 have hp12:2 ^ cntE E ss≤4096:=Nat.pow_le_pow_right (by omega) hc
 obtain ⟨ab,cb,rfl⟩:=hb.form
 obtain ⟨al,cl,rfl⟩:=hp.form
 have hidx:=fun (i:Nat)=>wN q _ _ (i:Nat) hp (by rw [iV];omega)
 refine Fn.mk2 Tryz.func104 rfl rfl fun w0 F=>?_
 (apply Ru;refine GO.load1 rfl rfl rfl (Tk.t (Tk.t Tk.h)) rfl ?_;apply Ru)
 have hlen:(plE E ss 0).length=cntE E ss:=iV E ss 0
 have hsh:(1#64 <<< (plE E ss 0).length).toNat=2 ^ cntE E ss:=by
  rw [hlen,BitVec.toNat_shiftLeft,show (1#64).toNat=1 from rfl,Nat.shiftLeft_eq,Nat.one_mul,Nat.mod_eq_of_lt]
  omega
 have hof:∀ m:Nat,m≤4096→(BitVec.ofNat 64 m).toNat=m:=fun m hm=>by rw [BitVec.toNat_ofNat,Nat.mod_eq_of_lt];omega
 refine G.loop (fun m:Nat=>[(0,y),(1,.pointer (some ⟨b3,0,none⟩)),(2,.pointer (some ⟨b2,0,none⟩)),(11,u64 (1#64 <<< (plE E ss 0).length)),(12,u64 (BitVec.ofNat 64 m))]) (fun m=>J m::q::pt b3 (row [.slice al (plE E ss 0).length cl] 67)::pt b2 (row [.slice ab ss.length cb] 80)::F)
  (fun m=>m≤2 ^ cntE E ss) (fun m=>2 ^ cntE E ss - m) 0 (Nat.zero_le _) ?_ ?_ ?_
 ·exact SE rfl
 ·exact SB
 ·rintro m hm
  have hadd:BitVec.ofNat 64 m+1#64=BitVec.ofNat 64 (m+1):=(BitVec.ofNat_add m 1).symm
  apply Ru
  rw [hsh,hof m (by omega)]
  refine G.condD rfl (fun hlt=>?_) (fun hge=>?_)
  ·have hml:m < 2 ^ cntE E ss:=by omega
   (refine G.skip ?_;refine ao ?_;refine G.seq ?_;refine G.block ?_;refine G.seq ?_;refine G.region ?_;refine GO.move rfl rfl ?_;refine GO.assign rfl rfl ?_;refine GO.nil ?_;refine ao ?_)
   refine G.scope ?_
   apply Ru
   refine G.ownNil (T:=85) (sz:=2) ?_
   refine G.loop2 (fun (i:Nat) (v:Value)=>[(0,y),(1,.pointer (some ⟨b3,0,none⟩)),(2,.pointer (some ⟨b2,0,none⟩)),(4,u64 (BitVec.ofNat 64 m)),(5,v),(11,u64 (1#64 <<< (plE E ss 0).length)),(12,u64 (BitVec.ofNat 64 m)),(15,.slice ab ss.length cb),(16,i64 (ss.length:Nat)),(17,i64 (i:Nat))])
    (fun i v=>own 85 2 (bj E m (ss.take i)).length v (symsV (bj E m (ss.take i)))::J m::q::pt b3 (row [.slice al (plE E ss 0).length cl] 67)::pt b2 (row [.slice ab ss.length cb] 80)::F) (fun i _=>i≤ss.length) (fun i _=>ss.length - i) 0 (.slice none 0 0) (Nat.zero_le _) ?_ ?_ ?_
   ·exact SE rfl
   ·rw [B3]
    exact SB
   ·rintro i v hi
    have hml2:=jJ E (ss.take i) m
    rw [List.length_take] at hml2
    apply Ru
    refine G.condD rfl (fun hlt2=>?_) (fun hge2=>?_)
    ·obtain ⟨s,hs⟩:∃ s,ss[i]?=some s:=⟨_,List.getElem?_eq_getElem (by omega)⟩
     have htk:ss.take (i+1)=ss.take i++[s]:=by rw [List.take_add_one,hs];rfl
     have hsn:=rI E s (ss.take i) m
     rw [← htk] at hsn
     have hplace:=fun k=>zr (E:=E) hs (k:=k)
     have hcn:cntE E (ss.take i)≤12:=by
      have:=iV E (ss.take i) 0
      have h2:=sV E (ss.take i) (ss.drop i) 0
      rw [List.take_append_drop] at h2
      have h3:=congrArg List.length h2
      rw [List.length_append] at h3
      omega
     have hbit:=By m (cntE E (ss.take i)) (by omega)
     have hsy:=yj (bj E m (ss.take i)) s
     obtain ⟨bb,ob,rfl,_,r1,r2⟩:=hb.at hs
     obtain ⟨sl,sn⟩:=s
     dsimp only at r1 r2 hsy
     (apply Ru;refine six ?_;refine sl2 (by assumption) (by assumption) ?_;refine sal fun b7=>?_;apply Ru)
     refine scl (hidx i) ?_
     rintro _ _ ⟨k,rfl,hk,rfl⟩
     have hkk:=hplace k hk
     by_cases hn:nulS E (sl,sn)=true
     ·rw [if_pos hn] at hkk hsn
      subst hkk
      cases d1:decide ((BitVec.ofNat 64 m >>> cntE E (ss.take i)) &&& 1#64=1#64) with
      | true=>
       rw [if_pos (hbit.1 (of_decide_eq_true d1)),List.append_nil] at hsn
       rw [← hsn]
       (apply Ru;refine GO.gT rfl rfl rfl ?_;apply Ru;refine GO.gT rfl rfl rfl ?_;apply Ru;refine GO.gT rfl rfl rfl ?_;apply Ru;refine GO.gT rfl rfl rfl ?_;apply Ru;refine GO.gT rfl rfl rfl ?_;apply Ru;refine GO.pickT rfl rfl rfl ?_;apply Ru;refine scT ?_;refine sad ?_)
       refine ⟨i+1,v,by omega,by omega,?_,?_⟩
       ·exact SE rfl
       ·exact SB
      | false=>
       rw [if_neg (fun h=>of_decide_eq_false d1 (hbit.2 h))] at hsn
       (apply Ru;refine GO.gT rfl rfl rfl ?_;apply Ru;refine GO.gT rfl rfl rfl ?_;apply Ru;refine GO.gT rfl rfl rfl ?_;apply Ru;refine GO.gT rfl rfl rfl ?_;apply Ru;refine GO.gT rfl rfl rfl ?_;apply Ru;refine GO.pickT rfl rfl rfl ?_;apply Ru;refine scF ?_;refine GO.loadW rfl rfl rfl (Tk.t Tk.h) rfl ?_)
       refine GO.buildSlice1 (n:=2) (v1:=.agg #[.bool sl,i64 sn]) rfl rfl (fun v hv=>by rw [List.mem_singleton.1 hv];rfl) rfl ⟨by omega,by omega⟩ fun bs=>?_
       refine GO.appendOwn (m:=1) (news:=[.bool sl,i64 sn]) rfl rfl rfl (Tk.t (Tk.t (Tk.t Tk.h))) Tk.h rfl (by simp [Value.oneCell']) ⟨by decide,rfl⟩ Nat.one_pos (by unfold maxLen;omega) (by omega) fun v4=>?_
       rw [← hsy,show (bj E m (ss.take i)).length+1=(bj E m (ss.take i)++[(sl,sn)]).length by rw [List.length_append];rfl,← hsn]
       (apply Ru;refine sad ?_)
       refine ⟨i+1,v4,by omega,by omega,?_,?_⟩
       ·exact SE rfl
       ·exact SB
     ·rw [if_neg hn] at hkk hsn
      subst hkk
      (apply Ru;refine GO.gF rfl rfl rfl rfl ?_;refine GO.gF rfl rfl rfl rfl ?_;refine GO.gF rfl rfl rfl rfl ?_;refine GO.gF rfl rfl rfl rfl ?_;refine GO.gF rfl rfl rfl rfl ?_;refine GO.pickF rfl rfl rfl ?_;apply Ru;refine GO.loadW rfl rfl rfl (Tk.t Tk.h) rfl ?_)
      refine GO.buildSlice1 (n:=2) (v1:=.agg #[.bool sl,i64 sn]) rfl rfl (fun v hv=>by rw [List.mem_singleton.1 hv];rfl) rfl ⟨by omega,by omega⟩ fun bs=>?_
      refine GO.appendOwn (m:=1) (news:=[.bool sl,i64 sn]) rfl rfl rfl (Tk.t (Tk.t (Tk.t Tk.h))) Tk.h rfl (by simp [Value.oneCell']) ⟨by decide,rfl⟩ Nat.one_pos (by unfold maxLen;omega) (by omega) fun v4=>?_
      rw [← hsy,show (bj E m (ss.take i)).length+1=(bj E m (ss.take i)++[(sl,sn)]).length by rw [List.length_append];rfl,← hsn]
      (apply Ru;refine sad ?_)
      refine ⟨i+1,v4,by omega,by omega,?_,?_⟩
      ·exact SE rfl
      ·exact SB
    ·have e:i=ss.length:=by omega
     subst e
     rw [List.take_length]
     have hyv:=hy m [v] _ hml ⟨v,rfl,rfl⟩
     apply Ru
     refine GO.callV1 rfl rfl rfl hyv (Tks.c (Tk.t Tk.h) (Tks.c Tk.h (Tks.c Tk.h Tks.n))) ?_
     rintro _ _ (⟨rfl,rfl⟩ | ⟨rfl,rfl⟩)
     ·(apply Ru;refine G.condF rfl rfl ?_;apply Ru)
      refine lQ ?_
      apply Ru
      rw [hadd]
      refine ⟨m+1,by omega,by omega,?_,?_⟩
      ·exact SE rfl
      ·exact SB
     ·(apply Ru;refine G.condT rfl rfl ?_;apply Ru)
      refine B9 (KF2.r0 rfl (.inr ⟨m,hml,rfl⟩) (ImpS.sb ?_))
      exact SB
  ·have e:m=2 ^ cntE E ss:=by omega
   subst e
   apply Ru
   refine KF2.n0 rfl (.inl rfl) (ImpS.sb ?_)
   exact SB
def Dl (b2 b3:Nat):Value:=.func (.func 104) #[] #[.pointer (some ⟨b3,0,none⟩),.pointer (some ⟨b2,0,none⟩)]
theorem k5 (bv lv:Value) (ab al:Option Addr) (n1 c1 n2 c2:Nat) (hb:bv=.slice ab n1 c1) (hl:lv=.slice al n2 c2):Fn Tryz.prog 42 #[bv,lv] [] (fun r Q=>∃ b2 b3,r=Dl b2 b3∧Q=[pt b3 (row [lv] 67),pt b2 (row [bv] 80)]):=by
 subst hb hl
 refine Fn.mk2 Tryz.func42 rfl rfl fun w0 F=>?_
 (apply Ru;refine sbx fun b2=>?_;refine sbx fun b3=>?_;apply Ru)
 exact kr1 rfl ⟨_,_,rfl,rfl⟩
end Pr
namespace Pr
def EO (o:Nat→Bool):Int→Bool:=fun n=>o n.toNat
def AllR (z:HP) (E:Int→Bool) (ps:List aF) (k:Nat) (cells:List Value):Prop:=∀ j p,j < k→ps[j]?=some p→∃ u,cells[j]?=some u∧IntsR z u (plE E p.2 0)
theorem AllR.sup {z z':HP} (h:Sup z z') {E:Int→Bool} {ps:List aF} {k:Nat} {cells:List Value} (hc:AllR z E ps k cells):AllR z' E ps k cells:=fun j p hj hp=>let ⟨u,a,b⟩:=hc j p hj hp;⟨u,a,b.sup h⟩
theorem AllR.succ {z:HP} {E:Int→Bool} {ps:List aF} {k:Nat} {cells:List Value} {p:aF} {u:Value} (hc:AllR z E ps k cells) (hl:cells.length=k) (hp:ps[k]?=some p) (hu:IntsR z u (plE E p.2 0)):AllR z E ps (k+1) (cells++[u]):=fun j p' hj hp'=>by
 by_cases e:j=k
 ·subst e
  rw [hp] at hp'
  injection hp' with hp'
  subst hp'
  exact ⟨u,by rw [List.getElem?_append_right (by omega),hl,Nat.sub_self];rfl,hu⟩
 ·obtain ⟨u',a,b⟩:=hc j p' (by omega) hp'
  exact ⟨u',by rw [List.getElem?_append_left (by omega)];exact a,b⟩
def WInv (z:HP) (xs:List (Int × Value)) (L:List aF) (PP:aF→Prop) (n:Nat):Prop:=Cp z L xs∧(∀ p,p∈L↔PP p)∧L.length≤n
abbrev wSt:=Value × List (Int × Value) × List aF × HP
def stP (b:Nat) (nts:Int) (PP:aF→Prop) (n:Nat):HP:=exs fun x:wSt=>aL [pur (WInv x.2.2.2 x.2.1 x.2.2.1 PP n∧x.1.oneCell'=true),own 82 2 x.2.1.length x.1 (pvs x.2.1),pt b (row [i64 nts,x.1] 33),x.2.2.2]
def i7 (E:Int→Bool) (ps:List aF) (h:Int) (b:List bi) (i:Nat) (p:aF):Prop:=WithP E ps p∨∃ m,m < i∧p=(h,bj E m b)∧bj E m b≠[]
theorem y6 {E:Int→Bool} {ps:List aF} {k:Nat} {h:Int} {b:List bi} (hp:ps[k]?=some (h,b)) (p:aF):i7 E (ps.take k) h b (2 ^ cntE E b) p↔WithP E (ps.take (k+1)) p:=by
 have htk:ps.take (k+1)=ps.take k++[(h,b)]:=by rw [List.take_add_one,hp];rfl
 unfold i7 WithP
 rw [htk]
 constructor
 ·rintro (⟨c,h1,h2⟩ | ⟨m,h1,rfl,h3⟩)
  ·exact ⟨c,List.mem_append_left _ h1,h2⟩
  ·exact ⟨b,List.mem_append_right _ (List.mem_singleton.2 rfl),lK E b m,h3⟩
 ·rintro ⟨c,h1,h2,h3⟩
  rcases List.mem_append.1 h1 with h1 | h1
  ·exact .inl ⟨c,h1,h2,h3⟩
  ·have e:=List.mem_singleton.1 h1
   injection e with e1 e2
   subst e2
   obtain ⟨m,h4,h5⟩:=jI E c p.2 h2
   exact .inr ⟨m,h4,by rw [← h5,← e1],by rw [← h5];exact h3⟩
theorem y3 {E:Int→Bool} {ps:List aF} {h:Int} {b:List bi} (p:aF):i7 E ps h b 0 p↔WithP E ps p:=by
 unfold i7
 constructor
 ·rintro (h | ⟨m,h,_⟩)
  ·exact h
  ·omega
 ·exact .inl
theorem y5 {E:Int→Bool} {ps:List aF} {h:Int} {b:List bi} {i:Nat} (he:bj E i b=[]) (p:aF):i7 E ps h b (i+1) p↔i7 E ps h b i p:=by
 unfold i7
 constructor
 ·rintro (h1 | ⟨m,h1,h2,h3⟩)
  ·exact .inl h1
  ·by_cases e:m=i
   ·subst e;exact absurd he h3
   ·exact .inr ⟨m,by omega,h2,h3⟩
 ·rintro (h1 | ⟨m,h1,h2⟩)
  ·exact .inl h1
  ·exact .inr ⟨m,by omega,h2⟩
theorem y7 {E:Int→Bool} {ps:List aF} {h:Int} {b:List bi} {i:Nat} (he:bj E i b≠[]) (p:aF):i7 E ps h b (i+1) p↔i7 E ps h b i p∨p=(h,bj E i b):=by
 unfold i7
 constructor
 ·rintro (h1 | ⟨m,h1,h2,h3⟩)
  ·exact .inl (.inl h1)
  ·by_cases e:m=i
   ·subst e;exact .inr h2
   ·exact .inl (.inr ⟨m,by omega,h2,h3⟩)
 ·rintro ((h1 | ⟨m,h1,h2⟩) | h1)
  ·exact .inl h1
  ·exact .inr ⟨m,by omega,h2⟩
  ·exact .inr ⟨i,by omega,h1,he⟩
theorem zk (l:List Int) (x:Int):dp (l++[x])=dp l++[i64 x]:=by unfold dp;simp
theorem Bf (E:Int→Bool) (ss:List bi) (T:TypeId) (v:Value):own T 1 (plE E (ss.take 0) 0).length v (dp (plE E (ss.take 0) 0))=own T 1 0 v []:=by
 rw [List.take_zero];unfold plE dp;rfl
theorem IntsR.one {q:HP} {v:Value} {l:List Int} (h:IntsR q v l):v.oneCell'=true:=by
 obtain ⟨a,cap,e⟩:=h.form
 rw [e];rfl
theorem cnt_le (E:Int→Bool):∀ l:List bi,cntE E l≤l.length
 | []=>Nat.le_refl _
 | t::l=>by
  have:=cnt_le E l
  unfold cntE
  rw [List.length_cons]
  split <;> omega
def BF (C:CnfD) (q:HP) (r:Value) (Q:List HP):Prop:=
 (okC C=false∧r=.tuple #[.agg #[i64 0,.slice none 0 0],i64 220]∧Q=[q]) ∨
 (okC C=true∧∃ o,Reach (cloStep false) C.prods (fun _=>false) o∧(∀ p∈C.prods,(cloStep false o p).2=false) ∧
  (((∃ p∈C.prods,12 < cntE (EO o) p.2)∧r=.tuple #[.agg #[i64 0,.slice none 0 0],i64 230]∧Q=[q]) ∨
   ((∀ p∈C.prods,cntE (EO o) p.2≤12)∧∃ v zs z,r=.tuple #[v,i64 0]∧CnfR z v ⟨C.nts,zs⟩∧Ups zs∧(∀ p,p∈zs↔WithP (EO o) C.prods p)∧zs.length≤C.prods.length * 4096∧Q=[z,q])))
theorem okC_with {C:CnfD} {E:Int→Bool} {L:List aF} (hok:okC C=true) (h:∀ p∈L,WithP E C.prods p):okC ⟨C.nts,L⟩=true:=by
 unfold okC at hok ⊢
 rw [Bool.and_eq_true] at hok ⊢
 refine ⟨hok.1,List.all_eq_true.2 fun p hp=>?_⟩
 obtain ⟨b,h1,h2,_⟩:=h p hp
 obtain ⟨m,_,h3⟩:=jI _ _ _ h2
 have h4:=List.all_eq_true.1 hok.2 _ h1
 unfold prodOK at h4 ⊢
 rw [Bool.and_eq_true] at h4 ⊢
 refine ⟨h4.1,List.all_eq_true.2 fun s hs=>?_⟩
 rw [h3] at hs
 exact List.all_eq_true.1 h4.2 s (lJ E b m s hs)
theorem nodup_le {α:Type} [DecidableEq α]:∀ {l m:List α},l.Nodup→(∀ x∈l,x∈m)→l.length≤m.length
 | [],m,_,_=>Nat.zero_le _
 | a::l,m,hn,hs=>by
  rw [List.nodup_cons] at hn
  have ha:=hs a (List.mem_cons_self ..)
  have h1:l.length≤(m.erase a).length:=nodup_le hn.2 fun x hx=>by
   rw [List.mem_erase_of_ne (fun e=>hn.1 (by rw [← e];exact hx))]
   exact hs x (List.mem_cons_of_mem _ hx)
  rw [List.length_erase_of_mem ha] at h1
  have:=List.length_pos_of_mem ha
  simp only [List.length_cons];omega
theorem sub_len {zs L:List aF} (hm:∀ p,p∈zs↔p∈L) (hu:Ups zs):zs.length≤L.length:=by
 have hn:zs.Nodup:=hu.imp fun {a b} h e=>by rw [e,prodLt_irr] at h;cases h
 exact nodup_le hn fun p hp=>(hm p).1 hp
section
variable {P:Program} {c:Cx} {A:Array Oper} {os:List Oper} {K:aY} {L:Env} {H:List HP}
theorem G.impW {x:Code} {H':List HP} (h:ImpS H H') (k:G P c x K L H'):G P c x K L H:=G.imp h k
end
theorem ImpS.merge2 {x z q:HP} {H:List HP}:ImpS (x::z::q::H) (x::aL [z,q]::H):=ImpS.cons Tk.h (ImpS.flat (ImpS.sb Sb.r))
theorem yt (b:Nat) (nts:Int) (PP:aF→Prop) (hno:∀ p,¬ PP p) (H:List HP):ImpS (own 82 2 0 (.slice none 0 0) []::pt b (row [i64 nts,.slice none 0 0] 33)::H) (stP b nts PP 0::H):=fun l w s=>by
 have s1:sat (pur True::own 82 2 0 (.slice none 0 0) []::pt b (row [i64 nts,.slice none 0 0] 33)::H++l) w:=bF.2 ⟨trivial,s⟩
 have h:ImpS (pur True::own 82 2 0 (.slice none 0 0) []::pt b (row [i64 nts,.slice none 0 0] 33)::H) (stP b nts PP 0::H):=
  ImpS.exs (.slice none 0 0,[],[],pur True) (ImpS.flat (ImpS.pur ⟨⟨trivial,fun p=>⟨(fun h=>by cases h),fun h=>absurd h (hno p)⟩,Nat.le_refl _⟩,rfl⟩ (ImpS.sb (Sb.c (Tk.t Tk.h) (Sb.c (Tk.t Tk.h) (Sb.c Tk.h Sb.r))))))
 exact h l w s1
theorem CM {b:Nat} {nts:Int} {PP:aF→Prop} {n m:Nat} (h:n≤m) (H:List HP):ImpS (stP b nts PP n::H) (stP b nts PP m::H):=fun l w s=>by
 unfold stP at s
 obtain ⟨x,s⟩:=cH.1 s
 obtain ⟨hi,s⟩:=bF.1 (aJ.1 s)
 exact cH.2 ⟨x,aJ.2 (bF.2 ⟨⟨⟨hi.1.1,hi.1.2.1,Nat.le_trans hi.1.2.2 h⟩,hi.2⟩,s⟩)⟩
theorem C8 {v:Value} (h:v.oneCell'=true):aA [v]=[v]:=by
 cases v <;> first | rfl | cases h
theorem AO {v:Value} (h:v.oneCell'=true):∀ u∈[v],u.cells.size=1:=by
 intro u hu
 rw [List.mem_singleton.1 hu]
 cases v <;> first | rfl | cases h
attribute [local irreducible] G GO GR GT Fn FnV pt init exs pur sat own ImpS symsV dp plE bj
theorem without_spec (q:HP) (v:Value) (C:CnfD) (hv:CnfR q v C) (hz:Fits C) (hB:C.prods.length≤1048576∧∀ p∈C.prods,p.2.length≤1048576) :
  Fn Tryz.prog 16 #[v] [q] (BF C q):=by
 have hz1:=hz.1
 have hem:=wT q v C hv hz
 obtain ⟨pv,rfl,hp⟩:=hv
 obtain ⟨a0,cap0,rfl⟩:=hp.form
 refine Fn.mk2 Tryz.func16 rfl rfl fun w0 F=>?_
 (apply Ru;refine sbx fun b1=>?_;refine sal fun b2=>?_;apply Ru;refine GO.loadW rfl rfl rfl (Tk.t Tk.h) rfl ?_)
 refine scl (hem) ?_
 rintro _ _ (⟨hok,x1,o,rfl,hR,hS,rfl⟩ | ⟨hok,rfl,rfl⟩)
 ·obtain ⟨⟨hn1,hn2⟩,hin⟩:=AR hok
  obtain ⟨n,hn⟩:=Int.eq_ofNat_of_zero_le (show 0≤C.nts by omega)
  have hnn:C.nts.toNat=n:=by omega
  rw [hnn]
  apply Ru
  refine G.ownNil (T:=67) (sz:=1) ?_
  refine G.imp (H':=pur True::_) (fun l w s=>bF.2 ⟨trivial,s⟩) ?_
  refine G.loop4 (fun (k:Nat) (av:Value) (_:List Value) (_:HP)=>[(1,.pointer (some ⟨b1,0,none⟩)),(2,.pointer (some ⟨b2,0,none⟩)),(4,.slice (some ⟨x1,0,none⟩) n n),(6,av),(26,.slice a0 C.prods.length cap0),(27,i64 (C.prods.length:Nat)),(28,i64 (k:Nat))])
   (fun k av cells z=>own 67 1 k av cells::z::q::pt x1 (row (jk o n) 4)::pt b1 (row [i64 C.nts,.slice a0 C.prods.length cap0] 33)::pt b2 (row [i64 0,.slice none 0 0] 33)::F)
   (fun k _ cells z=>k≤C.prods.length∧cells.length=k∧AllR z (EO o) C.prods k cells∧∀ j p,j < k→C.prods[j]?=some p→cntE (EO o) p.2≤12) (fun k _ _ _=>C.prods.length - k) 0 (.slice none 0 0) [] (pur True) ⟨Nat.zero_le _,rfl,fun j p h=>absurd h (Nat.not_lt_zero _),fun j p h=>absurd h (Nat.not_lt_zero _)⟩ ?_ ?_ ?_
  ·exact SE rfl
  ·exact SB
  ·rintro k av cells z ⟨hk,hcl,hall,hc12⟩
   apply Ru
   refine G.condD rfl (fun hlt=>?_) (fun hge=>?_)
   ·obtain ⟨⟨h,ss⟩,hpk⟩:∃ p,C.prods[k]?=some p:=⟨_,List.getElem?_eq_getElem (by omega)⟩
    have hpm:=List.mem_of_getElem? hpk
    have hbl:=hB.2 _ hpm
    have hsin:=(hin _ hpm).2
    obtain ⟨b0,o0,bv,rfl,_,r1,r2,hss⟩:=hp.at hpk
    dsimp only at hbl hsin r1 r2 hss
    obtain ⟨ab,capb,rfl⟩:=hss.form
    (apply Ru;refine six ?_;refine sl2 (by assumption) (by assumption) ?_;refine sal fun b8=>?_;apply Ru)
    refine G.ownNil (T:=3) (sz:=1) ?_
    refine G.loop2 (fun (i:Nat) (v:Value)=>[(1,.pointer (some ⟨b1,0,none⟩)),(2,.pointer (some ⟨b2,0,none⟩)),(4,.slice (some ⟨x1,0,none⟩) n n),(6,av),(8,.pointer (some ⟨b8,0,none⟩)),(9,v),(26,.slice (some ⟨b0,o0,none⟩) C.prods.length cap0),(27,i64 (C.prods.length:Nat)),(28,i64 (k:Nat)),(33,.slice ab ss.length capb),(34,i64 (ss.length:Nat)),(35,i64 (i:Nat))])
     (fun i v=>own 3 1 (plE (EO o) (ss.take i) 0).length v (dp (plE (EO o) (ss.take i) 0))::pt b8 (row [i64 h,.slice ab ss.length capb] 82)::own 67 1 k av cells::z::q::pt x1 (row (jk o n) 4)::pt b1 (row [i64 C.nts,.slice (some ⟨b0,o0,none⟩) C.prods.length cap0] 33)::pt b2 (row [i64 0,.slice none 0 0] 33)::F)
     (fun i _=>i≤ss.length) (fun i _=>ss.length - i) 0 (.slice none 0 0) (Nat.zero_le _) ?_ ?_ ?_
    ·exact SE rfl
    ·rw [Bf]
     exact SB
    ·rintro i v hi
     apply Ru
     refine G.condD rfl (fun hlt2=>?_) (fun hge2=>?_)
     ·obtain ⟨s,hs⟩:∃ s,ss[i]?=some s:=⟨_,List.getElem?_eq_getElem (by omega)⟩
      have htk:ss.take (i+1)=ss.take i++[s]:=by rw [List.take_add_one,hs];rfl
      have hsn:=ut (EO o) s (ss.take i) 0
      have hpl:=iV (EO o) (ss.take i) 0
      have hcl2:=cnt_le (EO o) (ss.take i)
      rw [List.length_take,Nat.min_eq_left (by omega),Nat.zero_add] at hsn
      rw [List.length_take] at hcl2
      rw [← htk] at hsn
      have hsi:=hsin s (List.mem_of_getElem? hs)
      obtain ⟨bb,ob,rfl,_,r3,r4⟩:=hss.at hs
      obtain ⟨sl,sn⟩:=s
      dsimp only at r3 r4
      cases sl with
      | true=>
       rw [if_neg (by unfold nulS;simp),List.append_nil] at hsn
       rw [← hsn]
       (apply Ru;refine six ?_;refine sl2 (by assumption) (by assumption) ?_;refine sal fun b11=>?_;apply Ru;refine GO.gF rfl rfl rfl rfl ?_;refine GO.gF rfl rfl rfl rfl ?_;refine GO.gF rfl rfl rfl rfl ?_;refine GO.gF rfl rfl rfl rfl ?_;refine GO.gF rfl rfl rfl rfl ?_;refine GO.pickF rfl rfl rfl ?_;apply Ru;refine sad ?_)
       refine ⟨i+1,v,by omega,by omega,?_,?_⟩
       ·exact SE rfl
       ·exact SB
      | false=>
       have hsi:=hsi rfl
       dsimp only at hsi
       obtain ⟨m,rfl⟩:=Int.eq_ofNat_of_zero_le hsi.1
       have hmn:m < n:=by omega
       have hnu:nulS (EO o) (false,(m:Int))=o m:=by unfold nulS EO;rfl
       rw [hnu] at hsn
       cases ho:o m with
       | true=>
        rw [ho,if_pos rfl] at hsn
        (apply Ru;refine six ?_;refine sl2 (by assumption) (by assumption) ?_;refine sal fun b11=>?_;apply Ru;refine GO.gT rfl rfl rfl ?_;apply Ru;refine GO.gT rfl rfl rfl ?_;apply Ru;refine GO.gT rfl rfl rfl ?_;apply Ru;refine GO.gT rfl rfl rfl ?_;refine six ?_;refine GO.gT rfl rfl rfl ?_;refine sll (eo (by assumption)) ?_;refine GO.pickT rfl rfl rfl ?_;apply Ru;refine scT ?_)
        refine GO.buildSlice1 (n:=1) rfl rfl (by simp;rfl) rfl ⟨by omega,by omega⟩ fun bs=>?_
        refine GO.appendOwn (m:=1) (news:=[i64 (i:Nat)]) rfl rfl rfl (Tk.t (Tk.t Tk.h)) Tk.h rfl (by simp [Value.oneCell']) ⟨by decide,rfl⟩ Nat.one_pos (by unfold maxLen;omega) (by omega) fun v4=>?_
        rw [← zk,show (plE (EO o) (ss.take i) 0).length+1=(plE (EO o) (ss.take i) 0++[((i:Nat):Int)]).length by rw [List.length_append];rfl,← hsn]
        (apply Ru;refine sad ?_)
        refine ⟨i+1,v4,by omega,by omega,?_,?_⟩
        ·exact SE rfl
        ·exact SB
       | false=>
        rw [ho,if_neg (by simp),List.append_nil] at hsn
        rw [← hsn]
        (apply Ru;refine six ?_;refine sl2 (by assumption) (by assumption) ?_;refine sal fun b11=>?_;apply Ru;refine GO.gT rfl rfl rfl ?_;apply Ru;refine GO.gT rfl rfl rfl ?_;apply Ru;refine GO.gT rfl rfl rfl ?_;apply Ru;refine GO.gT rfl rfl rfl ?_;refine six ?_;refine GO.gT rfl rfl rfl ?_;refine sll (eo (by assumption)) ?_;refine GO.pickT rfl rfl rfl ?_;apply Ru;refine scF ?_;refine sad ?_)
        refine ⟨i+1,v,by omega,by omega,?_,?_⟩
        ·exact SE rfl
        ·exact SB
     ·have e:i=ss.length:=by omega
      subst e
      have hpl:=iV (EO o) ss 0
      rw [List.take_length]
      apply Ru
      refine G.condD rfl (fun h12=>?_) (fun h12=>?_)
      ·apply Ru
       refine KF2.r2 rfl (RV.cW rfl rfl (Tk.h) rfl) (RV.t rfl) (.inr ⟨hok,o,hR,hS,.inl ⟨⟨_,hpm,by show 12 < cntE (EO o) ss;omega⟩,rfl,rfl⟩⟩) (ImpS.sb ?_)
       exact SB
      ·have hc12':cntE (EO o) ss≤12:=by omega
       refine G.ownRd (n:=(plE (EO o) ss 0).length) (xs:=dp (plE (EO o) ss 0)) Tk.h fun z5 h5=>?_
       have h5:IntsR z5 v (plE (EO o) ss 0):=h5
       have hone:=h5.one
       apply Ru
       refine GO.buildSlice1 (n:=1) (v1:=v) rfl rfl (AO hone) rfl ⟨by omega,by omega⟩ fun bs=>?_
       refine GO.imp (H':=pt bs (row [v] 67)::_) (fun l w s=>by rw [C8 hone] at s;exact s) ?_
       refine GO.appendOwn (m:=1) (news:=[v]) rfl rfl rfl (Tk.t (Tk.t (Tk.t Tk.h))) Tk.h rfl (by intro u hu;rw [List.mem_singleton.1 hu];exact hone) ⟨by decide,rfl⟩ Nat.one_pos (by unfold maxLen;omega) (by omega) fun v4=>?_
       refine GO.merge (x:=z5) (y:=z) (Tks.c (Tk.t (Tk.t Tk.h)) (Tks.c (Tk.t (Tk.t (Tk.t Tk.h))) Tks.n)) ?_
       (apply Ru;refine sad ?_)
       refine ⟨k+1,v4,cells++[v],aL [z5,z],⟨by omega,by rw [List.length_append,hcl];rfl,(hall.sup (Sup.right z5 z)).succ hcl hpk (h5.sup (Sup.left z5 z)),fun j p hj hjp=>?_⟩,by omega,?_,?_⟩
       ·by_cases e:j=k
        ·subst e
         rw [hpk] at hjp
         injection hjp with hjp
         subst hjp;exact hc12'
        ·exact hc12 j p (by omega) hjp
       ·exact SE rfl
       ·exact SB
   ·have e:k=C.prods.length:=by omega
    subst e
    refine G.impW ImpS.merge2 ?_
    apply Ru
    refine GO.buildPart1 (sv _) rfl rfl ?_
    refine GO.ownRd (n:=C.prods.length) (xs:=cells) Tk.h fun qa hqa=>?_
    obtain ⟨aa,ca,rfl,_,hqa⟩:=hqa
    (refine sal fun b12=>?_;apply Ru)
    refine G.ownNil (T:=82) (sz:=2) ?_
    refine G.impW (yt b12 C.nts (WithP (EO o) (C.prods.take 0)) (fun p h=>by obtain ⟨b,h,_⟩:=h;rw [List.take_zero] at h;cases h) _) ?_
    refine G.loop (fun k:Nat=>[(1,.pointer (some ⟨b1,0,none⟩)),(2,.pointer (some ⟨b2,0,none⟩)),(6,.slice aa C.prods.length ca),(12,.pointer (some ⟨b12,0,none⟩)),(68,.slice a0 C.prods.length cap0),(69,i64 (C.prods.length:Nat)),(70,i64 (k:Nat))])
     (fun k=>stP b12 C.nts (WithP (EO o) (C.prods.take k)) (k * 4096)::qa::aL [z,q]::pt x1 (row (jk o n) 4)::pt b1 (row [i64 C.nts,.slice a0 C.prods.length cap0] 33)::pt b2 (row [i64 0,.slice none 0 0] 33)::F) (fun k=>k≤C.prods.length) (fun k=>C.prods.length - k) 0 (Nat.zero_le _) ?_ ?_ ?_
    ·exact SE rfl
    ·rw [Nat.zero_mul]
     exact SB
    ·rintro k hk
     apply Ru
     refine G.condD rfl (fun hlt=>?_) (fun hge=>?_)
     ·obtain ⟨⟨h,ss⟩,hpk⟩:∃ p,C.prods[k]?=some p:=⟨_,List.getElem?_eq_getElem (by omega)⟩
      have hpm:=List.mem_of_getElem? hpk
      have hbl:=hB.2 _ hpm
      have hc:=hc12 k _ (by omega) hpk
      obtain ⟨b0,o0,bv,rfl,_,r1,r2,hss⟩:=hp.at hpk
      dsimp only at hbl r1 r2 hss hc
      replace r1:=(Sup.right z q) _ _ r1
      replace r2:=(Sup.right z q) _ _ r2
      obtain ⟨ab,capb,rfl⟩:=hss.form
      obtain ⟨u,hu1,hu2⟩:=hall k _ (by omega) hpk
      dsimp only at hu2
      have hu0:=hu2
      obtain ⟨al,capl,rfl⟩:=hu2.form
      obtain ⟨ba,oa,rfl,hqa1⟩:=hqa (by omega)
      have rq:Rd qa ⟨ba,oa+k * 1,none⟩ (.slice al (plE (EO o) ss 0).length capl):=by rw [Nat.mul_one];exact hqa1 _ _ hu1
      have hp12:2 ^ cntE (EO o) ss≤4096:=Nat.pow_le_pow_right (by omega) hc
      (apply Ru;refine six ?_;refine sl2 (by assumption) (by assumption) ?_;refine sal fun b14=>?_;apply Ru)
      refine dr 6 ?_
      (apply Ru;refine qix ?_;refine qld (by assumption) ?_;apply Ru)
      refine scl (k5 (.slice ab ss.length capb) (.slice al (plE (EO o) ss 0).length capl) ab al ss.length capb _ capl rfl rfl) ?_
      rintro _ _ ⟨bb2,bb3,rfl,rfl⟩
      apply Ru
      rw [show WithP (EO o) (C.prods.take k)=i7 (EO o) (C.prods.take k) h ss 0 from funext fun p=>propext (y3 p).symm]
      refine G.rangeV (F:=qa::pt x1 (row (jk o n) 4)::pt b1 (row [i64 C.nts,.slice (some ⟨b0,o0,none⟩) C.prods.length cap0] 33)::pt b2 (row [i64 0,.slice none 0 0] 33)::F) (psl:=[82]) (v:=Dl bb2 bb3) (n:=2 ^ cntE (EO o) ss) (Val:=CJ (EO o) ss) (Sh:=[aL [z,q]]) (Gm:=[pt bb3 (row [.slice al (plE (EO o) ss 0).length capl] 67),pt bb2 (row [.slice ab ss.length capb] 80)])
       (fun i=>[stP b12 C.nts (i7 (EO o) (C.prods.take k) h ss i) (k * 4096+i),pt b14 (row [i64 h,.slice ab ss.length capb] 82)]) (fun _ _=>[pur False])
       (fun _ h=>by cases h) rfl (fun i u Y _ hu=>by obtain ⟨v,rfl,_⟩:=hu;rfl) rfl (tH (aL [z,q]) (EO o) _ _ ss (hss.sup (Sup.right z q)) (hu0.sup (Sup.left z q)) (by omega) hc bb2 bb3) ?_ (fun lp Lr Lb w1 F1 i u Y hi hu=>?_) ?_ ?_
      ·rw [Nat.add_zero]
       (refine Tks.c (Tk.t (Tk.t (Tk.t Tk.h))) ?_;refine Tks.c (Tk.t (Tk.t Tk.h)) ?_;refine Tks.c (Tk.t (Tk.t (Tk.t Tk.h))) ?_;exact Tks.n)
      ·obtain ⟨vb,rfl,rfl⟩:=hu
       change G _ _ _ _ ((82,vb)::_) (stP b12 C.nts (i7 (EO o) (C.prods.take k) h ss i) (k * 4096+i)::pt b14 (row [i64 h,.slice ab ss.length capb] 82)::own 85 2 (bj (EO o) i ss).length vb (symsV (bj (EO o) i ss))::aL [z,q]::F1)
       unfold stP
       refine G.exs fun x=>G.flat (G.pur fun hinv=>?_)
       obtain ⟨pv,xs,L,zz⟩:=x
       obtain ⟨⟨hC,hM,hLn⟩,hone⟩:=hinv
       dsimp only at hC hM hLn hone ⊢
       have hml:=jJ (EO o) ss i
       refine G.ownRd (n:=(bj (EO o) i ss).length) (xs:=symsV (bj (EO o) i ss)) (Tk.t (Tk.t (Tk.t (Tk.t Tk.h)))) fun z5 h5=>?_
       have h5:SymsR z5 vb (bj (EO o) i ss):=h5
       obtain ⟨a5,c5,rfl⟩:=h5.form
       apply Ru
       refine Bc ?_
       apply Ru
       refine G.condD rfl (fun h0=>?_) (fun h0=>?_)
       ·have hne:bj (EO o) i ss≠[]:=fun e=>by rw [e] at h0;simp at h0
        have hxl:=hC.len
        apply Ru
        refine GO.buildSlice1 (n:=2) (v1:=.agg #[i64 h,.slice a5 (bj (EO o) i ss).length c5]) rfl rfl (fun v hv=>by rw [List.mem_singleton.1 hv];rfl) rfl ⟨by omega,by omega⟩ fun b6=>?_
        refine GO.appendOwn (m:=1) (news:=[i64 h,.slice a5 (bj (EO o) i ss).length c5]) rfl rfl rfl (Tk.t (Tk.t Tk.h)) Tk.h rfl (by simp [Value.oneCell']) ⟨by decide,rfl⟩ Nat.one_pos (by unfold maxLen;omega) (by omega) fun v2=>?_
        refine GO.ownOne Tk.h fun hone2=>?_
        rw [show pvs xs++[i64 h,.slice a5 (bj (EO o) i ss).length c5]=pvs (xs++[(h,.slice a5 (bj (EO o) i ss).length c5)]) from (ei xs [(h,Value.slice a5 (bj (EO o) i ss).length c5)]).symm,show xs.length+1=(xs++[(h,Value.slice a5 (bj (EO o) i ss).length c5)]).length by simp]
        have hc2:=Cp.snoc (z:=aL [z5,zz]) (p:=(h,bj (EO o) i ss)) (x:=(h,.slice a5 (bj (EO o) i ss).length c5)) rfl (h5.sup (Sup.left _ _)) (hC.sup (Sup.right z5 zz))
        refine GO.merge (x:=z5) (y:=zz) (Tks.c (Tk.t (Tk.t Tk.h)) (Tks.c (Tk.t (Tk.t (Tk.t Tk.h))) Tks.n)) ?_
        (apply Ru;refine GO.store1 rfl rfl (by assumption) (Tk.t (Tk.t (Tk.t Tk.h))) (by simp) ?_;apply Ru)
        refine zd (ImpS.exs (v2,xs++[(h,.slice a5 (bj (EO o) i ss).length c5)],L++[(h,bj (EO o) i ss)],aL [z5,zz]) (ImpS.flat (ImpS.pur ⟨⟨hc2,fun p=>?_,by show (L++[_]).length≤_;rw [List.length_append];simp only [List.length_cons,List.length_nil];omega⟩,hone2⟩ (ImpS.sb ?_))))
        ·dsimp only
         rw [List.mem_append,List.mem_singleton,hM,y7 hne]
        ·((refine Sb.c (Tk.t (Tk.t Tk.h)) ?_;refine Sb.c Tk.h ?_;refine Sb.c Tk.h ?_;refine Sb.c (Tk.t Tk.h) ?_;refine Sb.c (Tk.t Tk.h) ?_;exact SB);skip)
       ·have he0:bj (EO o) i ss=[]:=List.eq_nil_of_length_eq_zero (by omega)
        apply Ru
        refine zd (ImpS.exs (pv,xs,L,zz) (ImpS.flat (ImpS.pur ⟨⟨hC,fun p=>(hM p).trans (y5 he0 p).symm,by show L.length≤_;omega⟩,hone⟩ (ImpS.sb ?_))))
        ((refine Sb.c (Tk.t Tk.h) ?_;refine Sb.c (Tk.t Tk.h) ?_;refine Sb.c (Tk.t Tk.h) ?_;refine Sb.c (Tk.t Tk.h) ?_;refine Sb.c (Tk.t Tk.h) ?_;exact SB);skip)
      ·refine iA ?_
       rw [show i7 (EO o) (C.prods.take k) h ss (2 ^ cntE (EO o) ss)=WithP (EO o) (C.prods.take (k+1)) from funext fun p=>propext (y6 hpk p)]
       refine G.impW (CM (m:=(k+1) * 4096) (by omega) _) ?_
       (apply Ru;refine sad ?_)
       refine ⟨k+1,by omega,by omega,?_,?_⟩
       ·exact SE rfl
       ·((refine Sb.c Tk.h ?_;refine Sb.c (Tk.t (Tk.t (Tk.t (Tk.t Tk.h)))) ?_;exact SB);skip)
      ·intro i jc hi
       exact G.pur fun h=>h.elim
     ·have e:k=C.prods.length:=by omega
      subst e
      rw [List.take_length]
      unfold stP
      refine G.exs fun x=>G.flat (G.pur fun hinv=>?_)
      obtain ⟨pv,xs,L,zz⟩:=x
      obtain ⟨⟨hC,hM,hLn⟩,hone⟩:=hinv
      dsimp only at hC hM hLn hone ⊢
      have hxl:=hC.len
      refine G.ownRd (n:=xs.length) (xs:=pvs xs) Tk.h fun qp hqp=>?_
      have hP:PrsR (aL [qp,zz]) pv L:=hC.prs (Sup.right qp zz) (hqp.sup (Sup.left qp zz))
      have hokL:=okC_with hok (fun p hp=>(hM p).1 hp)
      have hfit:Fits ⟨C.nts,L⟩:=⟨by show L.length * 32≤_;omega,fun p hp=>by
       obtain ⟨b,h1,h2,_⟩:=(hM p).1 hp
       obtain ⟨m,_,h3⟩:=jI _ _ _ h2
       have h4:=jJ (EO o) b m
       have h5:=hB.2 _ h1
       dsimp only at h5
       rw [← h3] at h4
       omega⟩
      have hsort:=sort_spec (aL [qp,zz]) (.agg #[i64 C.nts,pv]) ⟨C.nts,L⟩ ⟨pv,rfl,hP⟩ hfit
      refine G.merge (x:=qp) (y:=zz) (Tks.c Tk.h (Tks.c (Tk.t Tk.h) Tks.n)) ?_
      (apply Ru;refine GO.loadW rfl rfl rfl (Tk.t Tk.h) rfl ?_)
      refine scl (hsort) ?_
      rintro _ _ (⟨_,pv2,ys,zs2,zs,rfl,hzc,hzu,hzm,rfl⟩ | ⟨hno,_⟩)
      ·have hyl:=hzc.len
       refine GO.ownOne Tk.h fun hone2=>?_
       refine GO.ownRd Tk.h fun q6 h6=>?_
       refine GO.merge (x:=q6) (y:=zs2) (Tks.c Tk.h (Tks.c Tk.h Tks.n)) ?_
       refine GO.take (q:=aL [z,q]) (Tk.t (Tk.t (Tk.t (Tk.t Tk.h)))) ?_
       refine GO.flat ?_
       (apply Ru;refine GO.storeW rfl rfl (Tk.t (Tk.t (Tk.t (Tk.t (Tk.t (Tk.t (Tk.t (Tk.t Tk.h)))))))) ⟨rfl,rfl⟩ (by simp [Value.oneCell'];assumption) ?_;apply Ru)
       refine KF2.r2 rfl (RV.cW rfl rfl Tk.h rfl) (RV.t rfl) (.inr ⟨hok,o,hR,hS,.inr ⟨fun p hp=>?_,_,zs,aL [q6,zs2],rfl,⟨pv2,rfl,hzc.prs (Sup.right _ _) (h6.sup (Sup.left _ _))⟩,hzu,fun p=>(hzm p).trans (hM p),?_,rfl⟩⟩) (ImpS.sb ?_)
       ·obtain ⟨j,hj⟩:=List.getElem?_of_mem hp
        exact hc12 j p (List.getElem?_eq_some_iff.1 hj).1 hj
       ·have:=sub_len hzm hzu
        dsimp only at this
        omega
       ·exact SB
      ·rw [hokL] at hno;cases hno
 ·(apply Ru;refine G.condT rfl rfl ?_;apply Ru)
  exact kr2 rfl (.inl ⟨hok,rfl,rfl⟩)
end Pr
section
theorem kV {b:List cc} (h:Pr.weakB b=true):b=[]∨(∃ n,b=[(true,n)])∨∃ m n,b=[(false,m),(false,n)]:=by
 match b,h with
 | [],_=>exact .inl rfl
 | [(true,n)],_=>exact .inr (.inl ⟨n,rfl⟩)
 | [(false,n)],h=>exact absurd h (by show ¬ Pr.weakB [(false,n)]=true;unfold Pr.weakB Pr.formB;simp)
 | [(false,m),(false,n)],_=>exact .inr (.inr ⟨m,n,rfl⟩)
 | [(true,m),(c,n)],h=>exact absurd h (by unfold Pr.weakB Pr.formB;simp)
 | [(false,m),(true,n)],h=>exact absurd h (by unfold Pr.weakB Pr.formB;simp)
 | _::_::_::_,h=>exact absurd h (by unfold Pr.weakB Pr.formB;simp)
section
variable {C:Pr.CnfD} {x y:List Int}
theorem Co {w:List Int} (hw:∀ p∈C.prods,Pr.weakB p.2=true) {A:Int} {i j:Nat} (h:Pr.Der C w A i j):∃ n,Gen (PrR C.prods) n [(false,A)] (seg w i j):=by
 induction h with
 | none h hi=>
  rw [AC]
  exact ⟨1,Gen.of h .nil⟩
 | @one A s i h hi=>
  rw [C5 hi]
  rcases kV (hw _ h) with e | ⟨n,e⟩ | ⟨m,n,e⟩
  ·cases e
  ·injection e with e _
   subst e
   exact ⟨1,Gen.of h (.lab .nil)⟩
  ·cases e
 | @two A s t i j k h h1 h2 ih1 ih2=>
  obtain ⟨n1,g1⟩:=ih1
  obtain ⟨n2,g2⟩:=ih2
  have l1:=h1.le;have l2:=h2.le
  rw [C6 w l1.1 l2.1]
  rcases kV (hw _ h) with e | ⟨n,e⟩ | ⟨m,n,e⟩
  ·cases e
  ·cases e
  ·injection e with e e'
   injection e' with e' _
   subst e e'
   exact ⟨max n1 n2+1,Gen.of h ((g1.mono (Nat.le_max_left _ _)).app (s:=[(false,m)]) (g2.mono (Nat.le_max_right _ _)))⟩
theorem tl (hw:∀ p∈C.prods,Pr.weakB p.2=true) (w:List Int):∀ (n:Nat) (A:Int) (u x y:List Int),w=x++u++y→Gen (PrR C.prods) n [(false,A)] u→Pr.Der C w A x.length (x.length+u.length)
 | 0,A,u,x,y,e,h=>by obtain ⟨_,_,e,_⟩:=h.one;omega
 | n+1,A,u,x,y,e,h=>by
  obtain ⟨m,b,em,hb,hg⟩:=h.one
  have em:m=n:=by omega
  subst em
  have hb:(A,b)∈C.prods:=hb
  rcases kV (hw _ hb) with rfl | ⟨k,rfl⟩ | ⟨k,l,rfl⟩
  ·cases hg
   rw [List.append_nil] at e
   exact .none hb (by rw [e,List.length_append];omega)
  ·cases hg with
   | lab k2=>
    cases k2
    refine .one hb ?_
    rw [e,List.append_assoc,List.getElem?_append_right (Nat.le_refl _),Nat.sub_self]
    rfl
  ·obtain ⟨u1,u2,rfl,g1,g2⟩:=Gen.split (s:=[(false,k)]) (t:=[(false,l)]) hg
   have d1:=tl hw w m k u1 x (u2++y) (by rw [e];simp) g1
   have d2:=tl hw w m l u2 (x++u1) y (by rw [e];simp) g2
   rw [List.length_append] at d2
   rw [List.length_append,← Nat.add_assoc]
   exact .two hb d1 d2
theorem Ab (hw:∀ p∈C.prods,Pr.weakB p.2=true) (A:Int) (w:List Int):Pr.Der C w A 0 w.length↔Has (PrR C.prods) A w:=by
 constructor
 ·intro h
  obtain ⟨n,g⟩:=Co hw h
  refine ⟨n,?_⟩
  unfold seg at g
  rw [List.drop_zero,Nat.sub_zero,List.take_length] at g
  exact g
 ·rintro ⟨n,g⟩
  have:=tl hw w n A w [] [] (by simp) g
  simpa using this
end
section
variable {ps qs:List PrW} {E:Int→Bool}
theorem og (hE:∀ A,E A=true→Has (PrR ps) A []):∀ {b b':List cc},b'∈Pr.subs E b→∀ {n:Nat} {w:List Int},Gen (PrR ps) n b' w→∃ m,Gen (PrR ps) m b w
 | [],b',h,n,w,hg=>by
  rw [Pr.subs,List.mem_singleton] at h
  rw [h] at hg
  exact ⟨n,hg⟩
 | s::b,b',h,n,w,hg=>by
  rw [Pr.subs,List.mem_append] at h
  rcases h with h | h
  ·split at h
   ·rename_i hn
    unfold Pr.nulS at hn
    rw [Bool.and_eq_true] at hn
    obtain ⟨c,A⟩:=s
    have hc:c=false:=by simpa using hn.1
    subst hc
    obtain ⟨m,hm⟩:=og hE h hg
    obtain ⟨k,hk⟩:=hE A hn.2
    exact ⟨max k m,(hk.mono (Nat.le_max_left _ _)).app (s:=[(false,A)]) (u:=[]) (hm.mono (Nat.le_max_right _ _))⟩
   ·cases h
  ·obtain ⟨b2,h2,rfl⟩:=List.mem_map.1 h
   obtain ⟨u,v,rfl,g1,g2⟩:=Gen.split (s:=[s]) (t:=b2) hg
   obtain ⟨m,hm⟩:=og hE h2 g2
   exact ⟨max n m,(g1.mono (Nat.le_max_left _ _)).app (s:=[s]) (hm.mono (Nat.le_max_right _ _))⟩
theorem A9 (hE:∀ A,E A=true→Has (PrR ps) A []) (hq:∀ p,p∈qs↔Pr.WithP E ps p) {n:Nat} {s:List cc} {w:List Int} (h:Gen (PrR qs) n s w):∃ m,Gen (PrR ps) m s w:=by
 induction h with
 | nil=>exact ⟨0,.nil⟩
 | lab _ ih=>obtain ⟨m,h⟩:=ih;exact ⟨m,.lab h⟩
 | @nt n A b r u v hb _ _ ih1 ih2=>
  obtain ⟨m1,h1⟩:=ih1
  obtain ⟨m2,h2⟩:=ih2
  obtain ⟨b0,hb0,hs,_⟩:=(hq _).1 hb
  obtain ⟨m3,h3⟩:=og hE hs h1
  exact ⟨max (m3+1) m2,((Gen.of (R:=PrR ps) hb0 h3).mono (Nat.le_max_left _ _)).app (s:=[(false,A)]) (h2.mono (Nat.le_max_right _ _))⟩
theorem Bm (hE:∀ A,Has (PrR ps) A []→E A=true) (hq:∀ p,p∈qs↔Pr.WithP E ps p) {n:Nat} {s:List cc} {w:List Int} (h:Gen (PrR ps) n s w):∃ s'∈Pr.subs E s,∃ m,Gen (PrR qs) m s' w:=by
 induction h with
 | nil=>exact ⟨[],by rw [Pr.subs];simp,0,.nil⟩
 | @lab n x r w _ ih=>
  obtain ⟨s',h1,m,h2⟩:=ih
  exact ⟨(true,x)::s',by rw [Pr.subs];exact List.mem_append.2 (.inr (List.mem_map.2 ⟨s',h1,rfl⟩)),m,.lab h2⟩
 | @nt n A b r u v hb hg _ ih1 ih2=>
  obtain ⟨b',h1,m1,g1⟩:=ih1
  obtain ⟨r',h2,m2,g2⟩:=ih2
  by_cases hu:u=[]
  ·subst hu
   have hA:=hE A ⟨_,Gen.of (R:=PrR ps) hb hg⟩
   refine ⟨r',?_,m2,g2⟩
   rw [Pr.subs]
   refine List.mem_append.2 (.inl ?_)
   rw [if_pos (show Pr.nulS E (false,A)=true by unfold Pr.nulS;rw [hA];rfl)]
   exact h2
  ·have hb':b'≠[]:=fun e=>by rw [e] at g1;cases g1;exact hu rfl
   have hq':PrR qs A b':=(hq _).2 ⟨b,hb,h1,hb'⟩
   exact ⟨(false,A)::r',by rw [Pr.subs];exact List.mem_append.2 (.inr (List.mem_map.2 ⟨r',h2,rfl⟩)),max (m1+1) m2,((Gen.of hq' g1).mono (Nat.le_max_left _ _)).app (s:=[(false,A)]) (g2.mono (Nat.le_max_right _ _))⟩
theorem tL (hE:∀ A,E A=true↔Has (PrR ps) A []) (hq:∀ p,p∈qs↔Pr.WithP E ps p) (A:Int) {w:List Int} (hw:w≠[]):Has (PrR qs) A w↔Has (PrR ps) A w:=by
 constructor
 ·rintro ⟨n,g⟩
  exact A9 (fun A=>(hE A).1) hq g
 ·rintro ⟨n,g⟩
  obtain ⟨s',h1,m,h2⟩:=Bm (fun A=>(hE A).2) hq g
  rw [Pr.subs] at h1
  rcases List.mem_append.1 h1 with h1 | h1
  ·split at h1
   ·rw [Pr.subs,List.mem_singleton] at h1
    subst h1
    cases h2
    exact absurd rfl hw
   ·cases h1
  ·rw [Pr.subs] at h1
   simp at h1
   subst h1
   exact ⟨m,h2⟩
theorem Cr {o:Nat→Bool} (hin:∀ p∈ps,0≤p.1∧∀ s∈p.2,s.1=false→0≤s.2) (hR:Pr.Reach (Pr.cloStep false) ps (fun _=>false) o) (hF:∀ p∈ps,(Pr.cloStep false o p).2=false) (A:Int) (hA:0≤A):o A.toNat=true↔Has (PrR ps) A []:=by
 constructor
 ·have key:=Pr.Reach.inv (J:=fun (o:Nat→Bool)=>∀ k,o k=true→Has (PrR ps) (k:Nat) []) (fun o p hJ hp=>?_) hR (fun k h=>by cases h)
  ·intro h
   have:=key _ h
   rwa [Int.toNat_of_nonneg hA] at this
  ·intro k hk
   unfold Pr.cloStep at hk
   split at hk
   ·exact hJ k hk
   ·rename_i hc
    have hc:(o p.1.toNat || !p.2.all (Pr.symHas o false))=false:=by simpa using hc
    rw [Bool.or_eq_false_iff] at hc
    have hall:p.2.all (Pr.symHas o false)=true:=by simpa using hc.2
    dsimp only at hk
    unfold upd at hk
    split at hk
    ·rename_i e
     subst e
     rw [Int.toNat_of_nonneg (hin p hp).1]
     rw [List.all_eq_true] at hall
     have:∀ b:List cc,(∀ s∈b,s∈p.2)→∃ n,Gen (PrR ps) n b []:=by
      intro b
      induction b with
      | nil=>intro _;exact ⟨0,.nil⟩
      | cons s b ih=>
       intro hb
       obtain ⟨n,g⟩:=ih fun x hx=>hb x (by simp [hx])
       have hs:=hall s (hb s (by simp))
       have hin2:=(hin p hp).2 s (hb s (by simp))
       obtain ⟨c,B⟩:=s
       unfold Pr.symHas at hs
       cases c with
       | true=>simp at hs
       | false=>
        have hs:o B.toNat=true:=by simpa using hs
        obtain ⟨m,g2⟩:=hJ _ hs
        rw [Int.toNat_of_nonneg (hin2 rfl)] at g2
        exact ⟨max m n,(g2.mono (Nat.le_max_left _ _)).app (s:=[(false,B)]) (u:=[]) (g.mono (Nat.le_max_right _ _))⟩
     obtain ⟨n,g⟩:=this p.2 fun _ h=>h
     exact ⟨n+1,Gen.of (R:=PrR ps) hp g⟩
    ·exact hJ k hk
 ·rintro ⟨n,g⟩
  have:∀ (n:Nat) (s:List cc) (w:List Int),Gen (PrR ps) n s w→w=[]→∀ x∈s,Pr.symHas o false x=true:=by
   intro n s w g
   induction g with
   | nil=>intro _ x hx;cases hx
   | lab _ _=>intro e;cases e
   | @nt n A b r u v hb _ _ ih1 ih2=>
    intro e x hx
    obtain ⟨e1,e2⟩:=List.append_eq_nil_iff.1 e
    rcases List.mem_cons.1 hx with rfl | hx
    ·have h1:=ih1 e1
     have h2:=hF _ hb
     unfold Pr.cloStep at h2
     split at h2
     ·rename_i hc
      rw [Bool.or_eq_true] at hc
      rcases hc with hc | hc
      ·unfold Pr.symHas;simpa using hc
      ·have:b.all (Pr.symHas o false)=true:=List.all_eq_true.2 h1
       dsimp only at hc
       rw [this] at hc
       cases hc
     ·cases h2
    ·exact ih2 e2 x hx
  have:=this n _ _ g rfl (false,A) (by simp)
  unfold Pr.symHas at this
  simpa using this
end
end
section
theorem od {E E':Int→Bool}:∀ {b:List cc},(∀ s∈b,Pr.nulS E s=Pr.nulS E' s)→Pr.subs E b=Pr.subs E' b
 | [],_=>rfl
 | s::b,h=>by rw [Pr.subs,Pr.subs,od fun x hx=>h x (by simp [hx]),h s (by simp)]
theorem wa {E E':Int→Bool} {ps:List PrW} (h:∀ p∈ps,∀ s∈p.2,s.1=false→E s.2=E' s.2) (p:PrW):Pr.WithP E ps p↔Pr.WithP E' ps p:=by
 unfold Pr.WithP
 refine exists_congr fun b=>and_congr_right fun hb=>?_
 rw [od (E:=E) (E':=E') fun s hs=>?_]
 unfold Pr.nulS
 cases hf:s.1
 ·rw [h _ hb s hs hf]
 ·rfl
theorem tM {ps qs:List PrW} {o:Nat→Bool} (hin:∀ p∈ps,0≤p.1∧∀ s∈p.2,s.1=false→0≤s.2) (hR:Pr.Reach (Pr.cloStep false) ps (fun _=>false) o) (hF:∀ p∈ps,(Pr.cloStep false o p).2=false)
  (hq:∀ p,p∈qs↔Pr.WithP (Pr.EO o) ps p) (A:Int) {w:List Int} (hw:w≠[]):Has (PrR qs) A w↔Has (PrR ps) A w:=by
 refine tL (E:=fun B=>decide (0≤B) && Pr.EO o B) (fun B=>?_) (fun p=>(hq p).trans (wa (fun p hp s hs hf=>?_) p)) A hw
 ·by_cases hB:0≤B
  ·rw [decide_eq_true hB,Bool.true_and]
   exact Cr hin hR hF B hB
  ·rw [decide_eq_false hB,Bool.false_and]
   refine ⟨fun h=>(by cases h),fun ⟨n,g⟩=>?_⟩
   obtain ⟨_,b,_,hb,_⟩:=g.one
   exact absurd (hin _ hb).1 hB
 ·rw [decide_eq_true ((hin p hp).2 s hs hf),Bool.true_and]
def f8 (ns ls:List (List UInt8)) (s:cc):List UInt8:=((if s.1=true then ls else ns)[s.2.toNat]?).getD []
def jM (ns ls:List (List UInt8)) (s:cc):Tree:=.node (if s.1=true then 3 else 2) (f8 ns ls s) []
def kS (ns ls:List (List UInt8)):List cc→Tree
 | []=>.node 1 [] []
 | [s]=>jM ns ls s
 | s::t::b=>.node 4 [] ((s::t::b).map (jM ns ls))
def mX (ns ls:List (List UInt8)) (p:PrW):RuleD:=⟨(ns[p.1.toNat]?).getD [],flat (kS ns ls p.2)⟩
def di (ns ls:List (List UInt8)) (ps:List PrW):List RuleD:=ps.map (mX ns ls)
section
variable {ns ls:List (List UInt8)}
theorem ph {s:cc} {b:List (Bool × List UInt8)}:Lg fc (jM ns ls s) b↔b=[(s.1,f8 ns ls s)]:=by
 obtain ⟨c,n⟩:=s
 unfold jM
 cases c
 ·exact nL (k:=2) (.inl rfl)
 ·exact nL (k:=3) (.inr rfl)
theorem pg:∀ {l:List cc} {b:List (Bool × List UInt8)},LgS fc (l.map (jM ns ls)) b↔b=l.map fun s=>(s.1,f8 ns ls s)
 | [],b=>eH
 | s::l,b=>by
  rw [List.map_cons,co,List.map_cons]
  constructor
  ·rintro ⟨u,v,rfl,h1,h2⟩
   rw [ph.1 h1,pg.1 h2];rfl
  ·rintro rfl
   exact ⟨_,_,rfl,ph.2 rfl,pg.2 rfl⟩
theorem vQ {l:List cc} {b:List (Bool × List UInt8)}:Lg fc (kS ns ls l) b↔b=l.map fun s=>(s.1,f8 ns ls s):=by
 match l with
 | []=>show Lg fc (.node 1 [] []) b↔_;rw [Lg,if_pos rfl];rfl
 | [s]=>exact ph
 | s::t::l=>show Lg fc (.node 4 [] ((s::t::l).map (jM ns ls))) b↔_;rw [wG,pg]
theorem vq {ps:List PrW} {A:List UInt8} {b:List (Bool × List UInt8)}:GrR (di ns ls ps) A b↔∃ p∈ps,(ns[p.1.toNat]?).getD []=A∧b=p.2.map fun s=>(s.1,f8 ns ls s):=by
 unfold GrR
 rw [tf]
 unfold aD bl di
 constructor
 ·rintro ⟨t,ht,hl⟩
  obtain ⟨c,hc,rfl⟩:=List.mem_map.1 ht
  obtain ⟨r,hr,rfl⟩:=List.mem_map.1 hc
  rw [List.mem_filter] at hr
  obtain ⟨p,hp,rfl⟩:=List.mem_map.1 hr.1
  have he:=of_decide_eq_true hr.2
  unfold mX at he hl
  dsimp only at he hl
  rw [bW] at hl
  exact ⟨p,hp,he,vQ.1 hl⟩
 ·rintro ⟨p,hp,he,hb⟩
  refine ⟨kS ns ls p.2,List.mem_map.2 ⟨flat (kS ns ls p.2),List.mem_map.2 ⟨mX ns ls p,List.mem_filter.2 ⟨List.mem_map.2 ⟨p,hp,rfl⟩,decide_eq_true he⟩,rfl⟩,bW _⟩,vQ.2 hb⟩
theorem vg (hn:ns.Nodup) (hl:ls.Nodup) {s:cc} (h0:0≤s.2) (h1:s.2.toNat < (if s.1=true then ls else ns).length):kb ns ls s.1 (f8 ns ls s)∧bZ ns ls s.1 (f8 ns ls s)=s.2:=by
 have e:=List.getElem?_eq_getElem h1
 unfold kb f8 bZ gN
 rw [e]
 have hd:(if s.1=true then ls else ns).Nodup:=by split <;> assumption
 refine ⟨List.getElem_mem h1,?_⟩
 rw [Option.getD_some,mu hd e,Option.getD_some,Int.toNat_of_nonneg h0]
theorem yB {C:Pr.CnfD} (hok:Pr.okC C=true) (hn:ns.Nodup) (hl:ls.Nodup) (hnl:(ns.length:Int)=C.nts) (hll:∀ p∈C.prods,∀ s∈p.2,s.1=true→s.2.toNat < ls.length) {A:List UInt8} (hA:A∈ns) (w:List (List UInt8)) :
  Has (GrR (di ns ls C.prods)) A w↔(∀ x∈w,x∈ls)∧Has (PrR C.prods) (bZ ns ls false A) (w.map (bZ ns ls true)):=by
 have hin:∀ p∈C.prods,(0≤p.1∧p.1 < C.nts)∧∀ s∈p.2,0≤s.2∧s.2.toNat < (if s.1=true then ls else ns).length:=fun p hp=>by
  refine ⟨Pr.okC_prod hok hp,fun s hs=>?_⟩
  unfold Pr.okC at hok
  rw [Bool.and_eq_true] at hok
  have h2:=List.all_eq_true.1 hok.2 p hp
  unfold Pr.prodOK at h2
  rw [Bool.and_eq_true] at h2
  have h3:=List.all_eq_true.1 h2.2 s hs
  unfold Pr.symOK at h3
  simp only [Bool.not_eq_true',Bool.or_eq_false_iff,decide_eq_false_iff_not] at h3
  refine ⟨by omega,?_⟩
  cases hc:s.1
  ·rw [if_neg Bool.false_ne_true]
   rw [hc] at h3
   have:¬ C.nts≤s.2:=by simpa using h3.2
   omega
  ·rw [if_pos rfl]
   exact hll p hp s hs hc
 have hback:∀ p∈C.prods,(p.2.map fun s=>(s.1,f8 ns ls s)).map (wE (bZ ns ls))=p.2:=fun p hp=>by
  rw [List.map_map]
  conv=>rhs;rw [← List.map_id p.2]
  refine List.map_congr_left fun s hs=>?_
  have:=(vg hn hl ((hin p hp).2 s hs).1 ((hin p hp).2 s hs).2).2
  show (s.1,bZ ns ls s.1 (f8 ns ls s))=s
  rw [this]
 refine xN (F:=bZ ns ls) (K:=kb ns ls) (fun A b hA hb=>?_) (fun A b hA hb=>?_) (fun x y hx hy e=>xM x y hx hy (by unfold bZ at e;omega)) hA
 ·obtain ⟨p,hp,he,rfl⟩:=vq.1 hb
  have h1:=(hin p hp).1
  have e:=List.getElem?_eq_getElem (l:=ns) (i:=p.1.toNat) (by omega)
  rw [e,Option.getD_some] at he
  refine ⟨?_,fun s hs=>?_⟩
  ·show (bZ ns ls false A,_)∈C.prods
   rw [hback p hp]
   have:bZ ns ls false A=p.1:=by
    unfold bZ gN
    rw [if_neg Bool.false_ne_true,mu hn (by rw [e,he]),Option.getD_some,Int.toNat_of_nonneg h1.1]
   rw [this]
   exact hp
  ·obtain ⟨t,ht,rfl⟩:=List.mem_map.1 hs
   exact (vg hn hl ((hin p hp).2 t ht).1 ((hin p hp).2 t ht).2).1
 ·have hb:(bZ ns ls false A,b)∈C.prods:=hb
  refine ⟨b.map fun s=>(s.1,f8 ns ls s),vq.2 ⟨_,hb,?_,rfl⟩,(hback _ hb).symm⟩
  have:=gD hA
  rw [if_neg Bool.false_ne_true] at this
  show (ns[(bZ ns ls false A).toNat]?).getD []=A
  unfold bZ
  rw [Int.toNat_natCast,this]
  rfl
end
def qM (r:RuleD):RuleD:=⟨r.head,flat (bM (gj r.body))⟩
def ey (g:List RuleD):List RuleD:=g.map qM
theorem wd (A:List UInt8) (g:List RuleD):aD A (ey g)=(aD A g).map bM:=by
 unfold aD bl ey
 rw [List.filter_map,List.map_map,List.map_map,List.map_map,List.map_map]
 refine List.map_congr_left fun r hr=>?_
 show gj (flat (bM (gj r.body)))=_
 rw [bW]
 rfl
theorem Ag (g:List RuleD) (A:List UInt8) (w:List (List UInt8)):Has (GrR (ey g)) A w.reverse↔Has (GrR g) A w:=
 Bh (fun A b=>by
  unfold GrR
  rw [wd]
  exact Ah _ b) A w
theorem wb (g:List RuleD):aS (ey g)=aS g:=by
 unfold aS ey
 rw [List.foldl_map]
 rfl
end
section
def aN (ps:List PaD):List Nat:=ps.flatMap fun p=>p.fins.map (·+p.first)
def aQ (ps:List PaD):List ArD:=ps.flatMap fun p=>p.arcs.map fun x=>⟨x.src+p.first,x.sym,x.dst+p.first⟩
def Bq (ps:List PaD) (q:Nat):PrW:=(dU ps q,[])
def Cy (ps:List PaD) (x:ArD):PrW:=(dU ps x.src,[l4 x.sym,(false,dU ps x.dst)])
def l7 (ps:List PaD):List PrW:=(aN ps).map (Bq ps)++(aQ ps).map (Cy ps)
def iX (ps:List PaD):Int:=((ps.length+nsF ps (dt ps):Nat):Int)
section
variable {leaf:Nat→List UInt8→SyD} {Q:SyD→Prop}
mutual
theorem Bl:∀ (t:Tree) (st:GSt),(∀ s∈st.1,Q s)→(∀ m∈flat t,m.kind=2∨m.kind=3→Q (leaf m.kind m.name))→∀ s∈(bC leaf t st).2.1,Q s
 | .node k n ts,st,h1,h2=>by
  rw [bC]
  by_cases h23:k=2∨k=3
  ·rw [if_pos h23]
   intro s hs
   rcases List.mem_append.1 hs with hs | hs
   ·exact h1 s hs
   ·rw [List.mem_singleton.1 hs]
    exact h2 ⟨k,n,ts.length⟩ (by rw [flat];exact List.mem_cons_self ..) h23
  ·rw [if_neg h23]
   have:=lU k ts ⟨decide (k=1) || decide (k=4),[],[]⟩ st h1 (fun m hm=>h2 m (by rw [flat];exact List.mem_cons_of_mem _ hm))
   dsimp only
   split
   ·exact this
   ·exact this
theorem lU (k:Nat):∀ (ts:List Tree) (out:PtD) (st:GSt),(∀ s∈st.1,Q s)→(∀ m∈ay ts,m.kind=2∨m.kind=3→Q (leaf m.kind m.name))→∀ s∈(bQ leaf k ts out st).2.1,Q s
 | [],out,st,h1,_=>by rw [bQ];exact h1
 | t::ts,out,st,h1,h2=>by
  rw [ay] at h2
  have ht:=Bl t st h1 (fun m hm=>h2 m (List.mem_append.2 (.inl hm)))
  rw [bQ]
  split
  ·exact lU k ts _ _ ht (fun m hm=>h2 m (List.mem_append.2 (.inr hm)))
  ·exact lU k ts _ _ ht (fun m hm=>h2 m (List.mem_append.2 (.inr hm)))
end
end
theorem pw:∀ {ts:List Tree} {m:NodeD},m∈ay ts→∃ t∈ts,m∈flat t
 | [],m,h=>by rw [ay] at h;cases h
 | t::ts,m,h=>by
  rw [ay,List.mem_append] at h
  rcases h with h | h
  ·exact ⟨t,by simp,h⟩
  ·obtain ⟨u,hu,hm⟩:=pw h
   exact ⟨u,by simp [hu],hm⟩
theorem qS {S:List SyD} {q:Nat} (h:0 < q∧q≤S.length):ce S q∈S:=by
 unfold ce
 rw [List.getElem?_eq_getElem (by omega)]
 exact List.getElem_mem _
section
variable {g:List RuleD} {ns ls:List (List UInt8)}
def BG (ns ls:List (List UInt8)) (s:SyD):Prop:=(s.lab=false→s.num < ns.length)∧(s.lab=true→s.num < ls.length)
theorem xV (h:TabOK g ns ls) (s:List UInt8):∀ x∈cj (aB ns ls) (aD s g),BG ns ls x.sym:=by
 have hS:∀ y∈(dl (aB ns ls) (aD s g)).2.1,BG ns ls y:=lU (Q:=BG ns ls) 5 _ _ _ (fun y hy=>by cases hy) (fun m hm hk=>by
  obtain ⟨t,ht,hm⟩:=pw hm
  obtain ⟨r,hr,_,e,_⟩:=cJ h ht
  obtain ⟨k1,k2⟩:=rO h hr (by rw [← e];exact hm) hk
  rw [← k2]
  have:=(List.getElem?_eq_some_iff.1 (gD k1)).1
  refine ⟨fun hf=>?_,fun ht=>?_⟩
  ·have hf:(fc m.kind m.name).1=false:=hf
   rw [hf,if_neg Bool.false_ne_true] at this
   show gN ns ls (fc m.kind m.name).1 _ < _
   rw [hf]
   exact this
  ·have ht:(fc m.kind m.name).1=true:=ht
   rw [ht,if_pos rfl] at this
   show gN ns ls (fc m.kind m.name).1 _ < _
   rw [ht]
   exact this)
 obtain ⟨h1,h2,_⟩:=i5 (leaf:=aB ns ls) (ts:=aD s g) fun t ht=>let ⟨_,_,_,_,e⟩:=cJ h ht;e
 intro x hx
 rcases List.mem_append.1 (k9.1 hx) with hx | hx
 ·obtain ⟨_,a,b⟩:=h2.arc x hx
  rw [b]
  exact hS _ (qS (by rw [h1];exact a))
 ·obtain ⟨_,a,b⟩:=dw.1 hx
  rw [b]
  exact hS _ (qS (by rw [h1];exact h2.fst _ a))
abbrev psM (ns ls:List (List UInt8)) (g:List RuleD):List PaD:=cS (aB ns ls) g 0 ns
def ff (ns ls:List (List UInt8)) (g:List RuleD) (j:Nat):Nat:=(((psM ns ls g)[j]?).map PaD.first).getD 0
def r9 (ns ls:List (List UInt8)) (g:List RuleD) (j:Nat):Nat:=dD (aB ns ls) g (ns[j]?.getD [])
def sX (ns ls:List (List UInt8)) (g:List RuleD) (j q:Nat):Int:=dU (psM ns ls g) (ff ns ls g j+q)
theorem fR {j:Nat} (hj:j < ns.length):(psM ns ls g)[j]?=some ⟨r9 ns ls g j,iC ns ls g j,i6 ns ls g j,ff ns ls g j⟩:=by
 obtain ⟨f,hf⟩:=oP (aB ns ls) g ns 0 j ns[j] (List.getElem?_eq_getElem hj)
 unfold r9 iC i6 ff
 rw [hf,List.getElem?_eq_getElem hj]
 rfl
theorem cZ:ka 0 (psM ns ls g):=lD _ _ _ _
theorem psM_len:(psM ns ls g).length=ns.length:=oO _ _ _ _
theorem wC (h:TabOK g ns ls):MchOK ns.length (r9 ns ls g) (i6 ns ls g) (sX ns ls g):=by
 refine ⟨fun j hj=>?_,fun j j' q q' hj hj' hq hq' e=>?_,fun j hj=>Nat.succ_pos _,fun j hj x hx=>?_⟩
 ·exact yI cZ (fR hj)
 ·have a:=dJ cZ (fR (g:=g) (ls:=ls) hj)
  have a':=dJ cZ (fR (g:=g) (ls:=ls) hj')
  dsimp only at a a'
  have:=C9 cZ (q:=ff ns ls g j+q) (q':=ff ns ls g j'+q') (by omega) (by omega) e
  have e1:=ib cZ (fR (g:=g) (ls:=ls) hj) (q:=ff ns ls g j+q) (by dsimp only;omega) (by dsimp only;omega)
  have e2:=ib cZ (fR (g:=g) (ls:=ls) hj') (q:=ff ns ls g j'+q') (by dsimp only;omega) (by dsimp only;omega)
  rw [this,e2] at e1
  subst e1
  exact ⟨rfl,by omega⟩
 ·have a:=(gJ h (ns[j]?.getD [])).arc x hx
  exact ⟨a.1,a.2,(xV h _ x hx).1⟩
theorem nG (h:TabOK g ns ls) (A:Int) (b:List cc):(A,b)∈l7 (psM ns ls g)↔StR ns.length (r9 ns ls g) (iC ns ls g) (i6 ns ls g) (sX ns ls g) A b:=by
 unfold l7 StR aN aQ
 rw [List.mem_append,List.mem_map,List.mem_map]
 constructor
 ·rintro (⟨q,hq,e⟩ | ⟨x,hx,e⟩)
  ·obtain ⟨p,hp,hq⟩:=List.mem_flatMap.1 hq
   obtain ⟨q',hq',rfl⟩:=List.mem_map.1 hq
   obtain ⟨j,hj⟩:=List.getElem?_of_mem hp
   have hlt:=(List.getElem?_eq_some_iff.1 hj).1
   rw [psM_len] at hlt
   rw [fR hlt] at hj
   cases hj
   unfold Bq at e
   cases e
   exact ⟨j,q',hlt,(gJ h _).fin q' hq',by unfold sX;rw [Nat.add_comm],.inl ⟨rfl,hq'⟩⟩
  ·obtain ⟨p,hp,hx⟩:=List.mem_flatMap.1 hx
   obtain ⟨x',hx',rfl⟩:=List.mem_map.1 hx
   obtain ⟨j,hj⟩:=List.getElem?_of_mem hp
   have hlt:=(List.getElem?_eq_some_iff.1 hj).1
   rw [psM_len] at hlt
   rw [fR hlt] at hj
   cases hj
   unfold Cy at e
   cases e
   exact ⟨j,x'.src,hlt,((gJ h _).arc x' hx').1,by unfold sX;rw [Nat.add_comm],.inr ⟨x',hx',rfl,by unfold sX;rw [Nat.add_comm (ff ns ls g j)]⟩⟩
 ·rintro ⟨j,q,hj,hq,rfl,(⟨rfl,hf⟩ | ⟨x,hx,rfl,rfl⟩)⟩
  ·refine .inl ⟨q+ff ns ls g j,List.mem_flatMap.2 ⟨_,List.mem_of_getElem? (fR hj),List.mem_map.2 ⟨q,hf,rfl⟩⟩,?_⟩
   unfold Bq sX
   rw [Nat.add_comm]
  ·refine .inr ⟨⟨x.src+ff ns ls g j,x.sym,x.dst+ff ns ls g j⟩,List.mem_flatMap.2 ⟨_,List.mem_of_getElem? (fR hj),List.mem_map.2 ⟨x,hx,rfl⟩⟩,?_⟩
   unfold Cy sX
   rw [Nat.add_comm,Nat.add_comm (ff ns ls g j) x.dst]
theorem xu {c:Nat} {x:List UInt8}:∀ {l:List (List UInt8)},l.Nodup→(l.map fun s=>if decide (x=s)=true then c else 0).sum≤c
 | [],_=>Nat.zero_le _
 | y::l,h=>by
  rw [List.nodup_cons] at h
  rw [List.map_cons,List.sum_cons]
  by_cases e:x=y
  ·subst e
   have:∀ m:List (List UInt8),x ∉ m→(m.map fun s=>if decide (x=s)=true then c else 0).sum=0:=by
    intro m
    induction m with
    | nil=>intro _;rfl
    | cons z m ih=>
     intro hm
     rw [List.map_cons,List.sum_cons,ih fun k=>hm (by simp [k]),decide_eq_false fun k=>hm (by simp [k]),if_neg Bool.false_ne_true]
   rw [this l h.1,decide_eq_true rfl,if_pos rfl]
   exact Nat.le_refl _
  ·have:=xu (c:=c) (x:=x) h.2
   rw [decide_eq_false e,if_neg Bool.false_ne_true,Nat.zero_add]
   exact this
theorem qT (f:RuleD→Nat) {l:List (List UInt8)} (hl:l.Nodup):∀ g:List RuleD,(l.map fun s=>((g.filter fun r=>decide (r.head=s)).map f).sum).sum≤(g.map f).sum
 | []=>by
  rw [show (l.map fun s=>(([]:List RuleD).filter fun r=>decide (r.head=s)).map f |>.sum)=l.map fun _=>0 from rfl]
  clear hl
  induction l with
  | nil=>exact Nat.le_refl _
  | cons x l ih=>rw [List.map_cons,List.sum_cons,Nat.zero_add];exact ih
 | r::g=>by
  have ih:=qT f hl g
  have h1:=xu (c:=f r) (x:=r.head) hl
  have:∀ m:List (List UInt8),(m.map fun s=>(((r::g).filter fun r=>decide (r.head=s)).map f).sum).sum=(m.map fun s=>if decide (r.head=s)=true then f r else 0).sum+(m.map fun s=>((g.filter fun r=>decide (r.head=s)).map f).sum).sum:=by
   intro m
   induction m with
   | nil=>rfl
   | cons x m ihm=>
    rw [List.map_cons,List.sum_cons,ihm,List.map_cons,List.sum_cons,List.map_cons,List.sum_cons,List.filter_cons]
    split
    ·rw [List.map_cons,List.sum_cons];omega
    ·omega
  rw [this,List.map_cons,List.sum_cons]
  omega
theorem qZ (h:TabOK g ns ls):aU (aB ns ls) g ns≤64+ns.length:=by
 have h1:∀ s,dD (aB ns ls) g s=((g.filter fun r=>decide (r.head=s)).map fun r=>dC r.body).sum+1:=fun s=>by
  have a:=(i5 (leaf:=aB ns ls) (ts:=aD s g) fun t ht=>let ⟨_,_,_,_,e⟩:=cJ h ht;e).1
  have b:=eW h s
  have c:gM (aD s g)=((bl s g).map dC).sum:=by
   unfold gM
   rw [← kY h s,List.map_map]
   rfl
  unfold bl at c
  rw [List.map_map] at c
  unfold dD
  rw [a,b,c]
  rfl
 have h2:=qT (fun r=>dC r.body) h.nd g
 have h3:=uJ g
 have h4:=h.gr.occ
 have h5:∀ l:List (List UInt8),aU (aB ns ls) g l=(l.map fun s=>((g.filter fun r=>decide (r.head=s)).map fun r=>dC r.body).sum).sum+l.length:=by
  intro l
  unfold aU
  induction l with
  | nil=>rfl
  | cons x l ih=>rw [List.map_cons,List.sum_cons,ih,h1,List.map_cons,List.sum_cons,List.length_cons];omega
 rw [h5]
 omega
theorem C7 (h:TabOK g ns ls) {ps:List PrW} (hp:∀ p,p∈ps↔p∈l7 (psM ns ls g)) {j:Nat} (hj:j < ns.length) (w:List Int):Has (PrR ps) (j:Nat) w↔Has (BxR ns.length (iC ns ls g) (i6 ns ls g)) (j:Nat) w:=by
 rw [← zx (wC h) hj w]
 exact rW (fun A b=>(hp (A,b)).trans (nG h A b)) _ _
theorem CP (h:TabOK g ns ls) (hn:0 < ns.length) {C:Pr.CnfD} (hnt:C.nts=iX (psM ns ls g)) (hp:∀ p,p∈C.prods↔p∈l7 (psM ns ls g)):Pr.okC C=true∧(∀ p∈C.prods,p.2.length≤2)∧(∀ p∈C.prods,∀ s∈p.2,s.1=true→s.2.toNat < ls.length)∧(ns.length:Int)≤C.nts∧C.nts≤96:=by
 have hS:dt (psM ns ls g)≤64+ns.length:=by rw [iW];exact qZ h
 have hns:=t6 (psM ns ls g) (dt (psM ns ls g))
 have hll:=h.ll
 have hn16:ns.length≤16:=by rw [h.hd];exact h.gr.nts
 have hnts:iX (psM ns ls g)=((ns.length+nsF (psM ns ls g) (dt (psM ns ls g)):Nat):Int):=by unfold iX;rw [psM_len]
 have hlt:∀ j q,j < ns.length→q < r9 ns ls g j→0≤sX ns ls g j q∧sX ns ls g j q < iX (psM ns ls g):=fun j q hj hq=>by
  have a:=dJ cZ (fR (g:=g) (ls:=ls) hj)
  dsimp only at a
  exact CT cZ (q:=ff ns ls g j+q) (by omega)
 have hall:∀ p∈C.prods,(0≤p.1∧p.1 < C.nts)∧p.2.length≤2∧∀ s∈p.2,0≤s.2∧(s.1=true→s.2.toNat < ls.length)∧(s.1=false→s.2 < C.nts):=fun p hpm=>by
  obtain ⟨A,b⟩:=p
  obtain ⟨j,q,hj,hq,rfl,hb⟩:=(nG h A b).1 ((hp _).1 hpm)
  rw [hnt]
  refine ⟨hlt j q hj hq,?_⟩
  rcases hb with ⟨rfl,_⟩ | ⟨x,hx,rfl,rfl⟩
  ·exact ⟨Nat.zero_le _,fun s hs=>by cases hs⟩
  ·have ha:=(wC h).arc j hj x hx
   have hi:=xV h _ x hx
   refine ⟨Nat.le_refl _,fun s hs=>?_⟩
   simp only [List.mem_cons,List.not_mem_nil,or_false] at hs
   rcases hs with rfl | rfl
   ·refine ⟨Int.natCast_nonneg _,fun ht=>by rw [Int.toNat_natCast];exact hi.2 ht,fun hf=>?_⟩
    have:=hi.1 hf
    show ((x.sym.num:Nat):Int) < _
    rw [hnts];omega
   ·exact ⟨(hlt j x.dst hj ha.2.1).1,fun ht=>(by cases ht),fun _=>(hlt j x.dst hj ha.2.1).2⟩
 refine ⟨?_,fun p hp=>(hall p hp).2.1,fun p hp s hs=>((hall p hp).2.2 s hs).2.1,by rw [hnt,hnts];omega,?_⟩
 ·unfold Pr.okC
  rw [Bool.and_eq_true,List.all_eq_true]
  refine ⟨?_,fun p hpm=>?_⟩
  ·rw [hnt,hnts]
   simp only [Bool.not_eq_true',Bool.or_eq_false_iff,decide_eq_false_iff_not]
   refine ⟨by omega,?_⟩
   omega
  ·obtain ⟨a,_,c⟩:=hall p hpm
   unfold Pr.prodOK
   rw [Bool.and_eq_true,List.all_eq_true]
   refine ⟨by simp only [Bool.not_eq_true',Bool.or_eq_false_iff,decide_eq_false_iff_not];omega,fun s hs=>?_⟩
   obtain ⟨c1,c2,c3⟩:=c s hs
   unfold Pr.symOK
   simp only [Bool.not_eq_true',Bool.or_eq_false_iff,decide_eq_false_iff_not]
   cases hc:s.1
   ·have:=c3 hc
    simp
    omega
   ·have:=c2 hc
    simp
    omega
 ·rw [hnt,hnts];omega
end
end
section
def shN (f i:Nat) (l:List Nat):List Nat:=(l.take i).map (·+f)++l.drop i
theorem xx (f i:Nat) (l:List Nat):(shN f i l).length=l.length:=by unfold shN;rw [List.length_append,List.length_map,← List.length_append,List.take_append_drop]
theorem Az (f:Nat) (l:List Nat):shN f 0 l=l:=rfl
theorem C1 (f:Nat) (l:List Nat):shN f l.length l=l.map (·+f):=by unfold shN;rw [List.take_length,List.drop_length,List.append_nil]
theorem C0 {f i:Nat} {l:List Nat} {m:Nat} (h:l[i]?=some m):(shN f i l)[i]?=some m:=by
 have hi:=(List.getElem?_eq_some_iff.1 h).1
 unfold shN
 rw [List.getElem?_append_right (by rw [List.length_map,List.length_take];omega),List.length_map,List.length_take,Nat.min_eq_left (by omega),Nat.sub_self,List.getElem?_drop,Nat.add_zero]
 exact h
theorem BZ {f i:Nat} {l:List Nat} {m:Nat} (h:l[i]?=some m):(shN f i l).set i (m+f)=shN f (i+1) l:=by
 have hi:=(List.getElem?_eq_some_iff.1 h).1
 unfold shN
 rw [aG h,List.map_append,List.set_append_right _ _ (by rw [List.length_map,List.length_take];omega),List.length_map,List.length_take,Nat.min_eq_left (by omega),Nat.sub_self,dg h,List.append_assoc]
 rfl
theorem yT {l:List Nat} {rst:List Value} {i m:Nat} (h:i < l.length):(az l++rst).set (0+i * 1) (i64 (m:Nat))=az (l.set i m)++rst:=by
 rw [Nat.zero_add,Nat.mul_one,List.set_append_left _ _ (by unfold az;rw [List.length_map];exact h)]
 unfold az
 rw [List.map_set]
theorem AY {l:List Nat} {rst:List Value} {i m:Nat} (h:l[i]?=some m):(az l++rst)[0+i * 1]?=some (i64 (m:Nat)):=by
 have hi:=(List.getElem?_eq_some_iff.1 h).1
 rw [Nat.zero_add,Nat.mul_one,List.getElem?_append_left (by unfold az;rw [List.length_map];exact hi)]
 unfold az
 rw [List.getElem?_map,h]
 rfl
attribute [local irreducible] bO cz G GO GR GT GW Fn FnX FnV FnXV Dfr pt init exs pur sat own ImpS az aP cO shN
theorem zH (p:PaD) (vf va:Value) (z:HP) (hf:bU z vf p.fins) (ha:qI z va p.arcs) (hl:¬ 65536 < p.fins.length) (hb:∀ q∈p.fins,¬ 65536 < q) (hfi:¬ 65536 < p.first):Fn Tryz.prog 74 #[.agg (gL p vf va).toArray] [z] (fun r Q=>Q=[dV r (p.fins.map (·+p.first)),z]):=by
 have hcl:=jX z vf p.fins hf (by omega)
 have o1:=cE hf;have o2:=ha.one
 refine Fn.mk2 Tryz.func74 rfl rfl fun w0 F=>?_
 (apply Ru;refine sbx fun b1=>?_;apply Ru)
 refine scl (hcl) ?_
 rintro v8 _ rfl
 refine GO.own_open Tk.h (fun hv hn _=>?_) (fun b cap rst hv g1 g2 g3 g4=>?_)
 ·subst hv
  have e0:p.fins=[]:=List.length_eq_zero_iff.1 hn
  apply Ru
  refine G.loopI (σ:=Unit) (fun _=>[(3,.slice none 0 0),(10,i64 ((0:Nat):Int)),(11,i64 ((0:Nat):Int))]) (fun _=>z::F) (fun _=>True) (fun _=>0) () trivial ?_ ?_ ?_
  ·exact SE rfl
  ·exact ImpS.sb SB
  intro _ _
  refine G.ownNil (T:=3) (sz:=1) ?_
  (apply Ru;refine G.condF rfl rfl ?_;apply Ru)
  refine KF2.r1 rfl (RV.t rfl) rfl (ImpS.sb ?_)
  rw [e0,show dV (.slice none 0 0) (([]:List Nat).map (·+p.first))=own 3 1 0 (.slice none 0 0) [] by unfold dV az;rfl]
  exact SB
 subst hv
 unfold maxLen at g3
 apply Ru
 refine G.loopI (σ:=Nat) (fun i=>[(1,ah b1),(3,.slice (some ⟨b,0,none⟩) p.fins.length cap),(10,i64 (p.fins.length:Nat)),(11,i64 (i:Nat))]) (fun i=>pt b (row (az (shN p.first i p.fins)++rst) 3)::pt b1 (row (gL p vf va) 76)::z::F) (fun i=>i≤p.fins.length) (fun i=>p.fins.length - i) 0 (Nat.zero_le _) ?_ ?_ ?_
 ·exact SE rfl
 ·rw [Az]
  exact ImpS.sb SB
 intro i hi
 apply Ru
 by_cases hlt:i < p.fins.length
 ·have d1:decide ((i:Int) < (p.fins.length:Int))=true:=decide_eq_true (by omega)
  obtain ⟨m,hm⟩:∃ m,p.fins[i]?=some m:=⟨_,List.getElem?_eq_getElem hlt⟩
  have hmb:=hb m (List.mem_of_getElem? hm)
  have rm:Rd (pt b (row (az (shN p.first i p.fins)++rst) 3)) ⟨b,0+i * 1,none⟩ (i64 (m:Nat)):=Rd.row (AY (C0 hm))
  refine scT ?_
  refine dr 8 ?_
  (apply Ru;refine qix ?_;refine qld (by assumption) ?_;apply Ru;(apply GQ.step;focus (intro Z;refine GO.addi rfl rfl rfl (by omega) ?_;exact KQ.z));refine qix ?_)
  rw [show ((m:Nat):Int)+(p.first:Nat)=((m+p.first:Nat):Int) from (Int.natCast_add _ _).symm]
  refine GO.store1 rfl rfl rfl Tk.h (by rw [Nat.zero_add,Nat.mul_one,List.length_append];unfold az;rw [List.length_map,xx];omega) ?_
  rw [yT (by rw [xx];exact hlt),BZ hm]
  (apply Ru;refine sad ?_)
  refine ⟨i+1,hlt,by omega,?_,ImpS.sb ?_⟩
  ·exact SE rfl
  ·exact SB
 ·have d1:decide ((i:Int) < (p.fins.length:Int))=false:=decide_eq_false (by omega)
  have hin:i=p.fins.length:=by omega
  subst hin
  rw [C1]
  refine G.imp (H':=own 3 1 p.fins.length (.slice (some ⟨b,0,none⟩) p.fins.length cap) (az (p.fins.map (·+p.first)))::pt b1 (row (gL p vf va) 76)::z::F) (fun _ _ s=>dM rfl (by unfold az;rw [List.length_map,List.length_map,Nat.mul_one]) g2 (by unfold maxLen;exact g3) (by rw [← g4,List.length_append,List.length_append];unfold az;rw [List.length_map,List.length_map,List.length_map]) s) ?_
  refine scF ?_
  refine KF2.r1 rfl (RV.t rfl) rfl (ImpS.sb ?_)
  rw [show dV (.slice (some ⟨b,0,none⟩) p.fins.length cap) (p.fins.map (·+p.first))=own 3 1 p.fins.length (.slice (some ⟨b,0,none⟩) p.fins.length cap) (az (p.fins.map (·+p.first))) by unfold dV;rw [List.length_map]]
  exact SB
end
section
theorem vu {α:Type} {enc:α→List Value} {k:Nat} (hk:∀ x,(enc x).length=k) {j:Nat} (hj:j < k) {u:Value} {y:α}:∀ (l:List α) (i:Nat) (x:α),l[i]?=some x→enc y=(enc x).set j u→(l.flatMap enc).set (i * k+j) u=(l.set i y).flatMap enc
 | z::l,0,x,h,e=>by
  cases h
  rw [List.flatMap_cons,Nat.zero_mul,Nat.zero_add,List.set_append_left _ _ (by rw [hk];exact hj),List.set_cons_zero,List.flatMap_cons,e]
 | z::l,i+1,x,h,e=>by
  rw [List.flatMap_cons,List.set_append_right _ _ (by rw [hk,Nat.add_mul];omega),hk,show (i+1) * k+j - k=i * k+j by rw [Nat.add_mul];omega,vu hk hj l i x h e,List.set_cons_succ,List.flatMap_cons]
def mvA (f:Nat) (x:ArD):ArD:=⟨x.src+f,x.sym,x.dst+f⟩
def shA (f i:Nat) (l:List ArD):List ArD:=(l.take i).map (mvA f)++l.drop i
theorem sN (f i:Nat) (l:List ArD):(shA f i l).length=l.length:=by unfold shA;rw [List.length_append,List.length_map,← List.length_append,List.take_append_drop]
theorem AA (f:Nat) (l:List ArD):shA f 0 l=l:=rfl
theorem C3 (f:Nat) (l:List ArD):shA f l.length l=l.map (mvA f):=by unfold shA;rw [List.take_length,List.drop_length,List.append_nil]
theorem xy {f i:Nat} {l:List ArD} {m:ArD} (h:l[i]?=some m):(shA f i l)[i]?=some m:=by
 have hi:=(List.getElem?_eq_some_iff.1 h).1
 unfold shA
 rw [List.getElem?_append_right (by rw [List.length_map,List.length_take];omega),List.length_map,List.length_take,Nat.min_eq_left (by omega),Nat.sub_self,List.getElem?_drop,Nat.add_zero]
 exact h
theorem C2 {f i:Nat} {l:List ArD} {m:ArD} (h:l[i]?=some m):(shA f i l).set i (mvA f m)=shA f (i+1) l:=by
 have hi:=(List.getElem?_eq_some_iff.1 h).1
 unfold shA
 rw [aG h,List.map_append,List.set_append_right _ _ (by rw [List.length_map,List.length_take];omega),List.length_map,List.length_take,Nat.min_eq_left (by omega),Nat.sub_self,dg h,List.append_assoc]
 rfl
theorem vV {l:List ArD} {rst:List Value} {i j:Nat} {x y:ArD} {u:Value} (h:l[i]?=some x) (hj:j < 4) (e:dY y=(dY x).set j u):(aP l++rst).set (0+i * 4+j) u=aP (l.set i y)++rst:=by
 have hi:=(List.getElem?_eq_some_iff.1 h).1
 rw [Nat.zero_add,List.set_append_left _ _ (by rw [bT];omega)]
 unfold aP
 rw [vu (enc:=dY) (k:=4) (fun _=>rfl) hj l i x h e]
attribute [local irreducible] bO cz G GO GR GT GW Fn FnX FnV FnXV Dfr pt init exs pur sat own ImpS az aP cO shA
theorem wB (p:PaD) (vf va:Value) (z:HP) (hf:bU z vf p.fins) (ha:qI z va p.arcs) (hl:¬ 4294967296 < p.arcs.length) (hb:∀ x∈p.arcs,¬ 65536 < x.src∧¬ 65536 < x.dst) (hfi:¬ 65536 < p.first):Fn Tryz.prog 76 #[.agg (gL p vf va).toArray] [z] (fun r Q=>Q=[iu r (p.arcs.map (mvA p.first)),z]):=by
 have hcl:=vJ z va p.arcs ha (by omega)
 have o1:=cE hf;have o2:=ha.one
 refine Fn.mk2 Tryz.func76 rfl rfl fun w0 F=>?_
 (apply Ru;refine sbx fun b1=>?_;apply Ru)
 refine scl (hcl) ?_
 rintro v8 _ rfl
 refine GO.own_open Tk.h (fun hv hn _=>?_) (fun b cap rst hv g1 g2 g3 g4=>?_)
 ·subst hv
  have e0:p.arcs=[]:=List.length_eq_zero_iff.1 hn
  apply Ru
  refine G.loopI (σ:=Unit) (fun _=>[(3,.slice none 0 0),(10,i64 ((0:Nat):Int)),(11,i64 ((0:Nat):Int))]) (fun _=>z::F) (fun _=>True) (fun _=>0) () trivial ?_ ?_ ?_
  ·exact SE rfl
  ·exact ImpS.sb SB
  intro _ _
  refine G.ownNil (T:=87) (sz:=4) ?_
  (apply Ru;refine G.condF rfl rfl ?_;apply Ru)
  refine KF2.r1 rfl (RV.t rfl) rfl (ImpS.sb ?_)
  rw [e0,show iu (.slice none 0 0) (([]:List ArD).map (mvA p.first))=own 87 4 0 (.slice none 0 0) [] by unfold iu aP;rfl]
  exact SB
 subst hv
 unfold maxLen at g3
 apply Ru
 refine G.loopI (σ:=Nat) (fun i=>[(1,ah b1),(3,.slice (some ⟨b,0,none⟩) p.arcs.length cap),(10,i64 (p.arcs.length:Nat)),(11,i64 (i:Nat))]) (fun i=>pt b (row (aP (shA p.first i p.arcs)++rst) 87)::pt b1 (row (gL p vf va) 76)::z::F) (fun i=>i≤p.arcs.length) (fun i=>p.arcs.length - i) 0 (Nat.zero_le _) ?_ ?_ ?_
 ·exact SE rfl
 ·rw [AA]
  exact ImpS.sb SB
 intro i hi
 apply Ru
 by_cases hlt:i < p.arcs.length
 ·have d1:decide ((i:Int) < (p.arcs.length:Int))=true:=decide_eq_true (by omega)
  obtain ⟨m,hm⟩:∃ m,p.arcs[i]?=some m:=⟨_,List.getElem?_eq_getElem hlt⟩
  have hmb:=hb m (List.mem_of_getElem? hm)
  have rm:=kl (b:=b) (rst:=rst) (T:=87) (xy (f:=p.first) hm)
  have r0:=rm 0 (i64 (m.src:Nat)) rfl
  have hs1:=vV (rst:=rst) (j:=0) (y:=⟨m.src+p.first,m.sym,m.dst⟩) (u:=i64 ((m.src+p.first:Nat):Int)) (xy (f:=p.first) hm) (by decide) rfl
  have hg1:((shA p.first i p.arcs).set i ⟨m.src+p.first,m.sym,m.dst⟩)[i]?=some ⟨m.src+p.first,m.sym,m.dst⟩:=by rw [List.getElem?_set_self (by rw [sN];exact hlt)]
  have r3:=kl (b:=b) (rst:=rst) (T:=87) hg1 3 (i64 (m.dst:Nat)) rfl
  have hs2:=vV (rst:=rst) (j:=3) (y:=mvA p.first m) (u:=i64 ((m.dst+p.first:Nat):Int)) hg1 (by decide) rfl
  rw [List.set_set,C2 hm] at hs2
  have hl1:0+i * 4+0 < (aP (shA p.first i p.arcs)++rst).length:=by rw [List.length_append,bT,sN];omega
  have hl2:0+i * 4+3 < (aP ((shA p.first i p.arcs).set i ⟨m.src+p.first,m.sym,m.dst⟩)++rst).length:=by rw [List.length_append,bT,List.length_set,sN];omega
  refine scT ?_
  refine dr 10 ?_
  (apply Ru;refine qix ?_;refine qld (by assumption) ?_;apply Ru;(apply GQ.step;focus (intro Z;refine GO.addi rfl rfl rfl (by omega) ?_;exact KQ.z));refine qix ?_)
  rw [show ((m.src:Nat):Int)+(p.first:Nat)=((m.src+p.first:Nat):Int) from (Int.natCast_add _ _).symm]
  refine GO.store1 rfl rfl rfl Tk.h hl1 ?_
  rw [hs1]
  clear r0 rm
  apply Ru
  refine dr 10 ?_
  (apply Ru;refine qix ?_;refine qld (by assumption) ?_;apply Ru;(apply GQ.step;focus (intro Z;refine GO.addi rfl rfl rfl (by omega) ?_;exact KQ.z));refine qix ?_)
  rw [show ((m.dst:Nat):Int)+(p.first:Nat)=((m.dst+p.first:Nat):Int) from (Int.natCast_add _ _).symm]
  refine GO.store1 rfl rfl rfl Tk.h hl2 ?_
  rw [hs2]
  (apply Ru;refine sad ?_)
  refine ⟨i+1,hlt,by omega,?_,ImpS.sb ?_⟩
  ·exact SE rfl
  ·exact SB
 ·have d1:decide ((i:Int) < (p.arcs.length:Int))=false:=decide_eq_false (by omega)
  have hin:i=p.arcs.length:=by omega
  subst hin
  rw [C3]
  refine G.imp (H':=own 87 4 p.arcs.length (.slice (some ⟨b,0,none⟩) p.arcs.length cap) (aP (p.arcs.map (mvA p.first)))::pt b1 (row (gL p vf va) 76)::z::F) (fun _ _ s=>dM rfl (by rw [bT,List.length_map]) g2 (by unfold maxLen;exact g3) (by rw [← g4,List.length_append,List.length_append,bT,bT,List.length_map]) s) ?_
  refine scF ?_
  refine KF2.r1 rfl (RV.t rfl) rfl (ImpS.sb ?_)
  rw [show iu (.slice (some ⟨b,0,none⟩) p.arcs.length cap) (p.arcs.map (mvA p.first))=own 87 4 p.arcs.length (.slice (some ⟨b,0,none⟩) p.arcs.length cap) (aP (p.arcs.map (mvA p.first))) by unfold iu;rw [List.length_map]]
  exact SB
end
section
structure PsOK (ps:List PaD):Prop where
 len:ps.length≤16
 fin:∀ p∈ps,p.fins.length≤65∧∀ q∈p.fins,q < 65
 arc:∀ p∈ps,¬ 4294967296 < p.arcs.length∧∀ x∈p.arcs,x.src < 65∧x.dst < 65
 fst:∀ p∈ps,p.first+p.n≤1040
theorem ww {z:HP} {b o cap n:Nat} {cells:List Value} {ps:List PaD} {i:Nat} {p:PaD} (hz:Sl z (.slice (some ⟨b,o,none⟩) n cap) ps.length 4 cells) (hP:PartsR z cells ps) (hi:ps[i]?=some p) :
  ∃ vf va,bU z vf p.fins∧qI z va p.arcs∧∀ j u,(gL p vf va)[j]?=some u→Rd z ⟨b,o+i * 4+j,none⟩ u:=by
 obtain ⟨vf,va,h1,h2,h3⟩:=hP.2 i p hi
 have hlt:=(List.getElem?_eq_some_iff.1 hi).1
 obtain ⟨a,c,e,_,hr⟩:=hz
 injection e with e _ _
 subst e
 obtain ⟨b',o',e,hr2⟩:=hr (by omega)
 cases e
 exact ⟨vf,va,h1,h2,fun j u hu=>by rw [Nat.add_assoc];exact hr2 _ _ (h3 j u hu)⟩
theorem nJ {z:HP} {a:Option Addr} {cap n:Nat} {cells:List Value} {ps:List PaD} {i:Nat} {p:PaD} (hz:Sl z (.slice a n cap) ps.length 4 cells) (hP:PartsR z cells ps) (hi:ps[i]?=some p) :
  ∃ b o vf va,a=some ⟨b,o,none⟩∧bU z vf p.fins∧qI z va p.arcs∧∀ j u,(gL p vf va)[j]?=some u→Rd z ⟨b,o+i * 4+j,none⟩ u:=by
 have hlt:=(List.getElem?_eq_some_iff.1 hi).1
 have hz':=hz
 obtain ⟨a',c,e,_,hr⟩:=hz'
 injection e with e _ _
 subst e
 obtain ⟨b,o,rfl,_⟩:=hr (by omega)
 obtain ⟨vf,va,h⟩:=ww hz hP hi
 exact ⟨b,o,vf,va,rfl,h⟩
theorem tr {ps:List PaD} {i:Nat} {p:PaD} (h:ps[i]?=some p):aN (ps.take (i+1))=aN (ps.take i)++p.fins.map (·+p.first):=by
 unfold aN;rw [aG h,List.flatMap_append];simp
theorem tJ {ps:List PaD} {i:Nat} {p:PaD} (h:ps[i]?=some p):aQ (ps.take (i+1))=aQ (ps.take i)++p.arcs.map (mvA p.first):=by
 unfold aQ;rw [aG h,List.flatMap_append];simp [mvA]
attribute [local irreducible] bO cz G GO GR GT GW Fn FnX FnV FnXV Dfr pt init exs pur sat own ImpS az aP cO aN aQ
theorem wU (bm bt:Nat) (vp:Value) (st:Nat) (cells:List Value) (ps:List PaD) (z:HP) (hz:Sl z vp ps.length 4 cells) (hP:PartsR z cells ps) (hk:PsOK ps) :
  Fn Tryz.prog 73 #[ah bm,.func (.func 74) #[] #[]] [bV bm bt vp st,z] (fun r Q=>Q=[dV r (aN ps),bV bm bt vp st,z]):=by
 have hlen:=hk.len
 obtain ⟨ap,cp,rfl,hcl,hrz⟩:=hz
 have hz:Sl z (.slice ap ps.length cp) ps.length 4 cells:=⟨ap,cp,rfl,hcl,hrz⟩
 refine Fn.mk2 Tryz.func73 rfl rfl fun w0 F=>?_
 refine G.ownNil (T:=3) (sz:=1) ?_
 apply Ru
 refine scl (ec bm bt (.slice ap ps.length cp) st) ?_
 rintro _ _ ⟨rfl,rfl⟩
 apply Ru
 refine G.loopI (σ:=Nat × Value) (fun x=>[(0,ah bm),(1,.func (.func 74) #[] #[]),(5,x.2),(13,.slice ap ps.length cp),(14,i64 (ps.length:Nat)),(15,i64 (x.1:Nat))]) (fun x=>dV x.2 (aN (ps.take x.1))::bV bm bt (.slice ap ps.length cp) st::z::F) (fun x=>x.1≤ps.length∧(aN (ps.take x.1)).length≤x.1 * 65) (fun x=>ps.length - x.1) (0,.slice none 0 0) ⟨Nat.zero_le _,by rw [List.take_zero];unfold aN;exact Nat.zero_le _⟩ ?_ ?_ ?_
 ·exact SE rfl
 ·rw [List.take_zero,show dV (.slice none 0 0) (aN [])=own 3 1 0 (.slice none 0 0) [] by unfold aN dV az;rfl]
  exact ImpS.sb SB
 rintro ⟨i,v5⟩ ⟨hi,hn⟩
 dsimp only at hi hn ⊢
 apply Ru
 by_cases hlt:i < ps.length
 ·have d1:decide ((i:Int) < (ps.length:Int))=true:=decide_eq_true (by omega)
  obtain ⟨p,hp⟩:∃ p,ps[i]?=some p:=⟨_,List.getElem?_eq_getElem hlt⟩
  have hpm:=List.mem_of_getElem? hp
  obtain ⟨b,o,vf,va,rfl,hvf,hva,rp⟩:=nJ hz hP hp
  have h1:=hk.fin p hpm
  have h2:=hk.fst p hpm
  have o1:=cE hvf;have o2:=hva.one
  have hcall:=FnV.of (args:=[.agg (gL p vf va).toArray]) (caps:=[]) (zH p vf va z hvf hva (by omega) (fun q hq=>by have:=h1.2 q hq;omega) (by omega))
  have hsn:=tr hp
  (refine scT ?_;refine six ?_)
  refine GO.loadM (vs:=gL p vf va) rfl rfl rfl (Tk.t (Tk.t Tk.h)) rfl rp ?_
  refine sal fun b7=>?_
  refine GO.storeW (vs:=gL p vf va) rfl rfl Tk.h ⟨rfl,rfl⟩ (by simp [Value.oneCell'];exact ⟨o1,o2⟩) ?_
  (apply Ru;refine GO.loadW rfl rfl rfl Tk.h rfl ?_)
  refine GO.callV1 rfl rfl rfl hcall (Tks.c (Tk.t (Tk.t (Tk.t Tk.h))) Tks.n) ?_
  rintro v22 _ rfl
  refine GO.ownRd Tk.h fun q2 hq2=>?_
  have hsl:=hq2
  obtain ⟨a2,c2,rfl,_,_⟩:=hq2
  refine GO.appendFrom (m:=(p.fins.map (·+p.first)).length) (q:=q2) rfl rfl rfl (Tk.t (Tk.t (Tk.t Tk.h))) Tk.h hsl (gh _) ⟨by decide,rfl⟩ (by rw [List.length_map];unfold maxLen;omega) (by rw [List.length_map];omega) fun v7=>?_
  (apply Ru;refine sad ?_)
  refine ⟨(i+1,v7),⟨hlt,by dsimp only;rw [hsn,List.length_append,List.length_map];omega⟩,by dsimp only;omega,?_,ImpS.sb ?_⟩
  ·exact SE rfl
  ·dsimp only
   rw [show dV v7 (aN (ps.take (i+1)))=own 3 1 ((aN (ps.take i)).length+(p.fins.map (·+p.first)).length) v7 (az (aN (ps.take i))++az (p.fins.map (·+p.first))) by unfold dV;rw [hsn,List.length_append,cK]]
   exact SB
 ·have d1:decide ((i:Int) < (ps.length:Int))=false:=decide_eq_false (by omega)
  rw [List.take_of_length_le (by omega)]
  refine scF ?_
  exact kr1 rfl rfl
theorem wV (bm bt:Nat) (vp:Value) (st:Nat) (cells:List Value) (ps:List PaD) (z:HP) (hz:Sl z vp ps.length 4 cells) (hP:PartsR z cells ps) (hk:PsOK ps) :
  Fn Tryz.prog 75 #[ah bm,.func (.func 76) #[] #[]] [bV bm bt vp st,z] (fun r Q=>Q=[iu r (aQ ps),bV bm bt vp st,z]):=by
 have hlen:=hk.len
 obtain ⟨ap,cp,rfl,hcl,hrz⟩:=hz
 have hz:Sl z (.slice ap ps.length cp) ps.length 4 cells:=⟨ap,cp,rfl,hcl,hrz⟩
 refine Fn.mk2 Tryz.func75 rfl rfl fun w0 F=>?_
 refine G.ownNil (T:=87) (sz:=4) ?_
 apply Ru
 refine scl (ec bm bt (.slice ap ps.length cp) st) ?_
 rintro _ _ ⟨rfl,rfl⟩
 apply Ru
 refine G.loopI (σ:=Nat × Value) (fun x=>[(0,ah bm),(1,.func (.func 76) #[] #[]),(5,x.2),(13,.slice ap ps.length cp),(14,i64 (ps.length:Nat)),(15,i64 (x.1:Nat))]) (fun x=>iu x.2 (aQ (ps.take x.1))::bV bm bt (.slice ap ps.length cp) st::z::F) (fun x=>x.1≤ps.length∧(aQ (ps.take x.1)).length≤x.1 * 4294967296) (fun x=>ps.length - x.1) (0,.slice none 0 0) ⟨Nat.zero_le _,by rw [List.take_zero];unfold aQ;exact Nat.zero_le _⟩ ?_ ?_ ?_
 ·exact SE rfl
 ·rw [List.take_zero,show iu (.slice none 0 0) (aQ [])=own 87 4 0 (.slice none 0 0) [] by unfold aQ iu aP;rfl]
  exact ImpS.sb SB
 rintro ⟨i,v5⟩ ⟨hi,hn⟩
 dsimp only at hi hn ⊢
 apply Ru
 by_cases hlt:i < ps.length
 ·have d1:decide ((i:Int) < (ps.length:Int))=true:=decide_eq_true (by omega)
  obtain ⟨p,hp⟩:∃ p,ps[i]?=some p:=⟨_,List.getElem?_eq_getElem hlt⟩
  have hpm:=List.mem_of_getElem? hp
  obtain ⟨b,o,vf,va,rfl,hvf,hva,rp⟩:=nJ hz hP hp
  have h1:=hk.arc p hpm
  have h2:=hk.fst p hpm
  have o1:=cE hvf;have o2:=hva.one
  have hcall:=FnV.of (args:=[.agg (gL p vf va).toArray]) (caps:=[]) (wB p vf va z hvf hva (by omega) (fun x hx=>by have:=h1.2 x hx;omega) (by omega))
  have hsn:=tJ hp
  (refine scT ?_;refine six ?_)
  refine GO.loadM (vs:=gL p vf va) rfl rfl rfl (Tk.t (Tk.t Tk.h)) rfl rp ?_
  refine sal fun b7=>?_
  refine GO.storeW (vs:=gL p vf va) rfl rfl Tk.h ⟨rfl,rfl⟩ (by simp [Value.oneCell'];exact ⟨o1,o2⟩) ?_
  (apply Ru;refine GO.loadW rfl rfl rfl Tk.h rfl ?_)
  refine GO.callV1 rfl rfl rfl hcall (Tks.c (Tk.t (Tk.t (Tk.t Tk.h))) Tks.n) ?_
  rintro v22 _ rfl
  refine GO.ownRd Tk.h fun q2 hq2=>?_
  have hsl:=hq2
  obtain ⟨a2,c2,rfl,_,_⟩:=hq2
  refine GO.appendFrom (m:=(p.arcs.map (mvA p.first)).length) (q:=q2) rfl rfl rfl (Tk.t (Tk.t (Tk.t Tk.h))) Tk.h hsl (pW _) ⟨by decide,rfl⟩ (by rw [List.length_map];unfold maxLen;omega) (by rw [List.length_map];omega) fun v7=>?_
  (apply Ru;refine sad ?_)
  refine ⟨(i+1,v7),⟨hlt,by dsimp only;rw [hsn,List.length_append,List.length_map];omega⟩,by dsimp only;omega,?_,ImpS.sb ?_⟩
  ·exact SE rfl
  ·dsimp only
   rw [show iu v7 (aQ (ps.take (i+1)))=own 87 4 ((aQ (ps.take i)).length+(p.arcs.map (mvA p.first)).length) v7 (aP (aQ (ps.take i))++aP (p.arcs.map (mvA p.first))) by unfold iu;rw [hsn,List.length_append,k8]]
   exact SB
 ·have d1:decide ((i:Int) < (ps.length:Int))=false:=decide_eq_false (by omega)
  rw [List.take_of_length_le (by omega)]
  refine scF ?_
  exact kr1 rfl rfl
theorem vz (bm bt:Nat) (vp:Value) (st:Nat) (cells:List Value) (ps:List PaD) (z:HP) (hz:Sl z vp ps.length 4 cells) (hP:PartsR z cells ps) (hk:PsOK ps) :
  Fn Tryz.prog 31 #[ah bm] [bV bm bt vp st,z] (fun r Q=>Q=[dV r (aN ps),bV bm bt vp st,z]):=by
 have h:=wU bm bt vp st cells ps z hz hP hk
 refine Fn.mk2 Tryz.func31 rfl rfl fun w0 F=>?_
 apply Ru
 refine scl (h) ?_
 rintro v _ rfl
 apply Ru
 exact kr1 rfl rfl
theorem zZ (bm bt:Nat) (vp:Value) (st:Nat) (cells:List Value) (ps:List PaD) (z:HP) (hz:Sl z vp ps.length 4 cells) (hP:PartsR z cells ps) (hk:PsOK ps) :
  Fn Tryz.prog 32 #[ah bm] [bV bm bt vp st,z] (fun r Q=>Q=[iu r (aQ ps),bV bm bt vp st,z]):=by
 have h:=wV bm bt vp st cells ps z hz hP hk
 refine Fn.mk2 Tryz.func32 rfl rfl fun w0 F=>?_
 apply Ru
 refine scl (h) ?_
 rintro v _ rfl
 apply Ru
 exact kr1 rfl rfl
end
section
theorem rG:∀ {ps:List PaD} {i:Nat} {p:PaD} {q:Nat},(∀ k r,k < i→ps[k]?=some r→¬ q < r.first+r.n)→ps[i]?=some p→q < p.first+p.n→ntF ps q=i
 | x::ps,0,p,q,_,e,h=>by cases e;unfold ntF;rw [if_pos h]
 | x::ps,i+1,p,q,h,e,h2=>by
  unfold ntF
  rw [if_neg (h 0 x (by omega) rfl),rG (fun k r hk hr=>h (k+1) r (by omega) hr) (show ps[i]?=some p from e) h2]
attribute [local irreducible] bO cz G GO GR GT GW Fn FnX FnV FnXV Dfr pt init exs pur sat own ImpS az aP cO aN aQ
theorem AW (b3 q:Nat) (p:PaD) (vf va:Value) (o1:vf.oneCell'=true) (o2:va.oneCell'=true) (hp:p.first+p.n≤1040):FnV Tryz.prog (.func (.func 72) #[] #[ah b3]) [.agg (gL p vf va).toArray] [pt b3 (row [i64 (q:Nat)] 3)] (fun r Q=>r=.bool (decide (q < p.first+p.n))∧Q=[pt b3 (row [i64 (q:Nat)] 3)]):=by
 refine FnV.of (caps:=[ah b3]) ?_
 refine Fn.mk2 Tryz.func72 rfl rfl fun w0 F=>?_
 (apply Ru;refine sbx fun b2=>?_;apply Ru;refine sad ?_)
 refine KF2.r1 rfl (RV.t rfl) ⟨?_,rfl⟩ (ImpS.sb ?_)
 ·congr 1
  rw [decide_eq_decide]
  omega
 ·exact SB
theorem wO (b3 q:Nat) (v:Value) (cells:List Value) (ps:List PaD) (z:HP) (hz:Sl z v ps.length 4 cells) (hP:PartsR z cells ps) (hk:PsOK ps) (hq:∃ (j:Nat) (p:PaD),ps[j]?=some p∧q < p.first+p.n) :
  Fn Tryz.prog 71 #[v,.func (.func 72) #[] #[ah b3]] [pt b3 (row [i64 (q:Nat)] 3),z] (fun r Q=>r=i64 (ntF ps q:Nat)∧Q=[pt b3 (row [i64 (q:Nat)] 3),z]):=by
 have hlen:=hk.len
 obtain ⟨ap,cp,rfl,hcl,hrz⟩:=hz
 have hz:Sl z (.slice ap ps.length cp) ps.length 4 cells:=⟨ap,cp,rfl,hcl,hrz⟩
 refine Fn.mk2 Tryz.func71 rfl rfl fun w0 F=>?_
 apply Ru
 refine G.loopI (σ:=Nat) (fun i=>[(0,.slice ap ps.length cp),(1,.func (.func 72) #[] #[ah b3]),(7,i64 (ps.length:Nat)),(8,i64 (i:Nat))]) (fun _=>pt b3 (row [i64 (q:Nat)] 3)::z::F) (fun i=>i≤ps.length∧∀ k r,k < i→ps[k]?=some r→¬ q < r.first+r.n) (fun i=>ps.length - i) 0 ⟨Nat.zero_le _,fun k r hk=>by omega⟩ ?_ ?_ ?_
 ·exact SE rfl
 ·exact ImpS.sb SB
 rintro i ⟨hi,hno⟩
 apply Ru
 by_cases hlt:i < ps.length
 ·have d1:decide ((i:Int) < (ps.length:Int))=true:=decide_eq_true (by omega)
  obtain ⟨p,hp⟩:∃ p,ps[i]?=some p:=⟨_,List.getElem?_eq_getElem hlt⟩
  have hpm:=List.mem_of_getElem? hp
  obtain ⟨b,o,vf,va,rfl,hvf,hva,rp⟩:=nJ hz hP hp
  have hcall:=AW b3 q p vf va (cE hvf) hva.one (hk.fst p hpm)
  (refine scT ?_;refine six ?_)
  refine GO.loadM (vs:=gL p vf va) rfl rfl rfl (Tk.t Tk.h) rfl rp ?_
  refine GO.callV1 rfl rfl rfl hcall (Tks.c Tk.h Tks.n) ?_
  rintro _ _ ⟨rfl,rfl⟩
  by_cases hc:q < p.first+p.n
  ·have d2:decide (q < p.first+p.n)=true:=decide_eq_true hc
   have hnt:=rG hno hp hc
   (apply Ru;refine scT ?_)
   exact kr1 rfl ⟨by rw [hnt],rfl⟩
  ·have d2:decide (q < p.first+p.n)=false:=decide_eq_false hc
   (apply Ru;refine scF ?_;refine sad ?_)
   refine ⟨i+1,⟨hlt,fun k r hk hr=>?_⟩,by omega,?_,ImpS.sb ?_⟩
   ·by_cases e:k=i
    ·subst e;rw [hp] at hr;cases hr;exact hc
    ·exact hno k r (by omega) hr
   ·exact SE rfl
   ·exact SB
 ·obtain ⟨j,p,hj,hqp⟩:=hq
  exact absurd hqp (hno j p (by have:=(List.getElem?_eq_some_iff.1 hj).1;omega) hj)
theorem nK (bm bt:Nat) (vp:Value) (st q:Nat) (cells:List Value) (ps:List PaD) (z:HP) (hz:Sl z vp ps.length 4 cells) (hP:PartsR z cells ps) (hk:PsOK ps) (hq:∃ (j:Nat) (p:PaD),ps[j]?=some p∧q < p.first+p.n) (hst:q < st) :
  Fn Tryz.prog 29 #[ah bm,i64 (q:Nat)] [bV bm bt vp st,z] (fun r Q=>r=i64 (ntF ps q:Nat)∧Q=[bV bm bt vp st,z]):=by
 have hix:=fun b3=>wO b3 q vp cells ps z hz hP hk hq
 have hth:=ec bm bt vp st
 obtain ⟨ap,cp,rfl,_,_⟩:=hz
 have d1:decide ((q:Int) < 0)=false:=decide_eq_false (by omega)
 have d2:decide ((st:Int)≤(q:Int))=false:=decide_eq_false (by omega)
 refine Fn.mk2 Tryz.func29 rfl rfl fun w0 F=>?_
 (apply Ru;refine sbx fun b3=>?_;apply Ru)
 refine dr 15 ?_
 apply Ru
 apply GQ.step;focus (intro Z;refine scl (hth) ?_;rintro _ _ ⟨rfl,rfl⟩;refine GO.nil (KQ.s ?_);exact SB)
 (apply Ru;(apply GQ.step;focus (intro Z;refine GO.gT rfl rfl rfl ?_;refine GO.load1 rfl rfl rfl Tk.h rfl ?_;exact KQ.z));(apply GQ.step;focus (intro Z;refine GO.gT rfl rfl rfl ?_;refine GO.lti rfl rfl rfl ?_;exact KQ.z));(apply GQ.step;focus (intro Z;refine GO.pickF rfl rfl rfl ?_;exact KQ.z));apply Ru;(apply GQ.step;focus (intro Z;refine GO.gT rfl rfl rfl ?_;refine GO.load1 rfl rfl rfl Tk.h rfl ?_;exact KQ.z));(apply GQ.step;focus (intro Z;refine GO.gT rfl rfl rfl ?_;refine GO.move rfl rfl ?_;exact KQ.z));(apply GQ.step;focus (intro Z;refine GO.gT rfl rfl rfl ?_;refine GO.nilCheck rfl rfl ?_;exact KQ.z));(apply GQ.step;focus (intro Z;refine GO.gT rfl rfl rfl ?_;refine GO.fieldAddr rfl rfl ?_;exact KQ.z));(apply GQ.step;focus (intro Z;refine GO.gT rfl rfl rfl ?_;refine GO.load1 rfl rfl rfl (Tk.t Tk.h) rfl ?_;exact KQ.z));(apply GQ.step;focus (intro Z;refine GO.gT rfl rfl rfl ?_;refine GO.gei rfl rfl rfl ?_;exact KQ.z));(apply GQ.step;focus (intro Z;refine GO.pickF rfl rfl rfl ?_;exact KQ.z));apply Ru)
 refine scF ?_
 refine scl (hix b3) ?_
 rintro _ _ ⟨rfl,rfl⟩
 apply Ru
 exact kr1 rfl ⟨rfl,rfl⟩
theorem wg (bm bt:Nat) (vp:Value) (st j:Nat) (cells:List Value) (ps:List PaD) (z:HP) (hz:Sl z vp ps.length 4 cells) (hP:PartsR z cells ps) {p:PaD} (hj:ps[j]?=some p) :
  Fn Tryz.prog 30 #[ah bm,i64 (j:Nat)] [bV bm bt vp st,z] (fun r Q=>r=i64 (p.first:Nat)∧Q=[bV bm bt vp st,z]):=by
 have hlt:=(List.getElem?_eq_some_iff.1 hj).1
 have hth:=ec bm bt vp st
 obtain ⟨ap,cp,rfl,hcl,hrz⟩:=hz
 have hz:Sl z (.slice ap ps.length cp) ps.length 4 cells:=⟨ap,cp,rfl,hcl,hrz⟩
 obtain ⟨b,o,vf,va,rfl,hvf,hva,rp⟩:=nJ hz hP hj
 have r3:=rp 3 (i64 (p.first:Nat)) rfl
 have d1:decide ((j:Int) < 0)=false:=decide_eq_false (by omega)
 have d2:decide ((ps.length:Int)≤(j:Int))=false:=decide_eq_false (by omega)
 refine Fn.mk2 Tryz.func30 rfl rfl fun w0 F=>?_
 apply Ru
 refine scl (hth) ?_
 rintro _ _ ⟨rfl,rfl⟩
 (apply Ru;refine GO.gT rfl rfl rfl ?_;apply Ru;refine GO.gT rfl rfl rfl ?_;apply Ru;refine GO.pickF rfl rfl rfl ?_;apply Ru;refine GO.gT rfl rfl rfl ?_;apply Ru;refine GO.gT rfl rfl rfl ?_;apply Ru;refine GO.gT rfl rfl rfl ?_;apply Ru;refine GO.gT rfl rfl rfl ?_;apply Ru;refine GO.gT rfl rfl rfl ?_;apply Ru;refine GO.gT rfl rfl rfl ?_;apply Ru;refine GO.gT rfl rfl rfl ?_;apply Ru;refine GO.pickF rfl rfl rfl ?_;apply Ru;refine scF ?_;refine six ?_;refine sld (by assumption) ?_;apply Ru)
 exact kr1 rfl ⟨rfl,rfl⟩
end
section
theorem pP (n:Int):Tryz.prog.built 33 [(0,i64 n)]=some [i64 n,.slice none 0 0].toArray:=by kernel_rfl
theorem vM (n:Int):Tryz.prog.built 82 [(0,i64 n)]=some [i64 n,.slice none 0 0].toArray:=by kernel_rfl
theorem lq (n:Int):Tryz.prog.built 85 [(1,i64 n)]=some [.bool false,i64 n].toArray:=by kernel_rfl
def jC (ps:List PaD) (i:Nat):Nat→Int:=fun q=>if q < i then dU ps q else 0
theorem AX (ps:List PaD) (q:Nat):nsF ps (q+1)=nsF ps q+if stF ps q=true then 0 else 1:=rfl
theorem rD (ps:List PaD) {i n:Nat} {v:Int} (h:v=dU ps i):fG i64 (upd (jC ps i) i v) n=fG i64 (jC ps (i+1)) n:=by
 refine rl fun q _=>?_
 unfold upd jC
 by_cases e:q=i
 ·subst e;rw [if_pos rfl,if_pos (by omega),h]
 ·rw [if_neg e]
  by_cases e2:q < i
  ·rw [if_pos e2,if_pos (by omega)]
  ·rw [if_neg e2,if_neg (by omega)]
theorem yJ (ps:List PaD) (n:Nat):List.replicate n (i64 0)=fG i64 (jC ps 0) n:=by
 rw [rl (f:=i64) (a:=jC ps 0) (b:=fun _=>0) fun i _=>if_neg (Nat.not_lt_zero _)]
 exact oI (f:=i64)
theorem BO {γ:Type} {o:Nat→γ} {i:Nat} {a b:γ}:upd (upd o i a) i b=upd o i b:=by
 funext q;unfold upd;split <;> rfl
theorem xY (z:HP):Pr.SymsR z (.slice none 0 0) []:=⟨none,0,rfl,rfl,fun h=>by simp at h⟩
attribute [local irreducible] bO cz G GO GR GT GW Fn FnX FnV FnXV Dfr pt init exs pur sat own ImpS az aP cO aN aQ dU ntF nsF fG Pr.symsV
theorem x7 (bm bt mb:Nat) (vp vn vl:Value) (cells:List Value) (ps:List PaD) (ns:List (List UInt8)) (z:HP) (hn:dH z vn ns) (hz:Sl z vp ps.length 4 cells) (hP:PartsR z cells ps) (hk:PsOK ps) (hl:ka 0 ps) (hnl:ns.length=ps.length) (hpos:0 < ps.length)
  (hpos2:0 < dt ps) (hsum:dt ps≤1040) (hfin:∀ q∈aN ps,q < dt ps) (harc:∀ x∈aQ ps,x.src < dt ps∧x.dst < dt ps) (hfl:(aN ps).length≤1040) (hal:(aQ ps).length≤67600) :
  Fn Tryz.prog 7 #[ah bm] [bV bm bt vp (dt ps),cG bt mb vn vl,z] (fun r Q=>∃ v zs zq,r=.tuple #[v,i64 0]∧Pr.CnfR zq v ⟨iX ps,zs⟩∧Pr.Ups zs∧(∀ p,p∈zs↔p∈l7 ps)∧Q=[zq,bV bm bt vp (dt ps),cG bt mb vn vl,z]):=by
 have hlen:=hk.len
 have hns:=sP bm bt vp (dt ps)
 have hnm:=jA bm bt mb vp vn vl (dt ps) ns z hn (by omega)
 have hnt:=fun q hq hst=>nK bm bt vp (dt ps) q cells ps z hz hP hk hq hst
 have hstart:=fun j p hj=>wg bm bt vp (dt ps) j cells ps z hz hP (p:=p) hj
 have hfs:=vz bm bt vp (dt ps) cells ps z hz hP hk
 have has:=zZ bm bt vp (dt ps) cells ps z hz hP hk
 have hnsl:=t6 ps (dt ps)
 generalize hS:dt ps=S at *
 have d0:decide ((S:Int)=0)=false:=decide_eq_false (by omega)
 refine Fn.mk2 Tryz.func7 rfl rfl fun w0 F=>?_
 (apply Ru;refine sal fun b2=>?_;apply Ru)
 refine scl (hns) ?_
 rintro _ _ ⟨rfl,rfl⟩
 (apply Ru;refine scF ?_)
 refine scl (hnm) ?_
 rintro v18 _ rfl
 apply Ru
 refine scl (hns) ?_
 rintro _ _ ⟨rfl,rfl⟩
 refine GO.make1 (n:=S) rfl rfl rfl ⟨rfl,rfl⟩ ⟨by omega,by omega⟩ fun b5=>?_
 rw [yJ ps S]
 apply Ru
 refine G.loopI (σ:=Nat) (fun i=>[(0,ah bm),(2,ah b2),(5,.slice (some ⟨b5,0,none⟩) S S),(6,i64 ((ps.length+nsF ps i:Nat):Int)),(25,i64 (S:Nat)),(26,i64 (i:Nat))]) (fun i=>pt b5 (row (fG i64 (jC ps i) S) 3)::bV bm bt vp S::cG bt mb vn vl::z::pt b2 (row [i64 0,.slice none 0 0] 33)::F) (fun i=>i≤S) (fun i=>S - i) 0 (Nat.zero_le _) ?_ ?_ ?_
 ·rw [show nsF ps 0=0 by unfold nsF;rfl,hnl]
  exact SE rfl
 ·exact ImpS.sb SB
 clear hnm hns d0
 intro i hi
 apply Ru
 by_cases hlt:i < S
 ·have d1:decide ((i:Int) < (S:Int))=true:=decide_eq_true (by omega)
  obtain ⟨j,p,hj,a1,a2⟩:=jL hl (Nat.zero_le i) (by omega)
  have hst:=sL hl hj a1 a2
  have hntv:=ib hl hj a1 a2
  have hnt:=hnt i ⟨j,p,hj,a2⟩ hlt
  rw [hntv] at hnt
  have hstart:=hstart j p hj
  have hsc:=AX ps i
  have hjl:=(List.getElem?_eq_some_iff.1 hj).1
  have hpf:=hk.fst p (List.mem_of_getElem? hj)
  have hni:=t6 ps i
  have hl1:0+i * 1 < (fG i64 (jC ps i) S).length:=by rw [oH];omega
  have hget:(fG i64 (upd (jC ps i) i ((j:Nat):Int)) S)[0+i * 1]?=some (i64 ((j:Nat):Int)):=by rw [eo hlt];unfold upd;rw [if_pos rfl]
  refine scT ?_
  refine scl (hnt) ?_
  rintro _ _ ⟨rfl,rfl⟩
  refine six ?_
  refine GO.store1 rfl rfl rfl (Tk.t (Tk.t Tk.h)) hl1 ?_
  rw [oG]
  (apply Ru;refine six ?_;refine sll (eo (by assumption)) ?_)
  rw [show upd (jC ps i) i ((j:Nat):Int) i=((j:Nat):Int) from if_pos rfl]
  refine scl (hstart) ?_
  rintro _ _ ⟨rfl,rfl⟩
  apply Ru
  by_cases hf:p.first=i
  ·have d2:decide (((p.first:Nat):Int)≠(i:Nat))=false:=decide_eq_false (by omega)
   rw [decide_eq_true hf] at hst
   rw [hst,if_pos rfl,Nat.add_zero] at hsc
   (refine scF ?_;refine sad ?_)
   refine ⟨i+1,hlt,by omega,?_,ImpS.sb ?_⟩
   ·rw [hsc]
    exact SE rfl
   ·rw [rD ps (v:=((j:Nat):Int)) (by unfold dU;rw [hst,if_pos rfl,hntv])]
    exact SB
  ·have d2:decide (((p.first:Nat):Int)≠(i:Nat))=true:=decide_eq_true (by omega)
   rw [decide_eq_false hf] at hst
   rw [hst,if_neg Bool.false_ne_true] at hsc
   have hl2:0+i * 1 < (fG i64 (upd (jC ps i) i ((j:Nat):Int)) S).length:=by rw [oH];omega
   (refine scT ?_;refine six ?_)
   refine GO.store1 rfl rfl rfl (Tk.t (Tk.t Tk.h)) hl2 ?_
   rw [oG,BO]
   (apply Ru;refine sad ?_;refine sad ?_)
   refine ⟨i+1,hlt,by omega,?_,ImpS.sb ?_⟩
   ·rw [hsc,show ((ps.length+(nsF ps i+1):Nat):Int)=((ps.length+nsF ps i:Nat):Int)+1 by omega]
    exact SE rfl
   ·rw [rD ps (v:=((ps.length+nsF ps i:Nat):Int)) (by unfold dU;rw [hst,if_neg Bool.false_ne_true])]
    exact SB
 have d1:decide ((i:Int) < (S:Int))=false:=decide_eq_false (by omega)
 have hiS:i=S:=by omega
 subst hiS
 clear hnt hstart hi
 have hN:((ps.length+nsF ps i:Nat):Int)=iX ps:=by unfold iX;rw [hS]
 rw [hN]
 generalize hSS:i=S at *
 refine scF ?_
 refine GO.buildPart1 (pP _) rfl rfl ?_
 (refine sal fun b8=>?_;apply Ru)
 refine scl (hfs) ?_
 rintro v53 _ rfl
 refine GO.ownRd Tk.h fun q53 h53=>?_
 have h53:bU q53 v53 (aN ps):=h53
 have hr53:∀ k m,(aN ps)[k]?=some m→_:=fun k m h=>ta h53 h
 obtain ⟨a53,c53,rfl⟩:=cM h53
 refine GO.ownNil (T:=82) (sz:=2) ?_
 apply Ru
 refine G.loopI (σ:=Nat × Value × List (Int × Value)) (fun x=>[(0,ah bm),(2,ah b2),(5,.slice (some ⟨b5,0,none⟩) S S),(8,ah b8),(53,.slice a53 (aN ps).length c53),(54,i64 ((aN ps).length:Nat)),(55,i64 (x.1:Nat))]) (fun x=>pt b8 (row [i64 (iX ps),x.2.1] 33)::own 82 2 x.1 x.2.1 (Pr.pvs x.2.2)::q53::pt b5 (row (fG i64 (jC ps S) S) 3)::bV bm bt vp S::cG bt mb vn vl::z::pt b2 (row [i64 0,.slice none 0 0] 33)::F)
  (fun x=>x.1≤(aN ps).length∧Pr.Cp q53 (((aN ps).take x.1).map (Bq ps)) x.2.2) (fun x=>(aN ps).length - x.1) (0,.slice none 0 0,[]) ⟨Nat.zero_le _,by rw [List.take_zero];trivial⟩ ?_ ?_ ?_
 ·exact SE rfl
 ·exact ImpS.sb (by ((refine Sb.c (Tk.t (Tk.t (Tk.t (Tk.t Tk.h)))) ?_;refine Sb.c Tk.h ?_;exact SB);skip))
 clear d1
 rintro ⟨k,pv,xs⟩ ⟨hk2,hC⟩
 dsimp only at hk2 hC ⊢
 have hxl:=hC.len
 rw [List.length_map,List.length_take,Nat.min_eq_left hk2] at hxl
 apply Ru
 by_cases hlt2:k < (aN ps).length
 ·have d1:decide ((k:Int) < ((aN ps).length:Int))=true:=decide_eq_true (by omega)
  obtain ⟨q,hq⟩:∃ q,(aN ps)[k]?=some q:=⟨_,List.getElem?_eq_getElem hlt2⟩
  have hqS:=hfin q (List.mem_of_getElem? hq)
  obtain ⟨b,o,cap,e,rq⟩:=hr53 k q hq
  injection e with e _ e2
  subst e e2
  have hown:jC ps S q=dU ps q:=if_pos hqS
  (refine scT ?_;refine six ?_;refine sld (by assumption) ?_;apply Ru)
  refine G.ownOne (v:=pv) (Tk.t Tk.h) fun o1=>?_
  refine drT 10 384 [pt b8 (row [i64 (iX ps),pv] 33),pt b5 (row (fG i64 (jC ps S) S) 3)] ?_
  (apply Ru;refine rix ?_;refine rll (eo (by assumption)) ?_)
  apply GR.step rfl;focus (intro Z;refine GO.buildPart1 (vM _) rfl rfl ?_;exact KQ.z)
  apply Ru
  rw [hown]
  (repeat refine GT.skip rfl ?_)
  refine GT.step rfl ?_
  refine GO.buildSlice1 (n:=2) (v1:=.agg #[i64 (dU ps q),.slice none 0 0]) rfl rfl (fun v hv=>by rw [List.mem_singleton.1 hv];rfl) rfl ⟨by decide,by decide⟩ fun bs3=>?_
  refine gtn ?_
  refine GT.step rfl ?_
  refine GO.appendOwn (m:=1) (news:=[i64 (dU ps q),.slice none 0 0]) rfl rfl rfl (Tk.t (Tk.t (Tk.t Tk.h))) (Tk.t (Tk.t Tk.h)) rfl (by simp [Value.oneCell']) ⟨by decide,rfl⟩ Nat.one_pos (by unfold maxLen;omega) (by omega) fun v4=>?_
  rw [show Pr.pvs xs++[i64 (dU ps q),.slice none 0 0]=Pr.pvs (xs++[(dU ps q,.slice none 0 0)]) from (ei xs [(dU ps q,Value.slice none 0 0)]).symm]
  refine GO.ownOne (v:=v4) Tk.h fun o4=>?_
  refine gtn ?_
  (refine GO.store1 rfl rfl (by assumption) Tk.h (by simp) ?_;apply Ru;refine sad ?_)
  refine ⟨(k+1,v4,xs++[(dU ps q,.slice none 0 0)]),⟨hlt2,?_⟩,by dsimp only;omega,?_,ImpS.sb ?_⟩
  ·dsimp only
   rw [aG hq,List.map_append]
   exact hC.snoc rfl (xY q53)
  ·exact SE rfl
  ·((refine Sb.c Tk.h ?_;exact SB);skip)
 have d1:decide ((k:Int) < ((aN ps).length:Int))=false:=decide_eq_false (by omega)
 have hkF:k=(aN ps).length:=by omega
 subst hkF
 rw [List.take_length] at hC
 clear hk2 hlt2 hr53
 refine scF ?_
 refine scl (has) ?_
 rintro v71 _ rfl
 refine GO.ownRdK Tk.h fun q71 h71=>?_
 have h71:qI q71 v71 (aQ ps):=h71
 have hr71:∀ (k:Nat) (x:ArD),(aQ ps)[k]?=some x→_:=fun k x h=>Da h71.sl h
 obtain ⟨a71,c71,rfl⟩:=BB h71
 apply Ru
 refine G.loopI (σ:=Nat × Value × List (Int × Value) × HP) (fun x=>[(2,ah b2),(5,.slice (some ⟨b5,0,none⟩) S S),(8,ah b8),(71,.slice a71 (aQ ps).length c71),(72,i64 ((aQ ps).length:Nat)),(73,i64 (x.1:Nat))]) (fun x=>pt b8 (row [i64 (iX ps),x.2.1] 33)::own 82 2 ((aN ps).length+x.1) x.2.1 (Pr.pvs x.2.2.1)::x.2.2.2::q71::pt b5 (row (fG i64 (jC ps S) S) 3)::bV bm bt vp S::cG bt mb vn vl::z::pt b2 (row [i64 0,.slice none 0 0] 33)::F)
  (fun x=>x.1≤(aQ ps).length∧Pr.Cp x.2.2.2 ((aN ps).map (Bq ps)++((aQ ps).take x.1).map (Cy ps)) x.2.2.1) (fun x=>(aQ ps).length - x.1) (0,pv,xs,q53) ⟨Nat.zero_le _,by rw [List.take_zero,List.map_nil,List.append_nil];exact hC⟩ ?_ ?_ ?_
 ·exact SE rfl
 ·exact ImpS.sb SB
 clear d1 hC hxl
 rintro ⟨k,pv,xs,zc⟩ ⟨hk2,hC⟩
 dsimp only at hk2 hC ⊢
 apply Ru
 by_cases hlt2:k < (aQ ps).length
 ·have d1:decide ((k:Int) < ((aQ ps).length:Int))=true:=decide_eq_true (by omega)
  obtain ⟨x,hx⟩:∃ x,(aQ ps)[k]?=some x:=⟨_,List.getElem?_eq_getElem hlt2⟩
  obtain ⟨hxs,hxd⟩:=harc x (List.mem_of_getElem? hx)
  obtain ⟨b,o,cap,e,rx⟩:=hr71 k x hx
  injection e with e _ e2
  subst e e2
  have hos:jC ps S x.src=dU ps x.src:=if_pos hxs
  have hod:jC ps S x.dst=dU ps x.dst:=if_pos hxd
  (refine scT ?_;refine six ?_)
  refine GO.loadM (vs:=dY x) rfl rfl rfl (Tk.t (Tk.t (Tk.t Tk.h))) rfl rx ?_
  (refine sal fun b12=>?_;apply Ru)
  refine G.ownOne (v:=pv) (Tk.t (Tk.t Tk.h)) fun o1=>?_
  refine drT 20 491520 [pt b8 (row [i64 (iX ps),pv] 33),pt b12 (row (dY x) 87),pt b5 (row (fG i64 (jC ps S) S) 3)] ?_
  (apply Ru;refine rix ?_;refine rll (eo (by assumption)) ?_;apply Ru)
  apply GR.step rfl;focus (intro Z;refine GO.load2 (u1:=.bool x.sym.lab) (u2:=i64 (x.sym.num:Nat)) rfl rfl rfl (Tk.t Tk.h) (Rd.row rfl) (Rd.row rfl) ?_;exact KQ.z)
  (apply Ru;refine rix ?_;refine rll (eo (by assumption)) ?_)
  apply GR.step rfl;focus (intro Z;refine GO.buildPart1 (lq _) rfl rfl ?_;exact KQ.z)
  apply Ru
  rw [hos,hod]
  (repeat refine GT.skip rfl ?_)
  refine GT.step rfl ?_
  refine GO.buildSlice2 (n:=2) (v1:=syA x.sym) (v2:=.agg #[.bool false,i64 (dU ps x.dst)]) rfl rfl rfl (fun v hv=>by simp only [List.mem_cons,List.not_mem_nil,or_false] at hv;rcases hv with rfl | rfl <;> rfl) rfl ⟨by decide,by decide⟩ fun bs=>?_
  rw [show aA [syA x.sym,.agg #[.bool false,i64 (dU ps x.dst)]]=Pr.symsV [l4 x.sym,(false,dU ps x.dst)] by unfold Pr.symsV;rfl]
  refine GO.ownIn (n:=2) (sz:=2) Tk.h (by rw [Pr.symsV_len];rfl) (by decide) ?_
  refine GO.ownRd (n:=2) (sz:=2) Tk.h fun q2 h2=>?_
  have h2:Pr.SymsR q2 (.slice (some ⟨bs,0,none⟩) 2 2) [l4 x.sym,(false,dU ps x.dst)]:=h2
  refine GO.merge (x:=zc) (y:=q2) (Tks.c (Tk.t (Tk.t (Tk.t (Tk.t (Tk.t Tk.h))))) (Tks.c Tk.h Tks.n)) ?_
  have hC:=hC.sup (Sup.left zc q2)
  have h2:=h2.sup (Sup.right zc q2)
  generalize aL [zc,q2]=z3 at *
  refine gtn ?_
  refine GT.step rfl ?_
  refine GO.build2 rfl rfl rfl rfl ?_
  refine gtn ?_
  refine GT.step rfl ?_
  refine GO.buildSlice1 (n:=2) (v1:=.agg #[i64 (dU ps x.src),.slice (some ⟨bs,0,none⟩) 2 2]) rfl rfl (fun v hv=>by rw [List.mem_singleton.1 hv];rfl) rfl ⟨by decide,by decide⟩ fun bs3=>?_
  refine gtn ?_
  refine GT.step rfl ?_
  refine GO.appendOwn (m:=1) (news:=[i64 (dU ps x.src),.slice (some ⟨bs,0,none⟩) 2 2]) rfl rfl rfl (Tk.t (Tk.t (Tk.t (Tk.t (Tk.t Tk.h))))) (Tk.t (Tk.t (Tk.t Tk.h))) rfl (by simp [Value.oneCell']) ⟨by decide,rfl⟩ Nat.one_pos (by unfold maxLen;omega) (by omega) fun v4=>?_
  rw [show Pr.pvs xs++[i64 (dU ps x.src),.slice (some ⟨bs,0,none⟩) 2 2]=Pr.pvs (xs++[(dU ps x.src,.slice (some ⟨bs,0,none⟩) 2 2)]) from (ei xs [(dU ps x.src,Value.slice (some ⟨bs,0,none⟩) 2 2)]).symm]
  refine GO.ownOne (v:=v4) Tk.h fun o4=>?_
  refine gtn ?_
  (refine GO.store1 rfl rfl (by assumption) Tk.h (by simp) ?_;apply Ru;refine sad ?_)
  refine ⟨(k+1,v4,xs++[(dU ps x.src,.slice (some ⟨bs,0,none⟩) 2 2)],z3),⟨hlt2,?_⟩,by dsimp only;omega,?_,ImpS.sb ?_⟩
  ·dsimp only
   rw [aG hx,List.map_append,← List.append_assoc]
   exact hC.snoc rfl h2
  ·exact SE rfl
  ·((refine Sb.c Tk.h ?_;exact SB);skip)
 have d1:decide ((k:Int) < ((aQ ps).length:Int))=false:=decide_eq_false (by omega)
 rw [List.take_of_length_le (by omega)] at hC
 have hxl:=hC.len
 rw [List.length_append,List.length_map,List.length_map] at hxl
 have hkF:(aN ps).length+k=xs.length:=by omega
 rw [hkF]
 refine G.ownOne (v:=pv) (Tk.t Tk.h) fun o1=>?_
 refine G.ownRd (v:=pv) (Tk.t Tk.h) fun qp hqp=>?_
 have hP2:Pr.PrsR (aL [qp,zc]) pv (l7 ps):=hC.prs (Sup.right qp zc) (hqp.sup (Sup.left qp zc))
 refine G.merge (x:=qp) (y:=zc) (Tks.c Tk.h (Tks.c (Tk.t Tk.h) Tks.n)) ?_
 have hso:=Pr.sorted_spec (aL [qp,zc]) (.agg #[i64 (iX ps),pv]) ⟨iX ps,l7 ps⟩ ⟨pv,rfl,hP2⟩ ⟨by show (l7 ps).length * 32≤_;unfold l7;rw [List.length_append,List.length_map,List.length_map];omega,fun p hp=>by
  unfold l7 at hp
  rcases List.mem_append.1 hp with hp | hp
  ·obtain ⟨y,_,rfl⟩:=List.mem_map.1 hp;show 0 * 16≤_;omega
  ·obtain ⟨y,_,rfl⟩:=List.mem_map.1 hp;show 2 * 16≤_;omega⟩
 generalize aL [qp,zc]=z5 at *
 (refine scF ?_;refine GO.loadW rfl rfl rfl (Tk.t Tk.h) rfl ?_)
 refine scl (hso) ?_
 rintro _ _ ⟨pv2,ys,z6,zs,rfl,hzc,hzu,hzm,rfl⟩
 refine GO.ownOne (v:=pv2) Tk.h fun o2=>?_
 refine GO.ownRd (v:=pv2) Tk.h fun qq hqq=>?_
 have hP3:Pr.PrsR (aL [qq,z6]) pv2 zs:=hzc.prs (Sup.right qq z6) (hqq.sup (Sup.left qq z6))
 refine GO.merge (x:=qq) (y:=z6) (Tks.c Tk.h (Tks.c Tk.h Tks.n)) ?_
 generalize aL [qq,z6]=z7 at *
 (refine GO.storeW rfl rfl (Tk.t (Tk.t (Tk.t (Tk.t (Tk.t (Tk.t (Tk.t (Tk.t Tk.h)))))))) ⟨rfl,rfl⟩ (by simp [Value.oneCell'];assumption) ?_;apply Ru)
 exact kr2 rfl ⟨.agg #[i64 (iX ps),pv2],zs,z7,rfl,⟨pv2,rfl,hP3⟩,hzu,hzm,rfl⟩
end
section
def lZ (n:Nat):List (Int × Int)→List MapEntry
 | []=>[]
 | (k,v)::l=>{ key:=i64 k,val:=i64 v,born:=n }::lZ (n+1) l
def fa (l:List (Int × Int)):Obj:=.map (lZ 0 l).toArray l.length
def sd (k:Int):List (Int × Int)→Nat→Option (Nat × Value)
 | [],_=>none
 | (a,v)::l,i=>if k=a then some (i,i64 v) else sd k l (i+1)
theorem pG (k v:Int):∀ (l:List (Int × Int)) (n:Nat),lZ n (l++[(k,v)])=lZ n l++[{ key:=i64 k,val:=i64 v,born:=n+l.length }]
 | [],n=>rfl
 | (a,u)::l,n=>by
  show _::lZ (n+1) (l++[(k,v)])=_::(lZ (n+1) l++_)
  rw [pG k v l (n+1),List.length_cons,show n+1+l.length=n+(l.length+1) by omega]
theorem jU (k:Int):∀ (l:List (Int × Int)) (n i:Nat),Instr.findNow (.int .i64) (i64 k) (lZ n l) i=some (sd k l i)
 | [],_,_=>rfl
 | (a,v)::l,n,i=>by
  have ih:=jU k l (n+1) (i+1)
  have hs:Instr.sameNow (.int .i64) (i64 k) (i64 a)=some (decide (k=a)):=by
   show (if IntKind.i64=IntKind.i64 then some (k == a) else none)=_
   rw [if_pos rfl]
   rfl
  simp only [lZ,Instr.findNow,sd,hs]
  by_cases h:k=a
  ·rw [if_pos h,decide_eq_true h]
  ·rw [if_neg h,decide_eq_false h];exact ih
theorem lj (k:Int):∀ (l:List (Int × Int)) (i:Nat),match fj l k with | some v=>∃ j,sd k l i=some (j,i64 v) | none=>sd k l i=none
 | [],_=>rfl
 | (a,v)::l,i=>by
  have ih:=lj k l (i+1)
  unfold fj sd
  by_cases h:k=a
  ·rw [if_pos h,if_pos h];exact ⟨i,rfl⟩
  ·rw [if_neg h,if_neg h];exact ih
def rL (k:Int) (l:List (Int × Int)):Value:=match fj l k with
 | some v=>.tuple #[i64 v,.bool true]
 | none=>.tuple #[i64 0,.bool false]
section rules
variable {P:Program} {c:Cx} {A:Array Oper} {rest:List Oper} {K:aY} {L:Env} {H F:List HP} {t:TypeId} {p:String} {e:Array Edge}
variable {d b:Nat} {x y u:Operand} {mt kt et:TypeId} {k:Int} {l:List (Int × Int)} {v:Int}
theorem GO.makeMapJ (hN:Nat.blt d c.N=true) (k:∀ b,GO P c A rest K ((d,.map (some b))::L) (pt b (fa [])::H)):GO P c A (⟨some d,.makeMap mt none,t,p,e,none⟩::rest) K L H:=
 GO.gen hN rfl (fun v H'=>∃ b,v=.map (some b)∧H'=pt b (fa [])::H)
  (fun a w Y h s=>⟨.map (some w.heap.size),w.alloc (fa []),_,by
   simp only [execOp,Instr.makeMap,Option.map_none]
   simp [Result.andThen,fa,lZ],Same.alloc w _,⟨w.heap.size,rfl,rfl⟩,bh s _⟩) (by rintro _ _ ⟨b,rfl,rfl⟩;exact k b)
theorem GO.lookupJ [hm:UL P mt (.map kt et)] [hk:UL P kt (.int .i64)] [hz:ZV P et (i64 0)] (hN:Nat.blt d c.N=true) (hx:evl L x=some (.map (some b))) (hy:evl L y=some (i64 k)) (tk:Tk (pt b (fa l)) H F)
  (g:GO P c A rest K ((d,rL k l)::L) H):GO P c A (⟨some d,.lookup mt x y true,t,p,e,none⟩::rest) K L H:=
 GO.val hN rfl (fun a w Y h s=>by
  have hb:=aT (ai (List.Perm.append_right Y tk) s)
  simp only [execOp,h.eval hx,h.eval hy,Instr.lookup]
  simp only [Sem.run_bind,run_underlying hm.out,Result.andThen_ok,MapKept.run_getObj_map hb,Sem.run_pure]
  simp only [MapKept.run_checkKey (P:=P) (w:=w) hk.out (k:=i64 k) (show MapKept.IsKey (.int .i64) (i64 k) from rfl),MapKept.run_findKey hk.out (jU k l 0 0),Result.andThen_ok]
  have hl:=lj k l 0
  unfold rL
  cases hw:fj l k with
  | none=>rw [hw] at hl;simp [hl,fE,Result.andThen]
  | some v=>rw [hw] at hl;obtain ⟨j,hj⟩:=hl;simp [hj,Result.andThen]) g
theorem GO.insertJ [hm:UL P mt (.map kt et)] [hk:UL P kt (.int .i64)] (hx:evl L x=some (.map (some b))) (hy:evl L y=some (i64 k)) (hu:evl L u=some (i64 v)) (tk:Tk (pt b (fa l)) H F) (hn:fj l k=none)
  (g:GO P c A rest K L (pt b (fa (l++[(k,v)]))::F)):GO P c A (⟨none,.mapUpdate mt x y u,t,p,e,none⟩::rest) K L H:=
 GO.genS rfl (fun a w Y h s=>by
  have s':=ai (List.Perm.append_right Y tk) s
  have hb:=aT s'
  have hl:=lj k l 0
  rw [hn] at hl
  refine ⟨{ w with heap:=w.heap.setIfInBounds b (fa (l++[(k,v)])) },?_,⟨rfl,rfl,rfl,by simp,Nat.le_refl _⟩,bE s' ?_ ?_⟩
  ·simp only [execOp,h.eval hx,h.eval hy,h.eval hu,Instr.mapUpdate]
   simp only [Sem.run_bind,run_underlying hm.out,Result.andThen_ok,MapKept.run_getObj_map hb,MapKept.run_checkKey (P:=P) (w:=w) hk.out (k:=i64 k) (show MapKept.IsKey (.int .i64) (i64 k) from rfl),MapKept.run_findKey hk.out (jU k l 0 0),hl]
   rw [MapKept.run_setObj_map _ hb]
   simp [Result.andThen,fa,pG]
  ·have hlt:=(Array.getElem?_eq_some_iff.1 hb).1
   simp [hlt]
  ·intro j hj
   rw [Array.getElem?_setIfInBounds_ne (Ne.symm hj)]) g
end rules
abbrev gy (nts:Int) (pv:Value) (mb:Nat) (emp:Int):Obj:=row [i64 nts,pv,.map (some mb),i64 emp] 115
def mkS (bm mb:Nat) (st:WkS):HP:=exs fun x:Value × List (Int × Value) × HP=>aL [pur (Pr.Cp x.2.2 st.prods x.2.1∧x.1.oneCell'=true),own 82 2 x.2.1.length x.1 (Pr.pvs x.2.1),pt bm (gy st.nts x.1 mb st.emp),pt mb (fa st.labs),x.2.2]
section
variable {bm mb:Nat} {st:WkS} {pv:Value} {xs:List (Int × Value)} {zc:HP} {M:List HP}
theorem gx (hC:Pr.Cp zc st.prods xs) (h1:pv.oneCell'=true):ImpS (own 82 2 xs.length pv (Pr.pvs xs)::pt bm (gy st.nts pv mb st.emp)::pt mb (fa st.labs)::zc::M) (mkS bm mb st::M):=by
 unfold mkS
 exact ImpS.exs (pv,xs,zc) (ImpS.flat (ImpS.pur ⟨hC,h1⟩ (ImpS.sb Sb.r)))
variable {P:Program} {c:Cx} {A:Array Oper} {os:List Oper} {K:aY} {L:Env} {H F:List HP}
theorem GO.mkSOut (tk:Tk (mkS bm mb st) H F) (k:∀ pv xs zc,Pr.Cp zc st.prods xs→pv.oneCell'=true→GO P c A os K L (own 82 2 xs.length pv (Pr.pvs xs)::pt bm (gy st.nts pv mb st.emp)::pt mb (fa st.labs)::zc::F)):GO P c A os K L H:=
 GO.take tk (GO.exs fun x=>GO.flat (GO.pur fun h=>k x.1 x.2.1 x.2.2 h.1 h.2))
theorem GO.back {H':List HP} (h:ImpS H H') (k:GO P c A os K L H'):GO P c A os K L H:=GO.imp h k
theorem G.back {C:Code} {H':List HP} (h:ImpS H H') (k:G P c C K L H'):G P c C K L H:=G.imp h k
theorem G.mkSOut {C:Code} (k:∀ pv xs zc,Pr.Cp zc st.prods xs→pv.oneCell'=true→G P c C K L (own 82 2 xs.length pv (Pr.pvs xs)::pt bm (gy st.nts pv mb st.emp)::pt mb (fa st.labs)::zc::F)):G P c C K L (mkS bm mb st::F):=by
 unfold mkS
 exact G.exs fun x=>G.flat (G.pur fun h=>k x.1 x.2.1 x.2.2 h.1 h.2)
end
attribute [local irreducible] bO cz G GO GR GT GW Fn FnX FnV FnXV Dfr pt init exs pur sat own ImpS az aP cO Pr.symsV fa
theorem lx (bm mb:Nat) (st:WkS) (h:¬ 4096 < st.nts∧0≤st.nts):Fn Tryz.prog 156 #[ah bm] [mkS bm mb st] (fun r Q=>r=i64 st.nts∧Q=[mkS bm mb ⟨st.nts+1,st.prods,st.labs,st.emp⟩]):=by
 refine Fn.mk2 Tryz.func156 rfl rfl fun w0 F=>?_
 refine G.mkSOut fun pv xs zc hC o1=>?_
 (apply Ru;refine sad ?_;refine ssu ?_)
 refine KF2.r1 rfl (RV.t rfl) ⟨by rw [show st.nts+1 - 1=st.nts by omega],rfl⟩ (ImpS.trans (ImpS.sb (M:=own 82 2 xs.length pv (Pr.pvs xs)::pt bm (gy (st.nts+1) pv mb st.emp)::pt mb (fa st.labs)::zc::F) ?_) (gx (st:=⟨st.nts+1,st.prods,st.labs,st.emp⟩) hC o1))
 exact SB
theorem ke (bm mb:Nat) (st:WkS) (A:Int) (q:HP) (v:Value) (b:List cc) (hb:Pr.SymsR q v b) (hn:¬ 16777216 < st.prods.length):Fn Tryz.prog 107 #[ah bm,i64 A,v] [mkS bm mb st,q] (fun _ Q=>Q=[mkS bm mb ⟨st.nts,st.prods++[(A,b)],st.labs,st.emp⟩]):=by
 obtain ⟨a,cap,rfl⟩:=hb.form
 refine Fn.mk2 Tryz.func107 rfl rfl fun w0 F=>?_
 refine G.mkSOut fun pv xs zc hC o1=>?_
 have hxl:=hC.len
 apply Ru
 refine GO.buildSlice1 (n:=2) (v1:=.agg #[i64 A,.slice a b.length cap]) rfl rfl (fun v hv=>by rw [List.mem_singleton.1 hv];rfl) rfl ⟨by decide,by decide⟩ fun bs3=>?_
 refine GO.appendOwn (m:=1) (news:=[i64 A,.slice a b.length cap]) rfl rfl rfl (Tk.t Tk.h) Tk.h rfl (by simp [Value.oneCell']) ⟨by decide,rfl⟩ Nat.one_pos (by unfold maxLen;omega) (by omega) fun v4=>?_
 rw [show Pr.pvs xs++[i64 A,.slice a b.length cap]=Pr.pvs (xs++[(A,.slice a b.length cap)]) from (ei xs [(A,Value.slice a b.length cap)]).symm,show xs.length+1=(xs++[(A,Value.slice a b.length cap)]).length by simp]
 refine GO.ownOne (v:=v4) Tk.h fun o4=>?_
 refine GO.merge (x:=zc) (y:=q) (Tks.c (Tk.t (Tk.t (Tk.t (Tk.t Tk.h)))) (Tks.c (Tk.t (Tk.t (Tk.t (Tk.t Tk.h)))) Tks.n)) ?_
 (apply Ru;refine GO.store1 rfl rfl (by assumption) (Tk.t (Tk.t (Tk.t Tk.h))) (by simp) ?_;apply Ru)
 refine KF2.n0 rfl rfl (ImpS.trans (ImpS.sb (M:=own 82 2 (xs++[(A,Value.slice a b.length cap)]).length v4 (Pr.pvs (xs++[(A,Value.slice a b.length cap)]))::pt bm (gy st.nts v4 mb st.emp)::pt mb (fa st.labs)::aL [zc,q]::F) ?_) (gx (st:=⟨st.nts,st.prods++[(A,b)],st.labs,st.emp⟩) (Pr.Cp.snoc (p:=(A,b)) (x:=(A,Value.slice a b.length cap)) rfl (hb.sup (Sup.right zc q)) (hC.sup (Sup.left zc q))) o4))
 ((refine Sb.c (Tk.t (Tk.t Tk.h)) ?_;refine Sb.c Tk.h ?_;exact SB);skip)
theorem qA (bm mb:Nat) (st:WkS) (h:¬ 4096 < st.nts∧0≤st.nts) (hn:¬ 16777216 < st.prods.length):Fn Tryz.prog 110 #[ah bm] [mkS bm mb st] (fun r Q=>r=i64 (bD st).2∧Q=[mkS bm mb (bD st).1]):=by
 have hh:=lx bm mb st h
 have hp:=fun st' A q hq hn'=>ke bm mb st' A q (.slice none 0 0) [] hq hn'
 refine Fn.mk2 Tryz.func110 rfl rfl fun w0 F=>?_
 unfold bD
 by_cases he:st.emp=0
 ·have d1:decide (st.emp=0)=true:=decide_eq_true he
  rw [if_pos he]
  refine G.mkSOut fun pv xs zc hC o1=>?_
  (apply Ru;refine scT ?_)
  refine GO.back (gx hC o1) ?_
  refine scl (hh) ?_
  rintro _ _ ⟨rfl,rfl⟩
  refine GO.mkSOut Tk.h fun pv xs zc hC o1=>?_
  apply Ru
  refine GO.back (ImpS.trans (ImpS.sb (M:=own 82 2 xs.length pv (Pr.pvs xs)::pt bm (gy (st.nts+1) pv mb st.nts)::pt mb (fa st.labs)::zc::F) SB) (gx (st:=⟨st.nts+1,st.prods,st.labs,st.nts⟩) hC o1)) ?_
  refine GO.back ImpS.tt ?_
  have hp:=hp ⟨st.nts+1,st.prods,st.labs,st.nts⟩ st.nts (Go.Proofs.YtkeialpeabhaaaaGreat.pur True) (xY _) hn
  refine scl (hp) ?_
  rintro _ _ rfl
  refine GO.mkSOut Tk.h fun pv xs zc hC o1=>?_
  apply Ru
  refine KF2.r1 rfl (RV.t rfl) ⟨rfl,rfl⟩ (ImpS.trans (ImpS.sb (M:=own 82 2 xs.length pv (Pr.pvs xs)::pt bm (gy (st.nts+1) pv mb st.nts)::pt mb (fa st.labs)::zc::F) ?_) (gx (st:=⟨st.nts+1,st.prods++[(st.nts,[])],st.labs,st.nts⟩) hC o1))
  exact SB
 ·have d1:decide (st.emp=0)=false:=decide_eq_false he
  rw [if_neg he]
  refine G.mkSOut fun pv xs zc hC o1=>?_
  (apply Ru;refine scF ?_)
  refine KF2.r1 rfl (RV.t rfl) ⟨rfl,rfl⟩ (ImpS.trans (ImpS.sb (M:=own 82 2 xs.length pv (Pr.pvs xs)::pt bm (gy st.nts pv mb st.emp)::pt mb (fa st.labs)::zc::F) ?_) (gx hC o1))
  exact SB
end
end Go.Proofs.YtkeialpeabhaaaaGreat
