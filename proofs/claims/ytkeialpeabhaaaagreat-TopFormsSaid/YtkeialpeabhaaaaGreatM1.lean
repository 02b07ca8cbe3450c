/-
  The law TopForms, part 1.
-/
import Derived.RangeFuncCalls
import Derived.Laws.World
import Derived.Laws.NewFold
import Derived.Laws.CopyRow
import Derived.Laws.Cells
import Derived.Deep.MidRow
import Derived.Below
import Derived.KernelRfl
import Derived.IntWalk
import Derived.Laws.Tables
import Derived.Great.BuildSlice
import Derived.ChangeKeysEq
import Derived.Laws.StructEq
import Derived.Laws.AppendOwn
import Derived.Laws.Slices
import Derived.RangeFuncNested
import Derived.Deep.Upon
import Derived.Laws.MakeOwn
import Derived.Laws.Small
namespace Go.Proofs.YtkeialpeabhaaaaGreat
open Go
set_option synthInstance.maxHeartbeats 0
set_option synthInstance.maxSize 100000
set_option maxHeartbeats 128000000
set_option maxRecDepth 40000
set_option linter.all false
/-! ## Pieces of a heap -/
abbrev Hp:=Nat→Option Obj
def Hp.le (h:Hp) (w:World):Prop:=∀ b o,h b=some o→w.heap[b]?=some o
def Hp.dj (h k:Hp):Prop:=∀ b,h b=none∨k b=none
def Hp.cup (h k:Hp):Hp:=fun b=>(h b).or (k b)
def Hp.nil:Hp:=fun _=>none
abbrev HP:=Hp→Prop
def aL:List HP→HP
 | []=>fun h=>h=Hp.nil
 | p::l=>fun h=>∃ h1 h2,Hp.dj h1 h2∧h=Hp.cup h1 h2∧p h1∧aL l h2
def sat (l:List HP) (w:World):Prop:=∃ h,Hp.le h w∧aL l h
theorem Hp.dj_comm {h k:Hp} (d:Hp.dj h k):Hp.dj k h:=fun b=>(d b).symm
theorem Hp.cup_comm {h k:Hp} (d:Hp.dj h k):Hp.cup h k=Hp.cup k h:=by
 funext b;unfold Hp.cup;rcases d b with e | e <;> simp [e]
theorem Hp.cup_assoc (h k l:Hp):Hp.cup (Hp.cup h k) l=Hp.cup h (Hp.cup k l):=by
 funext b;unfold Hp.cup;cases h b <;> simp
theorem Hp.dj_cup {h k l:Hp}:Hp.dj h (Hp.cup k l)↔Hp.dj h k∧Hp.dj h l:=by
 constructor
 ·intro d
  constructor <;> intro b <;> rcases d b with e | e
  ·exact .inl e
  ·unfold Hp.cup at e;cases hk:k b <;> simp_all
  ·exact .inl e
  ·unfold Hp.cup at e;cases hk:k b <;> simp_all
 ·rintro ⟨d,e⟩ b
  rcases d b with x | x
  ·exact .inl x
  ·rcases e b with y | y
   ·exact .inl y
   ·exact .inr (by unfold Hp.cup;simp [x,y])
theorem Hp.cup_dj {h k l:Hp}:Hp.dj (Hp.cup h k) l↔Hp.dj h l∧Hp.dj k l:=
 ⟨fun d=>let ⟨x,y⟩:=Hp.dj_cup.1 (Hp.dj_comm d);⟨Hp.dj_comm x,Hp.dj_comm y⟩,fun ⟨x,y⟩=>Hp.dj_comm (Hp.dj_cup.2 ⟨Hp.dj_comm x,Hp.dj_comm y⟩)⟩
theorem Hp.nil_cup (h:Hp):Hp.cup Hp.nil h=h:=by funext b;simp [Hp.cup,Hp.nil]
theorem Hp.cup_nil (h:Hp):Hp.cup h Hp.nil=h:=by funext b;simp [Hp.cup,Hp.nil]
theorem Hp.dj_nil (h:Hp):Hp.dj h Hp.nil:=fun _=>.inr rfl
theorem Hp.nil_dj (h:Hp):Hp.dj Hp.nil h:=fun _=>.inl rfl
theorem yq {p q:HP} {l:List HP} {h:Hp}:aL (p::q::l) h→aL (q::p::l) h:=by
 rintro ⟨h1,r,d,rfl,hp,h2,h3,d',rfl,hq,hl⟩
 obtain ⟨d12,d13⟩:=Hp.dj_cup.1 d
 refine ⟨h2,Hp.cup h1 h3,Hp.dj_cup.2 ⟨Hp.dj_comm d12,d'⟩,?_,hq,h1,h3,d13,rfl,hp,hl⟩
 rw [← Hp.cup_assoc,← Hp.cup_assoc,Hp.cup_comm d12]
theorem yr {l l':List HP} (hp:l.Perm l'):∀ {h:Hp},aL l h→aL l' h:=by
 induction hp with
 | nil=>exact id
 | cons x _ ih=>rintro h ⟨h1,h2,d,rfl,hx,hl⟩;exact ⟨h1,h2,d,rfl,hx,ih hl⟩
 | swap x y l=>exact yq
 | trans _ _ ih1 ih2=>exact fun h=>ih2 (ih1 h)
theorem jw {l l':List HP} {h:Hp}:aL (l++l') h↔∃ h1 h2,Hp.dj h1 h2∧h=Hp.cup h1 h2∧aL l h1∧aL l' h2:=by
 induction l generalizing h with
 | nil=>
  constructor
  ·intro hl;exact ⟨Hp.nil,h,Hp.nil_dj _,(Hp.nil_cup _).symm,rfl,hl⟩
  ·rintro ⟨h1,h2,_,rfl,e,hl⟩;simp only [aL] at e;subst e;rw [Hp.nil_cup];exact hl
 | cons p l ih=>
  constructor
  ·rintro ⟨h1,r,d,rfl,hp,hr⟩
   obtain ⟨h2,h3,d',rfl,hl,hl'⟩:=ih.1 hr
   obtain ⟨d12,d13⟩:=Hp.dj_cup.1 d
   exact ⟨Hp.cup h1 h2,h3,Hp.cup_dj.2 ⟨d13,d'⟩,(Hp.cup_assoc _ _ _).symm,⟨h1,h2,d12,rfl,hp,hl⟩,hl'⟩
  ·rintro ⟨r,h3,d,rfl,⟨h1,h2,d12,rfl,hp,hl⟩,hl'⟩
   obtain ⟨d13,d23⟩:=Hp.cup_dj.1 d
   exact ⟨h1,Hp.cup h2 h3,Hp.dj_cup.2 ⟨d12,d13⟩,Hp.cup_assoc _ _ _,hp,ih.2 ⟨h2,h3,d23,rfl,hl,hl'⟩⟩
theorem r5 {l l':List HP} {h:Hp}:aL (aL l::l') h↔aL (l++l') h:=by
 rw [jw];rfl
theorem ai {l l':List HP} (hp:l.Perm l') {w:World}:sat l w→sat l' w:=fun ⟨h,hl,hs⟩=>⟨h,hl,yr hp hs⟩
theorem Hp.le_cup {h k:Hp} {w:World} (d:Hp.dj h k):Hp.le (Hp.cup h k) w↔Hp.le h w∧Hp.le k w:=by
 constructor
 ·intro hl
  refine ⟨fun b o e=>hl b o (by simp [Hp.cup,e]),fun b o e=>hl b o ?_⟩
  rcases d b with x | x
  ·simp [Hp.cup,x,e]
  ·rw [x] at e;cases e
 ·rintro ⟨h1,h2⟩ b o e
  unfold Hp.cup at e
  cases hb:h b with
  | none=>simp [hb] at e;exact h2 b o e
  | some u=>simp [hb] at e;subst e;exact h1 b _ hb
theorem AD {l l':List HP} {w:World} (h:sat (l++l') w):sat l w:=by
 obtain ⟨h,hl,hs⟩:=h
 obtain ⟨h1,h2,d,rfl,s1,_⟩:=jw.1 hs
 exact ⟨h1,((Hp.le_cup d).1 hl).1,s1⟩
theorem cx {l l':List HP} {w:World} (h:sat (l++l') w):sat l' w:=by
 obtain ⟨h,hl,hs⟩:=h
 obtain ⟨h1,h2,d,rfl,_,s2⟩:=jw.1 hs
 exact ⟨h2,((Hp.le_cup d).1 hl).2,s2⟩
theorem aJ {l l':List HP} {w:World}:sat (aL l::l') w↔sat (l++l') w:=
 ⟨fun ⟨h,a,b⟩=>⟨h,a,r5.1 b⟩,fun ⟨h,a,b⟩=>⟨h,a,r5.2 b⟩⟩
def pt (b:Nat) (o:Obj):HP:=fun h=>h=fun k=>if k=b then some o else none
def pur (φ:Prop):HP:=fun h=>φ∧h=Hp.nil
def exs {α:Type} (p:α→HP):HP:=fun h=>∃ x,p x h
theorem aT {b:Nat} {o:Obj} {l:List HP} {w:World} (h:sat (pt b o::l) w):w.heap[b]?=some o:=by
 obtain ⟨h,hl,h1,h2,d,rfl,rfl,_⟩:=h
 exact hl b o (by simp [Hp.cup])
theorem bF {φ:Prop} {l:List HP} {w:World}:sat (pur φ::l) w↔φ∧sat l w:=by
 constructor
 ·rintro ⟨h,hl,h1,h2,d,rfl,⟨hφ,rfl⟩,s⟩
  exact ⟨hφ,h2,by rw [Hp.nil_cup] at hl;exact hl,s⟩
 ·rintro ⟨hφ,h,hl,s⟩
  exact ⟨h,hl,Hp.nil,h,Hp.nil_dj _,(Hp.nil_cup _).symm,⟨hφ,rfl⟩,s⟩
theorem cH {α:Type} {p:α→HP} {l:List HP} {w:World}:sat (exs p::l) w↔∃ x,sat (p x::l) w:=by
 constructor
 ·rintro ⟨h,hl,h1,h2,d,rfl,⟨x,hx⟩,s⟩;exact ⟨x,_,hl,h1,h2,d,rfl,hx,s⟩
 ·rintro ⟨x,h,hl,h1,h2,d,rfl,hx,s⟩;exact ⟨_,hl,h1,h2,d,rfl,⟨x,hx⟩,s⟩
theorem bE {b:Nat} {o o':Obj} {l:List HP} {w w':World} (h:sat (pt b o::l) w) (hb:w'.heap[b]?=some o')
  (hk:∀ k,k≠b→w'.heap[k]?=w.heap[k]?):sat (pt b o'::l) w':=by
 obtain ⟨h,hl,h1,h2,d,rfl,rfl,s⟩:=h
 have h2b:h2 b=none:=(d b).resolve_left (by simp)
 refine ⟨Hp.cup (fun k=>if k=b then some o' else none) h2,?_,_,h2,?_,rfl,rfl,s⟩
 ·intro k x e
  unfold Hp.cup at e
  by_cases hkb:k=b
  ·subst hkb;simp at e;subst e;exact hb
  ·simp [hkb] at e
   rw [hk k hkb]
   exact hl k x (by simp [Hp.cup,hkb,e])
 ·intro k
  by_cases hkb:k=b
  ·subst hkb;exact .inr h2b
  ·exact .inl (by simp [hkb])
theorem oB {l:List HP} {w w':World} (h:sat l w) (hk:∀ (b:Nat) (o:Obj),w.heap[b]?=some o→w'.heap[b]?=some o):sat l w':=by
 obtain ⟨h,hl,s⟩:=h;exact ⟨h,fun b o e=>hk b o (hl b o e),s⟩
theorem fD {l:List HP} {w w':World} (h:sat l w) (hk:w'.heap=w.heap):sat l w':=oB h (fun b o e=>by rw [hk];exact e)
theorem bh {l:List HP} {w:World} (h:sat l w) (o:Obj):sat (pt w.heap.size o::l) (w.alloc o):=by
 obtain ⟨h,hl,s⟩:=h
 have hn:h w.heap.size=none:=by
  cases e:h w.heap.size with
  | none=>rfl
  | some x=>have:=hl _ _ e;simp at this
 refine ⟨Hp.cup (fun k=>if k=w.heap.size then some o else none) h,?_,_,h,?_,rfl,rfl,s⟩
 ·intro k x e
  unfold Hp.cup at e
  by_cases hk:k=w.heap.size
  ·subst hk;simp at e;subst e;exact World.alloc_heap_new w _
  ·simp [hk] at e
   have:=hl k x e
   have hlt:k < w.heap.size:=(Array.getElem?_eq_some_iff.1 this).1
   exact (RowKit.Below.heap_alloc w o k hlt).trans this
 ·intro k
  by_cases hk:k=w.heap.size
  ·subst hk;exact .inr hn
  ·exact .inl (by simp [hk])
def Tk (x:HP) (H F:List HP):Prop:=H.Perm (x::F)
theorem Tk.h {x:HP} {F:List HP}:Tk x (x::F) F:=List.Perm.refl _
theorem Tk.t {x y:HP} {H F:List HP} (h:Tk x H F):Tk x (y::H) (y::F):=(List.Perm.cons y h).trans (List.Perm.swap x y F)
def Tks (X H F:List HP):Prop:=H.Perm (X++F)
theorem Tks.n {H:List HP}:Tks [] H H:=List.Perm.refl _
theorem Tks.c {x:HP} {X H H' F:List HP} (h:Tk x H H') (k:Tks X H' F):Tks (x::X) H F:=h.trans (List.Perm.cons x k)
def Sb (T H:List HP):Prop:=∃ X,H.Perm (T++X)
theorem Sb.r {H:List HP}:Sb H H:=⟨[],by simp⟩
theorem Sb.s {x:HP} {T H:List HP} (h:Sb T H):Sb T (x::H):=let ⟨X,p⟩:=h;⟨x::X,(List.Perm.cons x p).trans (List.perm_middle.symm)⟩
theorem Sb.c {x:HP} {T H H':List HP} (h:Tk x H H') (k:Sb T H'):Sb (x::T) H:=let ⟨X,p⟩:=k;⟨X,h.trans (List.Perm.cons x p)⟩
theorem Sb.sat {T H:List HP} {w:World} (h:Sb T H) (s:sat H w):sat T w:=let ⟨_,p⟩:=h;AD (ai p s)
theorem Sb.app {T H X:List HP} (h:Sb T H):Sb (T++X) (H++X):=let ⟨Y,p⟩:=h;⟨Y,by
 rw [List.append_assoc]
 exact (List.Perm.append_right X p).trans (by rw [List.append_assoc];exact List.Perm.append_left T List.perm_append_comm)⟩
structure Same (w w':World):Prop where
 os:w'.os=w.os
 tape:w'.tape=w.tape
 output:w'.output=w.output
 size:w.heap.size≤w'.heap.size
 draws:w.drawn≤w'.drawn
theorem Same.refl (w:World):Same w w:=⟨rfl,rfl,rfl,Nat.le_refl _,Nat.le_refl _⟩
theorem Same.trans {a b c:World} (h:Same a b) (k:Same b c):Same a c:=⟨k.os.trans h.os,k.tape.trans h.tape,k.output.trans h.output,Nat.le_trans h.size k.size,Nat.le_trans h.draws k.draws⟩
theorem Same.alloc (w:World) (o:Obj):Same w (w.alloc o):=⟨rfl,rfl,rfl,by simp,Nat.le_refl _⟩
theorem Same.drawn {w:World} (n:Nat) (h:w.drawn≤n):Same w { w with drawn:=n }:=⟨rfl,rfl,rfl,Nat.le_refl _,h⟩
theorem Same.putObj (w:World) (b:Nat) (o:Obj):Same w (w.putObj b o):=⟨rfl,rfl,rfl,by simp,Nat.le_refl _⟩
def init (w0:World):HP:=fun h=>h=fun b=>if b < w0.heap.size then w0.heap[b]? else none
theorem oC (w0:World):sat [init w0] w0:=by
 refine ⟨_,?_,_,Hp.nil,Hp.dj_nil _,(Hp.cup_nil _).symm,rfl,rfl⟩
 intro b o e
 by_cases hb:b < w0.heap.size
 ·simpa [hb] using e
 ·simp [hb] at e
theorem lf {w0 w:World} {l:List HP} (s:Same w0 w) (h:sat (init w0::l) w):RowKit.Below w0.heap.size w0 w:=by
 refine ⟨s.os,s.tape,s.output,s.size,fun k hk=>?_⟩
 obtain ⟨h,hl,h1,h2,d,rfl,rfl,_⟩:=h
 cases e:w0.heap[k]? with
 | none=>simp at e;omega
 | some o=>refine hl k o ?_;unfold Hp.cup;simp only [hk,if_true,e];rfl
section
abbrev Env:=List (Nat × Value)
def aR:Env→Nat→Option Value
 | [],_=>none
 | (k,v)::l,s=>bif Nat.beq k s then some v else aR l s
theorem lH {i s:Nat} (h:i≠s):Nat.beq i s=false:=by
 cases e:Nat.beq i s with
 | false=>rfl
 | true=>exact absurd (Nat.eq_of_beq_eq_true e) h
def evl (L:Env):Operand→Option Value
 | .tmp t=>aR L t
 | .const v=>some v
 | .global g=>some (.pointer (some ⟨g,0,none⟩))
 | .func f=>some (.func (.func f) #[] #[])
def At (N:Nat) (L:Env) (a:Act):Prop:=a.tmps.size=N∧∀ s v,aR L s=some v→a.tmps[s]?=some v
theorem At.eval {N:Nat} {L:Env} {a:Act} {x:Operand} {v:Value} (h:At N L a) (e:evl L x=some v):a.eval x=v:=by
 cases x with
 | tmp t=>have:=h.2 t v e;simp [Act.eval,Array.getD_eq_getD_getElem?,this]
 | const u=>simpa [evl,Act.eval] using e
 | global g=>simpa [evl,Act.eval] using e
 | func f=>simpa [evl,Act.eval] using e
theorem At.put {N d:Nat} {L:Env} {a:Act} {v:Value} (h:At N L a) (hd:Nat.blt d N=true):At N ((d,v)::L) (a.put (some d) v):=by
 have hd':d < N:=by simpa using hd
 refine ⟨by simpa [Act.put] using h.1,fun s u e=>?_⟩
 simp only [aR] at e
 simp only [Act.put]
 by_cases hs:d=s
 ·subst hs;simp at e;subst e;simp [h.1,hd']
 ·have hb:Nat.beq d s=false:=lH hs
  simp [hb] at e
  rw [Array.getElem?_setIfInBounds_ne hs];exact h.2 s u e
theorem At.sub {N:Nat} {L S:Env} {a:Act} (h:At N L a) (hs:∀ s v,aR S s=some v→aR L s=some v):At N S a:=⟨h.1,fun s v e=>h.2 s v (hs s v e)⟩
def SubE (S L:Env):Prop:=∀ s v,aR S s=some v→aR L s=some v
theorem SubE.n {L:Env}:SubE [] L:=fun _ _ e=>by simp [aR] at e
theorem SubE.r {L:Env}:SubE L L:=fun _ _ e=>e
theorem SubE.c {S L:Env} {s:Nat} {v u:Value} (h:aR L s=some u) (e:u=v) (k:SubE S L):SubE ((s,v)::S) L:=by
 subst e
 intro t x ht
 simp only [aR] at ht
 by_cases hs:s=t
 ·subst hs;simp at ht;subst ht;exact h
 ·have hb:Nat.beq s t=false:=lH hs
  simp [hb] at ht;exact k t x ht
def dX (D:Nat):Deferred:={ target:=.collected D,args:=#[] }
def cA (D:Nat):HP:=pt D (.deferred (some []))
structure Cx where
 r:Option Nat
 N:Nat
 w0:World
 X:List HP
 D:List Deferred
 nd:Bool
def fen (r:Option Nat):Fence:={ Fence.wide with round:=r }
theorem ji (r:Option Nat) (f:FuncId):(fen r).fn f:=trivial
structure St (c:Cx) (L:Env) (H:List HP) (a:Act) (w:World):Prop where
 at_:At c.N L a
 same:Same c.w0 w
 mem:∃ ds:List Nat,a.defers=ds.map dX++c.D∧((c.r.isSome || c.nd)=true→ds=[])∧sat (H++(c.X++ds.map cA)) w
theorem St.sub {c:Cx} {L L':Env} {H H':List HP} {a:Act} {w:World} (h:St c L H a w) (hL:SubE L' L) (hH:Sb H' H):St c L' H' a w:=by
 obtain ⟨h1,h2,ds,h3,h4,h5⟩:=h
 exact ⟨h1.sub hL,h2,ds,h3,h4,(Sb.app hH).sat h5⟩
abbrev aY:=Exit→Env→List HP→Prop
def gK (c:Cx) (K:aY):Exit→Act→World→Prop:=fun e a w=>∃ L H,St c L H a w∧K e L H
def G (P:Program) (c:Cx) (x:Code) (K:aY) (L:Env) (H:List HP):Prop:=∀ a w,St c L H a w→x.wpIn (fen c.r) 0 P (gK c K) a w
def cF (n:Env→List HP→Prop) (K:aY):aY
 | .normal,L,H=>n L H
 | e,L,H=>K e L H
def cB (id:Nat) (K:aY):aY
 | .exit id',L,H=>bif Nat.beq id' id then K .normal L H else K (.exit id') L H
 | e,L,H=>K e L H
section rules
variable {P:Program} {c:Cx} {K:aY} {L:Env} {H:List HP}
theorem G.sub {x:Code} {L':Env} {H':List HP} (hL:SubE L' L) (hH:Sb H' H) (k:G P c x K L' H'):G P c x K L H:=fun a w h=>k a w (h.sub hL hH)
theorem G.mem {x:Code} {H':List HP} (hH:Sb H' H) (k:G P c x K L H'):G P c x K L H:=G.sub SubE.r hH k
theorem G.exs {α:Type} {x:Code} {p:α→HP} (k:∀ y,G P c x K L (p y::H)):G P c x K L (exs p::H):=by
 rintro a w ⟨h1,h2,ds,h3,h4,h5⟩
 obtain ⟨y,hy⟩:=cH.1 h5
 exact k y a w ⟨h1,h2,ds,h3,h4,hy⟩
theorem G.pur {x:Code} {φ:Prop} (k:φ→G P c x K L H):G P c x K L (pur φ::H):=by
 rintro a w ⟨h1,h2,ds,h3,h4,h5⟩
 obtain ⟨y,hy⟩:=bF.1 h5
 exact k y a w ⟨h1,h2,ds,h3,h4,hy⟩
theorem G.flat {x:Code} {l:List HP} (k:G P c x K L (l++H)):G P c x K L (aL l::H):=by
 rintro a w ⟨h1,h2,ds,h3,h4,h5⟩
 refine k a w ⟨h1,h2,ds,h3,h4,?_⟩
 rw [List.append_assoc];exact aJ.1 h5
theorem G.mono {x:Code} {K':aY} (k:G P c x K' L H) (h:∀ e L H,K' e L H→K e L H):G P c x K L H:=
 fun a w s=>wpIn_mono (k a w s) fun _ _ _ ⟨L',H',s',q⟩=>⟨L',H',s',h _ _ _ q⟩
theorem G.seq {x y:Code} (k:G P c x (cF (fun L H=>G P c y K L H) K) L H):G P c (.seq x y) K L H:=by
 intro a w h
 refine wpIn_seq (wpIn_mono (k a w h) ?_)
 rintro e a' w' ⟨L',H',s,q⟩
 cases e with
 | normal=>exact q a' w' s
 | exit id=>exact ⟨L',H',s,q⟩
 | goto l=>exact ⟨L',H',s,q⟩
 | ret=>exact ⟨L',H',s,q⟩
 | panic ch=>exact ⟨L',H',s,q⟩
 | outgrown=>exact ⟨L',H',s,q⟩
theorem G.skip (k:K .normal L H):G P c .skip K L H:=fun _ _ h=>wpIn_skip ⟨L,H,h,k⟩
theorem G.label {l:Nat} (k:K .normal L H):G P c (.label l) K L H:=fun _ _ h=>wpIn_label ⟨L,H,h,k⟩
theorem G.exit {id:Nat} (k:K (.exit id) L H):G P c (.exit id) K L H:=fun _ _ h=>wpIn_exit ⟨L,H,h,k⟩
theorem G.ret (k:K .ret L H):G P c .ret K L H:=fun _ _ h=>wpIn_ret ⟨L,H,h,k⟩
theorem G.cond {t:Operand} {x y:Code} {b:Bool} (e:evl L t=some (.bool b)) (kt:b=true→G P c x K L H) (kf:b=false→G P c y K L H):G P c (.cond t x y) K L H:=by
 intro a w h
 exact wpIn_cond_split (h.at_.eval e) (fun hb=>kt hb a w h) (fun hb=>kf hb a w h)
theorem G.condD {t:Operand} {x y:Code} {p:Prop} [d:Decidable p] (e:evl L t=some (.bool (decide p))) (kt:p→G P c x K L H) (kf:¬ p→G P c y K L H):G P c (.cond t x y) K L H:=
 G.cond e (fun h=>kt (of_decide_eq_true h)) (fun h=>kf (of_decide_eq_false h))
theorem G.condT {t:Operand} {x y:Code} {b:Bool} (e:evl L t=some (.bool b)) (hb:b=true) (kt:G P c x K L H):G P c (.cond t x y) K L H:=
 G.cond e (fun _=>kt) (fun h=>by simp [h] at hb)
theorem G.condF {t:Operand} {x y:Code} {b:Bool} (e:evl L t=some (.bool b)) (hb:b=false) (kf:G P c y K L H):G P c (.cond t x y) K L H:=
 G.cond e (fun h=>by simp [h] at hb) (fun _=>kf)
theorem G.block {id:Nat} {x:Code} (k:G P c x (cB id K) L H):G P c (.block id x) K L H:=by
 intro a w h
 refine wpIn_block (wpIn_mono (k a w h) ?_)
 rintro e a' w' ⟨L',H',s,q⟩
 cases e with
 | normal=>exact ⟨L',H',s,q⟩
 | exit id'=>
  simp only [cB] at q
  simp only [Exit.inBlock]
  by_cases hi:id'=id
  ·subst hi;simp at q;simp;exact ⟨L',H',s,q⟩
  ·have hb:Nat.beq id' id=false:=lH hi
   simp [hb] at q;simp [hi];exact ⟨L',H',s,q⟩
 | goto l=>exact ⟨L',H',s,q⟩
 | ret=>exact ⟨L',H',s,q⟩
 | panic ch=>exact ⟨L',H',s,q⟩
 | outgrown=>exact ⟨L',H',s,q⟩
theorem ao {n:Env→List HP→Prop} (k:n L H):cF n K .normal L H:=k
theorem ga {n:Env→List HP→Prop} {id:Nat} (k:K (.exit id) L H):cF n K (.exit id) L H:=k
theorem gZ {n:Env→List HP→Prop} (k:K .ret L H):cF n K .ret L H:=k
theorem iA {id:Nat} (k:K .normal L H):cB id K .normal L H:=k
theorem pm {id:Nat} (k:K .ret L H):cB id K .ret L H:=k
theorem jN {id:Nat} (k:K .normal L H):cB id K (.exit id) L H:=by simpa [cB] using k
theorem Bb {id id':Nat} (h:Nat.beq id' id=false) (k:K (.exit id') L H):cB id K (.exit id') L H:=by simpa [cB,h] using k
theorem G.loop {σ:Type} {x:Code} (S:σ→Env) (M:σ→List HP) (I:σ→Prop) (μ:σ→Nat) (s0:σ) (h0:I s0) (hL:SubE (S s0) L) (hH:Sb (M s0) H)
  (round:∀ s,I s→G P c x (cF (fun L' H'=>∃ s',I s'∧μ s' < μ s∧SubE (S s') L'∧Sb (M s') H') K) (S s) (M s)):G P c (.loop x) K L H:=by
 intro a w hs b k cs hro hb hr
 have key:∀ j s a w,μ s=j→I s→St c (S s) (M s) a w →
   ∃ e a' w',gK c K e a' w'∧ArrivesIn (Machine.fenced P (fen c.r)) P (lone (b.atR a (.code x::.inLoop x::k)) cs w) b k cs e a' w':=by
  intro j
  induction j using Nat.strongRecOn with
  | _ j ih=>
   intro s a w hn hI hs
   obtain ⟨e,a₁,w₁,⟨L',H',s1,hq⟩,harr⟩:=round s hI a w hs b (.inLoop x::k) cs hro hb hr
   cases e with
   | normal=>
    obtain ⟨s',hI',hlt,hL',hH'⟩:=hq
    obtain ⟨e₂,a₂,w₂,hq₂,harr₂⟩:=ih (μ s') (hn ▸ hlt) s' a₁ w₁ rfl hI' (s1.sub hL' hH')
    exact ⟨e₂,a₂,w₂,hq₂,.of_steps (StepsIn.trans harr (.one (fenced_calm hb hr rfl) stepR_inLoop)) harr₂⟩
   | exit id=>exact ⟨_,a₁,w₁,⟨L',H',s1,hq⟩,.pass (x:=.inLoop x) rfl (fun _ _=>.inl (by simp)) harr⟩
   | goto l=>exact ⟨_,a₁,w₁,⟨L',H',s1,hq⟩,.pass (x:=.inLoop x) rfl (fun _ _=>.inl (by simp)) harr⟩
   | ret=>exact ⟨_,a₁,w₁,⟨L',H',s1,hq⟩,.pass (x:=.inLoop x) rfl (fun _ _=>.inl (by simp)) harr⟩
   | panic ch=>exact ⟨_,a₁,w₁,⟨L',H',s1,hq⟩,.pass (x:=.inLoop x) rfl (fun _ _=>.inl (by simp)) harr⟩
   | outgrown=>exact ⟨_,a₁,w₁,⟨L',H',s1,hq⟩,.pass (x:=.inLoop x) rfl (fun _ _=>.inl (by simp)) harr⟩
 obtain ⟨e,a',w',hq,harr⟩:=key _ s0 a w rfl h0 (hs.sub hL hH)
 exact ⟨e,a',w',hq,.of_steps (.one (fenced_calm hb hr rfl) stepR_loop) harr⟩
end rules
def cQ (F:Fence) (P:Program) (A:Array Oper) (Q:Exit→Act→World→Prop):List Oper→Act→World→Prop
 | [],a,w=>Q .normal a w
 | o::rest,a,w=>if Region.wanted o (yielded A a.tmps) then o.uponIn F 0 P a (cQ F P A Q rest) Q ((o.semAt F.round a.eval).run P w) else cQ F P A Q rest (a.put o.dst undef) w
theorem dh {F:Fence} {P:Program} {A:Array Oper} {Q:Exit→Act→World→Prop} (hF:∀ f,F.fn f):∀ (l:List Nat) (os:List Oper) (a:Act) (w:World),
  l.map (fun i=>A[i]?)=os.map some→cQ F P A Q os a w→wpOpsIn F 0 P A Q l a w
 | [],[],a,w,_,h=>h
 | [],_::_,_,_,e,_=>by simp at e
 | _::_,[],_,_,e,_=>by simp at e
 | i::l,o::os,a,w,e,h=>by
  simp only [List.map_cons,List.cons.injEq] at e
  obtain ⟨e1,e2⟩:=e
  simp only [wpOpsIn,e1]
  simp only [cQ] at h
  have up:∀ r:Result Next,o.uponIn F 0 P a (cQ F P A Q os) Q r→o.uponIn F 0 P a (wpOpsIn F 0 P A Q l) Q r:=by
   intro r hr
   have ih:=fun a w=>dh (P:=P) (A:=A) (Q:=Q) hF l os a w e2
   cases r with
   | halt h w'=>cases h <;> exact hr
   | ok n w'=>
    cases n with
    | value v=>exact ih _ _ hr
    | skip=>exact ih _ _ hr
    | defer d=>exact ih _ _ hr
    | enter f args=>exact ⟨hr.1,hr.2.mono fun e w'' he=>by cases e with | returned v=>exact ih _ _ he | panicked c=>exact he | outgrown=>exact he⟩
    | row r args=>exact ⟨hr.1,hr.2.mono fun v w'' he=>ih _ _ he⟩
    | round l f t x y=>exact ⟨hr.1,hr.2.mono fun e w'' he=>by cases e with | returned v=>exact ih _ _ he | panicked c=>exact he | outgrown=>exact he⟩
    | _=>exact hr
  split
  ·rename_i hw
   rw [if_pos hw] at h
   exact ⟨fun f _=>hF f,up _ h⟩
  ·rename_i hw
   rw [if_neg hw] at h
   exact ⟨fun f _=>hF f,dh hF l os _ _ e2 h⟩
theorem kN (A:Array Oper):(List.range A.size).map (fun i=>A[i]?)=A.toList.map some:=by
 apply List.ext_getElem?
 intro i
 simp only [List.getElem?_map]
 by_cases h:i < A.size
 ·simp [h]
 ·simp [h]
def GO (P:Program) (c:Cx) (A:Array Oper) (os:List Oper) (K:aY) (L:Env) (H:List HP):Prop:=∀ a w,St c L H a w→cQ (fen c.r) P A (gK c K) os a w
theorem G.region {P:Program} {c:Cx} {K:aY} {L:Env} {H:List HP} {id:Nat} {A:Array Oper} (k:GO P c A A.toList K L H):G P c (.region id A false) K L H:=
 fun a w h=>wpIn_region (dh (ji c.r) _ _ a w (kN A) (k a w h))
def Ret (w:World) (F:List HP) (R:Value→List HP→Prop):Ending→World→Prop:=fun e w'=>∃ v Q,e=.returned v∧Same w w'∧R v Q∧sat (Q++F) w'
def Fn (P:Program) (f:FuncId) (args:Array Value) (Pre:List HP) (R:Value→List HP→Prop):Prop:=∀ F w,sat (Pre++F) w→CallsIn Fence.wide 0 P f args w (Ret w F R)
theorem Ret.mono {w:World} {F:List HP} {R R':Value→List HP→Prop} (h:∀ v Q,R v Q→R' v Q) {e:Ending} {w':World} (r:Ret w F R e w'):Ret w F R' e w':=
 let ⟨v,Q,a,b,x,d⟩:=r;⟨v,Q,a,b,h v Q x,d⟩
theorem Fn.mono {P:Program} {f:FuncId} {args:Array Value} {Pre:List HP} {R R':Value→List HP→Prop} (h:Fn P f args Pre R) (k:∀ v Q,R v Q→R' v Q):Fn P f args Pre R':=
 fun F w s=>(h F w s).mono fun _ _=>Ret.mono k
def sW:Nat→List Value→Env
 | _,[]=>[]
 | i,v::l=>(i,v)::sW (i+1) l
theorem gi:∀ (l:List Value) (i s:Nat) (v:Value),aR (sW i l) s=some v→i≤s∧l[s - i]?=some v
 | [],_,_,_,e=>by simp [sW,aR] at e
 | u::l,i,s,v,e=>by
  simp only [sW,aR] at e
  by_cases h:i=s
  ·subst h;simp at e;subst e;simp
  ·have hb:Nat.beq i s=false:=lH h
   simp [hb] at e
   obtain ⟨h1,h2⟩:=gi l (i+1) s v e
   refine ⟨by omega,?_⟩
   rw [show s - i=(s - (i+1))+1 by omega,List.getElem?_cons_succ];exact h2
class AppL (l F:List HP) (H:outParam (List HP)):Prop where e:l++F=H
instance AppL.n {F:List HP}:AppL [] F F:=⟨rfl⟩
instance AppL.c {x:HP} {l F H:List HP} [h:AppL l F H]:AppL (x::l) F (x::H):=⟨by rw [List.cons_append,h.e]⟩
instance (priority:=100) AppL.r {l F:List HP}:AppL l F (l++F):=⟨rfl⟩
class PV (a:Array Value) (L:outParam Env):Prop where e:sW 0 a.toList=L
instance (priority:=50) PV.r {a:Array Value}:PV a (sW 0 a.toList):=⟨rfl⟩
instance PV.j1 {a:Value}:PV ([a]++[]).toArray [(0,a)]:=⟨rfl⟩
instance PV.j2 {a b:Value}:PV ([a]++[b]).toArray [(0,a),(1,b)]:=⟨rfl⟩
instance PV.i0:PV #[] []:=⟨rfl⟩
instance PV.i1 {a:Value}:PV #[a] [(0,a)]:=⟨rfl⟩
instance PV.i2 {a b:Value}:PV #[a,b] [(0,a),(1,b)]:=⟨rfl⟩
instance PV.i3 {a b c:Value}:PV #[a,b,c] [(0,a),(1,b),(2,c)]:=⟨rfl⟩
instance PV.i4 {a b c d:Value}:PV #[a,b,c,d] [(0,a),(1,b),(2,c),(3,d)]:=⟨rfl⟩
def Res (P:Program) (N:Nat) (fn:Func) (L:Env) (H:List HP) (v:Value):Prop:=∀ a w Y,At N L a→sat (H++Y) w→(results fn a.tmps).run P w=.ok v w
def KF (P:Program) (fn:Func) (R:Value→List HP→Prop) (F:List HP):aY
 | .normal,L,H=>∃ v Q,Res P fn.ntmps fn L H v∧R v Q∧Sb (Q++F) H
 | .ret,L,H=>∃ v Q,Res P fn.ntmps fn L H v∧R v Q∧Sb (Q++F) H
 | _,_,_=>False
theorem fb {P:Program} {fn:Func} {tmps:Array Value} {R:Ending→World→Prop} {v:Value} {l:List HP}:∀ (ds:List Nat) (w:World),sat (l++ds.map cA) w →
  (∀ w',Same w w'→sat l w'→(results fn tmps).run P w'=.ok v w'∧R (.returned v) w')→LeavesInM Fence.wide 0 P fn tmps R (ds.map dX) .returning w
 | [],w,s,h=>by
  simp at s
  obtain ⟨h1,h2⟩:=h w (Same.refl w) s
  exact ⟨v,h1,h2⟩
 | d::ds,w,s,h=>by
  simp only [List.map_cons] at s
  have s':sat (cA d::(l++ds.map cA)) w:=ai List.perm_middle s
  have hb:=aT s'
  refine ⟨by simp,.inl ⟨d,_,rfl,run_takeDeferred hb,?_⟩⟩
  refine fb ds _ ?_ (fun w' sm sl=>h w' ((Same.putObj _ _ _).trans sm) sl)
  have:=bE (o':=.deferred none) (w':=w.putObj d (.deferred none)) s' (World.putObj_heap_same (Array.getElem?_eq_some_iff.1 hb).1) (fun k hk=>World.putObj_heap_other hk)
  exact cx (l:=[pt d (.deferred none)]) this
theorem Fn.mk {P:Program} {f:FuncId} {args:Array Value} {Pre:List HP} {R:Value→List HP→Prop} {fn:Func} {x:Code} {L:Env} [pv:PV args L] (hf:P.funcs[f]?=some fn) {N a6 a13:Nat} {a1 a2 a12:String} {a3 a4 a5:Array TypeId} {a8:Array ResultVar} {a10 a11:Bool} {a14:Option Nat} {a15:List Departure} {a16:Array String} (hb:fn=⟨a1,a2,a3,a4,a5,a6,N,a8,some x,a10,a11,a12,a13,a14,a15,a16⟩) (hN:Nat.ble args.size N=true)
  {H:List HP→List HP} [ap:∀ F,AppL Pre F (H F)] (h:∀ w0 F,G P ⟨none,N,w0,[],[],false⟩ x (KF P fn R F) L (H F)):Fn P f args Pre R:=by
 obtain rfl:(fun F=>Pre++F)=H:=funext fun F=>(ap F).e
 obtain rfl:=pv.e
 obtain rfl:fn.ntmps=N:=congrArg Func.ntmps hb
 replace hb:fn.body=some x:=congrArg Func.body hb
 intro F w s
 have hN':args.size≤fn.ntmps:=by simpa using hN
 refine callsIn_of_wp_marks (fn:=fn) (c:=x) hf hb trivial ?_ rfl
 refine wpIn_mono (h w F _ w ⟨⟨?_,?_⟩,Same.refl w,[],rfl,fun _=>rfl,by simpa using s⟩) ?_
 ·simp;omega
 ·intro t v e
  obtain ⟨_,h2⟩:=gi _ _ _ _ e
  simp at h2
  have hlt:t < args.size:=by
   have:=(Array.getElem?_eq_some_iff.1 h2).1;exact this
  rw [Array.getElem?_append_left hlt];exact h2
 ·rintro e a' w' ⟨L',H',⟨h1,h2,ds,h3,_,h5⟩,q⟩
  have fin:(∃ v Q,Res P fn.ntmps fn L' H' v∧R v Q∧Sb (Q++F) H')→LeavesInM Fence.wide 0 P fn a'.tmps (Ret w F R) a'.defers .returning w':=by
   rintro ⟨v,Q,hr,hR,hsb⟩
   rw [show a'.defers=ds.map dX by simpa using h3]
   refine fb (l:=H') (v:=v) ds w' (by simpa using h5) fun w2 sm sl=>⟨?_,v,Q,rfl,h2.trans sm,hR,hsb.sat sl⟩
   exact hr a' w2 [] h1 (by simpa using sl)
  cases e with
  | normal=>exact fin q
  | ret=>exact fin q
  | _=>exact q.elim
end
section
class UL (P:Program) (t:TypeId) (d:outParam TypeDesc):Prop where out:P.underlying t=some d
class SZ (P:Program) (t:TypeId) (n:outParam Nat):Prop where out:(P.info? t).map (·.size)=some n
class BY (P:Program) (t:TypeId) (n:outParam Nat):Prop where out:(P.info? t).map (·.bytes)=some n
class ZC (P:Program) (t:TypeId) (l:outParam (List Value)):Prop where out:((P.info? t).bind (·.zero)).map (fun z=>z.cells.toList)=some l
class Cal (P:Program) (f:FuncId):Prop where out:∀ args w,(callFunc f args).run P w=.ok (.enter f args) w
def row (l:List Value) (T:TypeId):Obj:=.cells l.toArray T (0,0)
def Rd (x:HP) (a:Addr) (v:Value):Prop:=∀ l w,sat (x::l) w→w.cell? a=some v
theorem Rd.row {b:Nat} {l:List Value} {T:TypeId} {o:Nat} {v:Value} (h:l[o]?=some v):Rd (pt b (row l T)) ⟨b,o,none⟩ v:=by
 intro l' w s
 have:=aT s
 simp [World.cell?,this,YtkeialpeabhaaaaGreat.row,h]
theorem Rd.init {w0:World} {a:Addr} {v:Value} (h:w0.cell? a=some v):Rd (init w0) a v:=by
 intro l w s
 have hb:a.block < w0.heap.size:=by
  simp only [World.cell?] at h
  split at h
  ·rename_i e;exact (Array.getElem?_eq_some_iff.1 e).1
  ·cases h
 obtain ⟨k,hl,h1,h2,d,rfl,rfl,_⟩:=s
 cases e:w0.heap[a.block]? with
 | none=>simp [World.cell?,e] at h
 | some o=>
  have:w.heap[a.block]?=some o:=hl _ _ (by unfold Hp.cup;simp only [hb,if_true,e];rfl)
  rw [← h];simp only [World.cell?,this,e]
section rules
variable {P:Program} {c:Cx} {A:Array Oper} {rest:List Oper} {K:aY} {L:Env} {H:List HP} {t:TypeId} {p:String} {e:Array Edge}
theorem GO.nil (k:K .normal L H):GO P c A [] K L H:=fun _ _ h=>⟨L,H,h,k⟩
theorem GO.sub {os:List Oper} {L':Env} {H':List HP} (hL:SubE L' L) (hH:Sb H' H) (k:GO P c A os K L' H'):GO P c A os K L H:=fun a w h=>k a w (h.sub hL hH)
theorem GO.mem {os:List Oper} {H':List HP} (hH:Sb H' H) (k:GO P c A os K L H'):GO P c A os K L H:=GO.sub SubE.r hH k
theorem GO.exs {α:Type} {os:List Oper} {q:α→HP} (k:∀ y,GO P c A os K L (q y::H)):GO P c A os K L (exs q::H):=by
 rintro a w ⟨h1,h2,ds,h3,h4,h5⟩
 obtain ⟨y,hy⟩:=cH.1 h5
 exact k y a w ⟨h1,h2,ds,h3,h4,hy⟩
theorem GO.pur {os:List Oper} {φ:Prop} (k:φ→GO P c A os K L H):GO P c A os K L (pur φ::H):=by
 rintro a w ⟨h1,h2,ds,h3,h4,h5⟩
 obtain ⟨y,hy⟩:=bF.1 h5
 exact k y a w ⟨h1,h2,ds,h3,h4,hy⟩
theorem GO.flat {os:List Oper} {l:List HP} (k:GO P c A os K L (l++H)):GO P c A os K L (aL l::H):=by
 rintro a w ⟨h1,h2,ds,h3,h4,h5⟩
 refine k a w ⟨h1,h2,ds,h3,h4,?_⟩
 rw [List.append_assoc];exact aJ.1 h5
theorem GO.take {os:List Oper} {q:HP} {F:List HP} (tk:Tk q H F) (k:GO P c A os K L (q::F)):GO P c A os K L H:=by
 rintro a w ⟨h1,h2,ds,h3,h4,h5⟩
 exact k a w ⟨h1,h2,ds,h3,h4,ai (List.Perm.append_right _ tk) h5⟩
def t9:Op→Bool
 | .defer _=>false
 | _=>true
theorem df (ro:Option Nat) (ρ:Operand→Value) (o:Oper) (h:t9 o.op=true):o.semAt ro ρ=execOp ρ o:=
 Oper.semAt_eq ro ρ o (fun c e=>by rw [e] at h;cases h)
theorem GO.gen {d:Nat} {op:Op} (hN:Nat.blt d c.N=true) (nd:t9 op=true) (R:Value→List HP→Prop)
  (hr:∀ a w Y,At c.N L a→sat (H++Y) w→∃ v w' H',(execOp a.eval ⟨some d,op,t,p,e,none⟩).run P w=.ok (.value v) w'∧Same w w'∧R v H'∧sat (H'++Y) w')
  (k:∀ v H',R v H'→GO P c A rest K ((d,v)::L) H'):GO P c A (⟨some d,op,t,p,e,none⟩::rest) K L H:=by
 rintro a w ⟨h1,h2,ds,h3,h4,h5⟩
 obtain ⟨v,w',H',hrun,hs,hR,hsat⟩:=hr a w _ h1 h5
 simp only [cQ,Region.wanted,if_true]
 rw [df _ _ _ nd,hrun]
 exact k v H' hR _ w' ⟨h1.put hN,h2.trans hs,ds,h3,h4,hsat⟩
theorem GO.gen0 {op:Op} (nd:t9 op=true) (R:Value→List HP→Prop)
  (hr:∀ a w Y,At c.N L a→sat (H++Y) w→∃ v w' H',(execOp a.eval ⟨none,op,t,p,e,none⟩).run P w=.ok (.value v) w'∧Same w w'∧R v H'∧sat (H'++Y) w')
  (k:∀ v H',R v H'→GO P c A rest K L H'):GO P c A (⟨none,op,t,p,e,none⟩::rest) K L H:=by
 rintro a w ⟨h1,h2,ds,h3,h4,h5⟩
 obtain ⟨v,w',H',hrun,hs,hR,hsat⟩:=hr a w _ h1 h5
 simp only [cQ,Region.wanted,if_true]
 rw [df _ _ _ nd,hrun]
 exact k v H' hR _ w' ⟨h1,h2.trans hs,ds,h3,h4,hsat⟩
theorem GO.genS {op:Op} {H':List HP} (nd:t9 op=true)
  (hr:∀ a w Y,At c.N L a→sat (H++Y) w→∃ w',(execOp a.eval ⟨none,op,t,p,e,none⟩).run P w=.ok .skip w'∧Same w w'∧sat (H'++Y) w')
  (k:GO P c A rest K L H'):GO P c A (⟨none,op,t,p,e,none⟩::rest) K L H:=by
 rintro a w ⟨h1,h2,ds,h3,h4,h5⟩
 obtain ⟨w',hrun,hs,hsat⟩:=hr a w _ h1 h5
 simp only [cQ,Region.wanted,if_true]
 rw [df _ _ _ nd,hrun]
 exact k _ w' ⟨h1,h2.trans hs,ds,h3,h4,hsat⟩
theorem GO.val {d:Nat} {op:Op} {v:Value} (hN:Nat.blt d c.N=true) (nd:t9 op=true)
  (hr:∀ a w Y,At c.N L a→sat (H++Y) w→(execOp a.eval ⟨some d,op,t,p,e,none⟩).run P w=.ok (.value v) w)
  (k:GO P c A rest K ((d,v)::L) H):GO P c A (⟨some d,op,t,p,e,none⟩::rest) K L H:=
 GO.gen hN nd (fun u H'=>u=v∧H'=H) (fun a w Y h s=>⟨v,w,H,hr a w Y h s,Same.refl w,⟨rfl,rfl⟩,s⟩) (by rintro _ _ ⟨rfl,rfl⟩;exact k)
def lT (A:Array Oper) (j:Nat):Option Nat:=(A[j]?).bind (·.dst)
theorem nQ {a:Act} {j s:Nat} {b:Bool} (h:At c.N L a) (hj:lT A j=some s) (hl:aR L s=some (.bool b)):yielded A a.tmps j=some b:=by
 unfold lT at hj
 simp [yielded,hj,h.2 s _ hl]
theorem GO.gT {d:Option Nat} {op:Op} {j s:Nat} {want b:Bool} (hj:lT A j=some s) (hl:aR L s=some (.bool b)) (hb:b=want)
  (k:GO P c A (⟨d,op,t,p,e,none⟩::rest) K L H):GO P c A (⟨d,op,t,p,e,some (j,want)⟩::rest) K L H:=by
 intro a w h
 have:=k a w h
 simp only [cQ,Region.wanted,if_true] at this
 simp only [cQ,Region.wanted,nQ h.at_ hj hl,hb,beq_self_eq_true,if_true]
 exact this
theorem GO.gF {d:Nat} {op:Op} {j s:Nat} {want b:Bool} (hN:Nat.blt d c.N=true) (hj:lT A j=some s) (hl:aR L s=some (.bool b)) (hb:b=!want)
  (k:GO P c A rest K ((d,undef)::L) H):GO P c A (⟨some d,op,t,p,e,some (j,want)⟩::rest) K L H:=by
 rintro a w h
 have hw:(some b == some want)=false:=by rw [hb];cases want <;> rfl
 simp only [cQ,Region.wanted,nQ h.at_ hj hl,hw,Bool.false_eq_true,if_false]
 obtain ⟨h1,h2,h3⟩:=h
 exact k _ w ⟨h1.put hN,h2,h3⟩
theorem w5 {s:Nat} {v:Value} (hl:aR L s=some v):SubE ((s,v)::L) L:=SubE.c hl rfl SubE.r
theorem GO.split {os:List Oper} (s:Nat) {b:Bool} (hl:aR L s=some (.bool b)) (kt:b=true→GO P c A os K ((s,.bool true)::L) H) (kf:b=false→GO P c A os K ((s,.bool false)::L) H):GO P c A os K L H:=by
 cases b with
 | true=>exact GO.sub (w5 hl) Sb.r (kt rfl)
 | false=>exact GO.sub (w5 hl) Sb.r (kf rfl)
theorem GO.splitD {os:List Oper} (s:Nat) {q:Prop} [dq:Decidable q] (hl:aR L s=some (.bool (decide q))) (kt:q→GO P c A os K ((s,.bool true)::L) H) (kf:¬ q→GO P c A os K ((s,.bool false)::L) H):GO P c A os K L H:=
 GO.split s hl (fun h=>kt (of_decide_eq_true h)) (fun h=>kf (of_decide_eq_false h))
theorem GO.move {d:Nat} {x:Operand} {v:Value} (hN:Nat.blt d c.N=true) (hx:evl L x=some v) (k:GO P c A rest K ((d,v)::L) H):GO P c A (⟨some d,.move x,t,p,e,none⟩::rest) K L H:=
 GO.val hN rfl (fun a w Y h _=>by simp [execOp,h.eval hx]) k
theorem GO.assign {d:Nat} {x:Operand} {v:Value} (hN:Nat.blt d c.N=true) (hx:evl L x=some v) (k:GO P c A rest K ((d,v)::L) H):GO P c A (⟨some d,.assign x,t,p,e,none⟩::rest) K L H:=
 GO.val hN rfl (fun a w Y h _=>by simp [execOp,h.eval hx]) k
theorem GO.pickT {d:Nat} {x y z:Operand} {v:Value} (hN:Nat.blt d c.N=true) (hx:evl L x=some (.bool true)) (hy:evl L y=some v) (k:GO P c A rest K ((d,v)::L) H):GO P c A (⟨some d,.pick x y z,t,p,e,none⟩::rest) K L H:=
 GO.val hN rfl (fun a w Y h _=>by simp [execOp,h.eval hx,h.eval hy,asBool]) k
theorem GO.pickF {d:Nat} {x y z:Operand} {v:Value} (hN:Nat.blt d c.N=true) (hx:evl L x=some (.bool false)) (hz:evl L z=some v) (k:GO P c A rest K ((d,v)::L) H):GO P c A (⟨some d,.pick x y z,t,p,e,none⟩::rest) K L H:=
 GO.val hN rfl (fun a w Y h _=>by simp [execOp,h.eval hx,h.eval hz,asBool]) k
def yP:List Value→Nat→Option Value
 | [],_=>none
 | v::_,0=>some v
 | _::l,i+1=>yP l i
theorem t5:∀ (l:List Value) (i:Nat),yP l i=l[i]?
 | [],i=>by simp [yP]
 | v::l,0=>by simp [yP]
 | v::l,i+1=>by simp [yP,t5 l i]
theorem GO.extract {d i:Nat} {x:Operand} {vs:List Value} {v:Value} (hN:Nat.blt d c.N=true) (hx:evl L x=some (.tuple vs.toArray)) (hv:yP vs i=some v) (k:GO P c A rest K ((d,v)::L) H):GO P c A (⟨some d,.extract x i,t,p,e,none⟩::rest) K L H:=
 GO.val hN rfl (fun a w Y h _=>by rw [t5] at hv;simp [execOp,h.eval hx,Instr.extract,hv]) k
theorem GO.not {d:Nat} {x:Operand} {b:Bool} {ty:TypeId} (hN:Nat.blt d c.N=true) (hx:evl L x=some (.bool b)) (k:GO P c A rest K ((d,.bool (!b))::L) H):GO P c A (⟨some d,.unOp .not ty x,t,p,e,none⟩::rest) K L H:=
 GO.val hN rfl (fun a w Y h _=>by simp [execOp,h.eval hx,Op.unary]) k
theorem fQ (op:BinOp) (ty:TypeId) (x y:Operand) (k k':IntKind) (a b:Int) (w:World):(eqGuard op ty x y (.int k a) (.int k' b)).run P w=.ok () w:=by
 unfold eqGuard;split <;> rfl
def mN (op:BinOp) (k:IntKind) (a b:Int):Option Value:=
 match op with
 | .add=>some (.int k (k.wrap (a+b)))
 | .sub=>some (.int k (k.wrap (a - b)))
 | .mul=>some (.int k (k.wrap (a * b)))
 | .quo=>if b=0 then none else some (.int k (k.wrap (a.tdiv b)))
 | .rem=>if b=0 then none else some (.int k (a.tmod b))
 | .and=>some (.int k (k.wrap (BitVec.ofInt k.bits a &&& BitVec.ofInt k.bits b).toNat))
 | .or=>some (.int k (k.wrap (BitVec.ofInt k.bits a ||| BitVec.ofInt k.bits b).toNat))
 | .xor=>some (.int k (k.wrap (BitVec.ofInt k.bits a ^^^ BitVec.ofInt k.bits b).toNat))
 | .andNot=>some (.int k (k.wrap (BitVec.ofInt k.bits a &&& ~~~BitVec.ofInt k.bits b).toNat))
 | .eql=>some (.bool (decide (a=b)))
 | .neq=>some (.bool (decide (a≠b)))
 | .lss=>some (.bool (decide (a < b)))
 | .leq=>some (.bool (decide (a≤b)))
 | .gtr=>some (.bool (decide (b < a)))
 | .geq=>some (.bool (decide (b≤a)))
 | _=>none
theorem AG {op:BinOp} {ty:TypeId} {k:IntKind} {a b:Int} {v:Value} (h:mN op k a b=some v) (w:World):(binOp op ty (.int k a) (.int k b)).run P w=.ok v w:=by
 cases op <;> simp only [mN] at h
 case quo=>split at h <;> simp_all [binOp,Op.intDiv]
 case rem=>split at h <;> simp_all [binOp,Op.intDiv]
 all_goals first | (cases h;done) | (simp only [Option.some.injEq] at h;subst h;simp [binOp,Op.intArith,Op.intBits,Op.intCmp];done) | (simp only [Option.some.injEq] at h;subst h;simp only [binOp,Op.intCmp];first | rfl | (simp [bne];rfl) | (simp;congr;done))
theorem GO.bin {d:Nat} {op:BinOp} {x y:Operand} {k:IntKind} {m n:Int} {v:Value} {ty ty':TypeId} (hN:Nat.blt d c.N=true) (hx:evl L x=some (.int k m)) (hy:evl L y=some (.int k n)) (hv:mN op k m n=some v)
  (kk:GO P c A rest K ((d,v)::L) H):GO P c A (⟨some d,.binOp op ty x y ty',t,p,e,none⟩::rest) K L H:=
 GO.val hN rfl (fun a w Y h _=>by
  simp only [execOp,h.eval hx,h.eval hy]
  simp [Sem.run_bind,fQ,AG hv,Result.andThen]) kk
end rules
end
section
class OfU (m:Int) (x:outParam (BitVec 64)):Prop where out:m=(x.toNat:Int)
instance (x:BitVec 64):OfU (x.toNat:Int) x:=⟨rfl⟩
instance:OfU 1 1#64:=⟨rfl⟩
abbrev u64 (x:BitVec 64):Value:=.int .u64 (x.toNat:Int)
abbrev i64 (n:Int):Value:=.int .i64 n
theorem nR (n:Int):IntKind.u64.wrap n=n % 18446744073709551616:=by
 simp [IntKind.wrap,IntKind.bits,IntKind.signed]
theorem sD (x:BitVec 64):IntKind.u64.wrap (x.toNat:Int)=(x.toNat:Int):=by
 rw [nR];have:=x.isLt;omega
theorem rE (x:BitVec 64):BitVec.ofInt 64 (x.toNat:Int)=x:=by simp
section rules
variable {P:Program} {c:Cx} {A:Array Oper} {rest:List Oper} {K:aY} {L:Env} {H:List HP} {t:TypeId} {p:String} {e:Array Edge}
section
variable {d:Nat} {x y:Operand} {m n:Int} {ty ty':TypeId} (hN:Nat.blt d c.N=true)
include hN
theorem GO.addi (hx:evl L x=some (.int .i64 m)) (hy:evl L y=some (.int .i64 n)) (h:-9223372036854775808≤m+n∧m+n≤9223372036854775807)
  (k:GO P c A rest K ((d,.int .i64 (m+n))::L) H):GO P c A (⟨some d,.binOp .add ty x y ty',t,p,e,none⟩::rest) K L H:=
 GO.bin hN hx hy (by simp only [mN];rw [IntWalk.i64_in _ h]) k
theorem GO.subi (hx:evl L x=some (.int .i64 m)) (hy:evl L y=some (.int .i64 n)) (h:-9223372036854775808≤m - n∧m - n≤9223372036854775807)
  (k:GO P c A rest K ((d,.int .i64 (m - n))::L) H):GO P c A (⟨some d,.binOp .sub ty x y ty',t,p,e,none⟩::rest) K L H:=
 GO.bin hN hx hy (by simp only [mN];rw [IntWalk.i64_in _ h]) k
theorem GO.muli (hx:evl L x=some (.int .i64 m)) (hy:evl L y=some (.int .i64 n)) (h:-9223372036854775808≤m * n∧m * n≤9223372036854775807)
  (k:GO P c A rest K ((d,.int .i64 (m * n))::L) H):GO P c A (⟨some d,.binOp .mul ty x y ty',t,p,e,none⟩::rest) K L H:=
 GO.bin hN hx hy (by simp only [mN];rw [IntWalk.i64_in _ h]) k
theorem GO.quoi (hx:evl L x=some (.int .i64 m)) (hy:evl L y=some (.int .i64 n)) (h:0≤m∧m≤9223372036854775807∧1≤n)
  (k:GO P c A rest K ((d,.int .i64 (m / n))::L) H):GO P c A (⟨some d,.binOp .quo ty x y ty',t,p,e,none⟩::rest) K L H:=
 GO.bin hN hx hy (by simp only [mN];rw [if_neg (by omega),IntWalk.i64_quo _ _ h]) k
theorem GO.remi (hx:evl L x=some (.int .i64 m)) (hy:evl L y=some (.int .i64 n)) (h:0≤m∧1≤n)
  (k:GO P c A rest K ((d,.int .i64 (m % n))::L) H):GO P c A (⟨some d,.binOp .rem ty x y ty',t,p,e,none⟩::rest) K L H:=
 GO.bin hN hx hy (by simp only [mN];rw [if_neg (by omega),Int.tmod_eq_emod_of_nonneg h.1]) k
variable {a b:BitVec 64}
theorem GO.andu [ha:OfU m a] [hb:OfU n b] (hx:evl L x=some (.int .u64 m)) (hy:evl L y=some (.int .u64 n))
  (k:GO P c A rest K ((d,u64 (a &&& b))::L) H):GO P c A (⟨some d,.binOp .and ty x y ty',t,p,e,none⟩::rest) K L H:=
 GO.bin hN hx hy (by rw [ha.out,hb.out];simp only [mN,IntKind.bits];rw [rE,rE];exact congrArg (fun z=>some (Value.int .u64 z)) (sD _)) k
theorem GO.addu [ha:OfU m a] [hb:OfU n b] (hx:evl L x=some (.int .u64 m)) (hy:evl L y=some (.int .u64 n))
  (k:GO P c A rest K ((d,u64 (a+b))::L) H):GO P c A (⟨some d,.binOp .add ty x y ty',t,p,e,none⟩::rest) K L H:=
 GO.bin hN hx hy (by rw [ha.out,hb.out];simp only [mN];refine congrArg (fun z=>some (Value.int .u64 z)) ?_;rw [nR,BitVec.toNat_add];omega) k
theorem GO.equ [ha:OfU m a] [hb:OfU n b] (hx:evl L x=some (.int .u64 m)) (hy:evl L y=some (.int .u64 n))
  (k:GO P c A rest K ((d,.bool (decide (a=b)))::L) H):GO P c A (⟨some d,.binOp .eql ty x y ty',t,p,e,none⟩::rest) K L H:=
 GO.bin hN hx hy (by
  rw [ha.out,hb.out];simp only [mN]
  have:((a.toNat:Int)=(b.toNat:Int))↔a=b:=⟨fun h=>BitVec.eq_of_toNat_eq (by omega),fun h=>by rw [h]⟩
  simp only [this]) k
theorem GO.eqi {kk:IntKind} (hx:evl L x=some (.int kk m)) (hy:evl L y=some (.int kk n))
  (k:GO P c A rest K ((d,.bool (decide (m=n)))::L) H):GO P c A (⟨some d,.binOp .eql ty x y ty',t,p,e,none⟩::rest) K L H:=
 GO.bin hN hx hy rfl k
theorem GO.nei {kk:IntKind} (hx:evl L x=some (.int kk m)) (hy:evl L y=some (.int kk n))
  (k:GO P c A rest K ((d,.bool (decide (m≠n)))::L) H):GO P c A (⟨some d,.binOp .neq ty x y ty',t,p,e,none⟩::rest) K L H:=
 GO.bin hN hx hy rfl k
theorem GO.lti {kk:IntKind} (hx:evl L x=some (.int kk m)) (hy:evl L y=some (.int kk n))
  (k:GO P c A rest K ((d,.bool (decide (m < n)))::L) H):GO P c A (⟨some d,.binOp .lss ty x y ty',t,p,e,none⟩::rest) K L H:=
 GO.bin hN hx hy rfl k
theorem GO.lei {kk:IntKind} (hx:evl L x=some (.int kk m)) (hy:evl L y=some (.int kk n))
  (k:GO P c A rest K ((d,.bool (decide (m≤n)))::L) H):GO P c A (⟨some d,.binOp .leq ty x y ty',t,p,e,none⟩::rest) K L H:=
 GO.bin hN hx hy rfl k
theorem GO.gti {kk:IntKind} (hx:evl L x=some (.int kk m)) (hy:evl L y=some (.int kk n))
  (k:GO P c A rest K ((d,.bool (decide (n < m)))::L) H):GO P c A (⟨some d,.binOp .gtr ty x y ty',t,p,e,none⟩::rest) K L H:=
 GO.bin hN hx hy rfl k
theorem GO.gei {kk:IntKind} (hx:evl L x=some (.int kk m)) (hy:evl L y=some (.int kk n))
  (k:GO P c A rest K ((d,.bool (decide (n≤m)))::L) H):GO P c A (⟨some d,.binOp .geq ty x y ty',t,p,e,none⟩::rest) K L H:=
 GO.bin hN hx hy rfl k
theorem GO.shlu [ha:OfU m a] {kk:IntKind} {j:Nat} (hx:evl L x=some (.int .u64 m)) (hy:evl L y=some (.int kk (j:Int)))
  (k:GO P c A rest K ((d,u64 (a <<< j))::L) H):GO P c A (⟨some d,.binOp .shl ty x y ty',t,p,e,none⟩::rest) K L H:=
 GO.val hN rfl (fun s w Y h _=>by
  simp only [execOp,h.eval hx,h.eval hy]
  have e1:(Op.shift .shl .u64 m kk (j:Int)).run P w=.ok (u64 (a <<< j)) w:=by
   rw [ha.out]
   simp only [Op.shift]
   rw [if_neg (by omega)]
   simp only [Int.toNat_natCast,IntKind.bits,Sem.run_pure]
   rw [nR]
   have:((a <<< j).toNat:Int)=(a.toNat:Int) * 2 ^ (min j 64) % 18446744073709551616:=by
    rw [BitVec.toNat_shiftLeft,Nat.shiftLeft_eq]
    by_cases hj:j≤64
    ·rw [Nat.min_eq_left hj,Int.natCast_emod,Int.natCast_mul,Int.natCast_pow];rfl
    ·rw [Nat.min_eq_right (by omega)]
     have h1:a.toNat * 2 ^ j % 2 ^ 64=0:=by
      apply Nat.mod_eq_zero_of_dvd
      exact Nat.dvd_trans (Nat.pow_dvd_pow 2 (by omega)) (Nat.dvd_mul_left _ _)
     have h2:(a.toNat:Int) * 2 ^ 64 % 18446744073709551616=0:=by omega
     rw [h1,h2];rfl
   exact congrArg (fun z=>Result.ok (Value.int .u64 z) w) this.symm
  simp [Sem.run_bind,fQ,binOp,e1,Result.andThen]) k
theorem GO.shru [ha:OfU m a] {kk:IntKind} {j:Nat} (hx:evl L x=some (.int .u64 m)) (hy:evl L y=some (.int kk (j:Int)))
  (k:GO P c A rest K ((d,u64 (a >>> j))::L) H):GO P c A (⟨some d,.binOp .shr ty x y ty',t,p,e,none⟩::rest) K L H:=
 GO.val hN rfl (fun s w Y h _=>by
  simp only [execOp,h.eval hx,h.eval hy]
  have e1:(Op.shift .shr .u64 m kk (j:Int)).run P w=.ok (u64 (a >>> j)) w:=by
   rw [ha.out]
   simp only [Op.shift]
   rw [if_neg (by omega)]
   simp only [Int.toNat_natCast,IntKind.bits,Sem.run_pure]
   have:((a >>> j).toNat:Int)=Int.fdiv (a.toNat:Int) (2 ^ (min j 64)):=by
    rw [BitVec.toNat_ushiftRight,Nat.shiftRight_eq_div_pow,Int.fdiv_eq_ediv_of_nonneg _ (by exact Int.le_of_lt (Int.pow_pos (by decide)))]
    by_cases hj:j≤64
    ·rw [Nat.min_eq_left hj,Int.natCast_ediv,Int.natCast_pow];rfl
    ·rw [Nat.min_eq_right (by omega)]
     have h1:a.toNat / 2 ^ j=0:=Nat.div_eq_of_lt (Nat.lt_of_lt_of_le a.isLt (Nat.pow_le_pow_right (by omega) (by omega)))
     have:=a.isLt
     have h2:(a.toNat:Int) / 2 ^ 64=0:=by omega
     rw [h1,h2];rfl
   exact congrArg (fun z=>Result.ok (Value.int .u64 z) w) this.symm
  simp [Sem.run_bind,fQ,binOp,e1,Result.andThen]) k
theorem GO.conv {ts td:TypeId} {kk kd:IntKind} {ds:TypeDesc} [hs:UL P ts ds] [hd:UL P td (.int kd)] (hx:evl L x=some (.int kk m)) (hi:kd.wrap m=m)
  (k:GO P c A rest K ((d,.int kd m)::L) H):GO P c A (⟨some d,.convert ts td x,t,p,e,none⟩::rest) K L H:=
 GO.val hN rfl (fun s w Y h _=>by
  simp only [execOp,h.eval hx,convert]
  simp [Sem.run_bind,run_underlying hs.out,run_underlying hd.out,Result.andThen,Conv.intToInt,hi]) k
end
end rules
end
section
theorem bJ {P:Program} {t:TypeId} {n:Nat} [h:SZ P t n] (w:World):(sizeOf t).run P w=.ok n w:=by
 have:=h.out
 cases hq:P.info? t with
 | none=>simp [hq] at this
 | some i=>simp [hq] at this;simp [sizeOf,typeInfo,hq,this]
theorem eY {P:Program} {t:TypeId} {d:TypeDesc} [h:UL P t d] (w:World):(isAgg t).run P w=.ok d.isRow w:=by
 unfold isAgg
 rw [Sem.run_bind,run_underlying h.out w]
 cases d <;> rfl
theorem mU {P:Program} {t:TypeId} {l:List Value} [h:ZC P t l] (w:World):∃ z,(zeroValue t).run P w=.ok z w∧z.cells=l.toArray:=by
 have h1:=h.out
 cases hq:P.info? t with
 | none=>simp [hq] at h1
 | some i=>
  simp [hq] at h1
  obtain ⟨z,h1,h2⟩:=h1
  exact ⟨z,by simp [zeroValue,typeInfo,hq,h1],by rw [← h2]⟩
theorem rh {P:Program} {b o:Nat} {l vs:List Value} {T:TypeId} {X:List HP} {w:World} (s:sat (pt b (row l T)::X) w) (ho:o+vs.length≤l.length) (h1:∀ v∈vs,v.oneCell'=true) :
  ∃ w',(storeCells ⟨b,o,none⟩ vs).run P w=.ok () w'∧Same w w'∧sat (pt b (row (l.take o++vs++l.drop (o+vs.length)) T)::X) w':=by
 have hb:=aT s
 have hr:=run_storeCells_at (P:=P) b o T vs 0 l.toArray w hb (by simpa using ho) h1
 refine ⟨_,hr,⟨rfl,rfl,rfl,by simp,Nat.le_refl _⟩,?_⟩
 refine bE s ?_ (fun k hk=>setRow_other _ _ _ _ hk)
 have:=setRow_heap w b l.toArray (l.toArray.toList.take (o+0)++vs++l.toArray.toList.drop (o+0+vs.length)).toArray T (0,0) hb
 simpa [row] using this
section rules
variable {P:Program} {c:Cx} {A:Array Oper} {rest:List Oper} {K:aY} {L:Env} {H:List HP} {t:TypeId} {p:String} {e:Array Edge}
variable {d:Nat} {x y:Operand} {ty:TypeId} {ds:TypeDesc} {b o n:Nat} {v:Value} {l vs:List Value} {T:TypeId} {F:List HP}
theorem GO.loadQ {q:HP} [hu:UL P ty ds] (hd:ds.isRow=false) (hN:Nat.blt d c.N=true) (hx:evl L x=some (.pointer (some ⟨b,o,none⟩))) (tk:Tk q H F) (rd:Rd q ⟨b,o,none⟩ v)
  (k:GO P c A rest K ((d,v)::L) H):GO P c A (⟨some d,.load ty x,t,p,e,none⟩::rest) K L H:=
 GO.val hN rfl (fun a w Y h s=>by
  have hc:=rd _ w (ai (List.Perm.append_right Y tk) s)
  simp only [execOp,h.eval hx,Instr.loadAt,Instr.sureAddr,loadVar]
  simp [Sem.run_bind,eY,hd,Result.andThen,run_load,hc]) k
theorem GO.load1 [hu:UL P ty ds] (hd:ds.isRow=false) (hN:Nat.blt d c.N=true) (hx:evl L x=some (.pointer (some ⟨b,o,none⟩))) (tk:Tk (pt b (row l T)) H F) (hl:l[o]?=some v)
  (k:GO P c A rest K ((d,v)::L) H):GO P c A (⟨some d,.load ty x,t,p,e,none⟩::rest) K L H:=
 GO.loadQ hd hN hx tk (Rd.row hl) k
theorem GO.loadM {q:HP} [hu:UL P ty ds] [hs:SZ P ty n] (hd:ds.isRow=true) (hN:Nat.blt d c.N=true) (hx:evl L x=some (.pointer (some ⟨b,o,none⟩))) (tk:Tk q H F)
  (hn:vs.length=n) (rd:∀ j u,vs[j]?=some u→Rd q ⟨b,o+j,none⟩ u)
  (k:GO P c A rest K ((d,.agg vs.toArray)::L) H):GO P c A (⟨some d,.load ty x,t,p,e,none⟩::rest) K L H:=
 GO.val hN rfl (fun a w Y h s=>by
  have s':=ai (List.Perm.append_right Y tk) s
  simp only [execOp,h.eval hx]
  rw [Sem.run_bind,run_loadAt_mid (P:=P) w b o ty vs ds (fun j u hj=>rd j u hj _ w s') hu.out hd (by rw [hs.out,hn])]
  rfl) k
theorem GO.loadW [hu:UL P ty ds] [hs:SZ P ty n] (hd:ds.isRow=true) (hN:Nat.blt d c.N=true) (hx:evl L x=some (.pointer (some ⟨b,0,none⟩))) (tk:Tk (pt b (row l T)) H F)
  (hn:l.length=n) (k:GO P c A rest K ((d,.agg l.toArray)::L) H):GO P c A (⟨some d,.load ty x,t,p,e,none⟩::rest) K L H:=
 GO.loadM hd hN hx tk hn (fun j u hj=>Rd.row (by simpa using hj)) k
theorem GO.storeG [hs:SZ P ty n] (hx:evl L x=some (.pointer (some ⟨b,o,none⟩))) (hy:evl L y=some v) (hv:v.cells=vs.toArray) (hn:vs.length=n) (tk:Tk (pt b (row l T)) H F)
  (ho:o+n≤l.length) (h1:∀ u∈vs,u.oneCell'=true)
  (k:GO P c A rest K L (pt b (row (l.take o++vs++l.drop (o+n)) T)::F)):GO P c A (⟨none,.store ty x y,t,p,e,none⟩::rest) K L H:=
 GO.genS rfl (fun a w Y h s=>by
  obtain ⟨w',hr,hs',s'⟩:=rh (P:=P) (ai (List.Perm.append_right Y tk) s) (by rw [hn];exact ho) h1
  refine ⟨w',?_,hs',by rw [hn] at s';exact s'⟩
  simp only [execOp,h.eval hx,h.eval hy,Instr.storeAt,Instr.sureAddr,storeVar]
  simp [Sem.run_bind,bJ,Result.andThen,hv,hn,hr]) k
theorem GO.store1 [hs:SZ P ty 1] (hx:evl L x=some (.pointer (some ⟨b,o,none⟩))) (hy:evl L y=some v) (h1:v.oneCell'=true) (tk:Tk (pt b (row l T)) H F) (ho:o < l.length)
  (k:GO P c A rest K L (pt b (row (l.set o v) T)::F)):GO P c A (⟨none,.store ty x y,t,p,e,none⟩::rest) K L H:=
 GO.storeG (n:=1) (vs:=[v]) hx hy (by cases v <;> first | rfl | (simp [Value.oneCell'] at h1)) rfl tk (by omega) (by simpa using h1) (by
  have:l.take o++[v]++l.drop (o+1)=l.set o v:=by rw [List.set_eq_take_append_cons_drop,if_pos ho];simp
  rw [this];exact k)
theorem GO.storeW [hs:SZ P ty n] (hx:evl L x=some (.pointer (some ⟨b,0,none⟩))) (hy:evl L y=some (.agg vs.toArray)) (tk:Tk (pt b (row l T)) H F) (hn:vs.length=n∧l.length=n)
  (h1:∀ u∈vs,u.oneCell'=true) (k:GO P c A rest K L (pt b (row vs T)::F)):GO P c A (⟨none,.store ty x y,t,p,e,none⟩::rest) K L H:=
 GO.storeG (vs:=vs) hx hy rfl hn.1 tk (by omega) h1 (by
  have:l.take 0++vs++l.drop (0+n)=vs:=by rw [List.drop_of_length_le (by omega)];simp
  rw [this];exact k)
theorem GO.newb {op:Op} {ob:Obj} (hN:Nat.blt d c.N=true) (nd:t9 op=true)
  (hr:∀ a w,At c.N L a→(execOp a.eval ⟨some d,op,t,p,e,none⟩).run P w=.ok (.value (.pointer (some ⟨w.heap.size,0,none⟩))) (w.alloc ob))
  (k:∀ b,GO P c A rest K ((d,.pointer (some ⟨b,0,none⟩))::L) (pt b ob::H)):GO P c A (⟨some d,op,t,p,e,none⟩::rest) K L H:=
 GO.gen hN nd (fun v H'=>∃ b,v=.pointer (some ⟨b,0,none⟩)∧H'=pt b ob::H)
  (fun a w Y h s=>⟨_,_,_,hr a w h,Same.alloc w _,⟨w.heap.size,rfl,rfl⟩,bh s ob⟩) (by rintro _ _ ⟨b,rfl,rfl⟩;exact k b)
theorem GO.alloc [hz:ZC P ty l] (hN:Nat.blt d c.N=true) (k:∀ b,GO P c A rest K ((d,.pointer (some ⟨b,0,none⟩))::L) (pt b (row l ty)::H)):GO P c A (⟨some d,.alloc ty,t,p,e,none⟩::rest) K L H:=
 GO.newb (ob:=row l ty) hN rfl (fun a w h=>by
  obtain ⟨z,hz1,hz2⟩:=mU (P:=P) (t:=ty) w
  simp only [execOp,Instr.alloc]
  simp [Sem.run_bind,hz1,Result.andThen,newVar,newRow,hz2,row]) k
theorem GO.box (hN:Nat.blt d c.N=true) (hx:evl L x=some v) (hv:v.cells=vs.toArray) (k:∀ b,GO P c A rest K ((d,.pointer (some ⟨b,0,none⟩))::L) (pt b (row vs ty)::H)):GO P c A (⟨some d,.box ty x,t,p,e,none⟩::rest) K L H:=
 GO.newb (ob:=row vs ty) hN rfl (fun a w h=>by
  simp only [execOp,Instr.box,h.eval hx]
  simp [Result.andThen,newVar,newRow,hv,row]) k
class FO (P:Program) (s:TypeId) (f:Nat) (off:outParam Nat):Prop where
 out:∃ fs fd,P.underlying s=some (.struct fs)∧fs[f]?=some fd∧fd.offset=off∧∃ n,(P.info? fd.type).map (·.size)=some (n+1)
theorem cL (b o n:Nat):(⟨b,o,none⟩:Addr).add n=⟨b,o+n,none⟩:=by unfold Addr.add;split <;> simp_all
theorem GO.fieldAddr {s:TypeId} {f off:Nat} [hf:FO P s f off] (hN:Nat.blt d c.N=true) (hx:evl L x=some (.pointer (some ⟨b,o,none⟩)))
  (k:GO P c A rest K ((d,.pointer (some ⟨b,o+off,none⟩))::L) H):GO P c A (⟨some d,.fieldAddr s x f,t,p,e,none⟩::rest) K L H:=
 GO.val hN rfl (fun a w Y h _=>by
  obtain ⟨fs,fd,h1,h2,h3,n,h4⟩:=hf.out
  haveI:SZ P fd.type (n+1):=⟨h4⟩
  simp only [execOp,h.eval hx,Instr.fieldAt,Instr.sureAddr,fieldPlace]
  simp [Sem.run_bind,run_underlying h1,Result.andThen,h2,bJ,h3,cL]) k
theorem GO.idxS {el len cap:Nat} {kk:IntKind} {i:Int} {j:Nat} [hu:UL P ty (.slice el)] [hs:SZ P el n] (hN:Nat.blt d c.N=true) (hx:evl L x=some (.slice (some ⟨b,o,none⟩) len cap)) (hy:evl L y=some (.int kk i))
  (hi:i=(j:Int)∧j < len) (k:GO P c A rest K ((d,.pointer (some ⟨b,o+j * n,none⟩))::L) H):GO P c A (⟨some d,.indexAddr ty x y,t,p,e,none⟩::rest) K L H:=
 GO.val hN rfl (fun a w Y h _=>by
  obtain ⟨rfl,hj⟩:=hi
  simp only [execOp,h.eval hx,h.eval hy,Instr.indexAt,asIntOf]
  simp [Sem.run_bind,run_underlying hu.out,Result.andThen,bJ,hj,cL]) k
theorem GO.lenS {el m cap:Nat} {ba:Option Addr} {at1:TypeId} [hu:UL P at1 (.slice el)] (hN:Nat.blt d c.N=true) (hx:evl L x=some (.slice ba m cap))
  (k:GO P c A rest K ((d,.int .i64 (m:Int))::L) H):GO P c A (⟨some d,.call ⟨.builtin .len,#[x],#[at1]⟩,t,p,e,none⟩::rest) K L H:=
 GO.val hN rfl (fun a w Y h _=>by
  simp only [execOp,resolve,invoke,builtin]
  simp [Sem.run_bind,Result.andThen,Builtin.len_,h.eval hx,run_underlying hu.out,goInt]) k
theorem uc {f:FuncId} [hc:Cal P f] {xs:Array Operand} {ats:Array TypeId} {dst:Option Nat} {a:Act} {w:World} :
  (execOp a.eval ⟨dst,.call ⟨.value (.func f),xs,ats⟩,t,p,e,none⟩).run P w=.ok (.enter f (xs.map a.eval)) w:=by
 simp only [execOp,resolve]
 have:a.eval (.func f)=.func (.func f) #[] #[]:=rfl
 simp [this,Deferred.ofValue,invoke,hc.out]
theorem dA {r:Option Nat} {P:Program} {f:FuncId} {args:Array Value} {w:World} {R:Ending→World→Prop} (h:CallsIn Fence.wide 0 P f args w R):CallsIn (fen r) 0 P f args w R:=by
 cases r with
 | none=>exact h
 | some l=>exact CallsIn.inRound l h
def Vals (L:Env):List Operand→List Value→Prop
 | [],[]=>True
 | x::xs,v::vs=>evl L x=some v∧Vals L xs vs
 | _,_=>False
theorem Vals.map {N:Nat} {a:Act} (h:At N L a):∀ {xs:List Operand} {vs:List Value},Vals L xs vs→xs.map a.eval=vs
 | [],[],_=>rfl
 | _::_,_::_,⟨h1,h2⟩=>by simp [h.eval h1,Vals.map h h2]
 | [],_::_,h=>h.elim
 | _::_,[],h=>h.elim
theorem GO.callG {dst:Option Nat} {f:FuncId} [hc:Cal P f] {xs:List Operand} {ats:Array TypeId} {Pre:List HP} {R:Value→List HP→Prop} (hN:(match dst with | some d=>Nat.blt d c.N | none=>true)=true)
  (hv:Vals L xs vs) (spec:Fn P f vs.toArray Pre R) (tk:Tks Pre H F)
  (k:∀ v Q,R v Q→GO P c A rest K (match dst with | some d=>(d,v)::L | none=>L) (Q++F)):GO P c A (⟨dst,.call ⟨.value (.func f),xs.toArray,ats⟩,t,p,e,none⟩::rest) K L H:=by
 rintro a w ⟨h1,h2,D,h3,h4,h5⟩
 simp only [cQ,Region.wanted,if_true]
 rw [df _ _ _ rfl,uc]
 refine ⟨fun h=>by simp [fen,Fence.wide] at h,dA ?_⟩
 have hargs:xs.toArray.map a.eval=vs.toArray:=by simp [Vals.map h1 hv]
 rw [hargs]
 have s1:sat (Pre++(F++(c.X++D.map cA))) w:=by
  rw [← List.append_assoc];exact ai (List.Perm.append_right _ tk) h5
 refine (spec _ w s1).mono ?_
 rintro en w' ⟨v,Q,rfl,hs,hR,hq⟩
 refine k v Q hR _ w' ⟨?_,h2.trans hs,D,?_,h4,?_⟩
 ·cases dst with
  | none=>simpa [Act.put] using h1
  | some d=>exact h1.put hN
 ·cases dst <;> simpa [Act.put] using h3
 ·rw [List.append_assoc];exact hq
theorem GO.call1 {f:FuncId} [hc:Cal P f] {x1:Operand} {v1:Value} {ats:Array TypeId} {Pre:List HP} {R:Value→List HP→Prop} (hN:Nat.blt d c.N=true) (h1:evl L x1=some v1) (spec:Fn P f #[v1] Pre R) (tk:Tks Pre H F)
  (k:∀ v Q,R v Q→GO P c A rest K ((d,v)::L) (Q++F)):GO P c A (⟨some d,.call ⟨.value (.func f),#[x1],ats⟩,t,p,e,none⟩::rest) K L H:=
 GO.callG (dst:=some d) (xs:=[x1]) (vs:=[v1]) hN ⟨h1,trivial⟩ spec tk k
theorem GO.call2 {f:FuncId} [hc:Cal P f] {x1 x2:Operand} {v1 v2:Value} {ats:Array TypeId} {Pre:List HP} {R:Value→List HP→Prop} (hN:Nat.blt d c.N=true) (h1:evl L x1=some v1) (h2:evl L x2=some v2) (spec:Fn P f #[v1,v2] Pre R) (tk:Tks Pre H F)
  (k:∀ v Q,R v Q→GO P c A rest K ((d,v)::L) (Q++F)):GO P c A (⟨some d,.call ⟨.value (.func f),#[x1,x2],ats⟩,t,p,e,none⟩::rest) K L H:=
 GO.callG (dst:=some d) (xs:=[x1,x2]) (vs:=[v1,v2]) hN ⟨h1,h2,trivial⟩ spec tk k
theorem GO.call3 {f:FuncId} [hc:Cal P f] {x1 x2 x3:Operand} {v1 v2 v3:Value} {ats:Array TypeId} {Pre:List HP} {R:Value→List HP→Prop} (hN:Nat.blt d c.N=true) (h1:evl L x1=some v1) (h2:evl L x2=some v2) (h3:evl L x3=some v3) (spec:Fn P f #[v1,v2,v3] Pre R) (tk:Tks Pre H F)
  (k:∀ v Q,R v Q→GO P c A rest K ((d,v)::L) (Q++F)):GO P c A (⟨some d,.call ⟨.value (.func f),#[x1,x2,x3],ats⟩,t,p,e,none⟩::rest) K L H:=
 GO.callG (dst:=some d) (xs:=[x1,x2,x3]) (vs:=[v1,v2,v3]) hN ⟨h1,h2,h3,trivial⟩ spec tk k
end rules
def CG:List Value→Value
 | [v]=>v
 | vs=>.tuple vs.toArray
def mm (tmps:Array Value):ResultVar→Sem Value
 | .tmp t=>pure (tmps.getD t undef)
 | .cell a t=>do loadVar t (← asAddr (tmps.getD a undef))
def sO (P:Program) (w:World) (tmps:Array Value):List ResultVar→List Value→Prop
 | [],[]=>True
 | r::rs,v::vs=>(mm tmps r).run P w=.ok v w∧sO P w tmps rs vs
 | _,_=>False
theorem uS {P:Program} {w:World} {tmps:Array Value}:∀ {rs:List ResultVar} {vs:List Value},sO P w tmps rs vs→(rs.mapM (mm tmps)).run P w=.ok vs w
 | [],[],_=>by simp
 | r::rs,v::vs,⟨h1,h2⟩=>by
  have:=uS h2
  simp only [List.mapM_cons,Sem.run_bind,h1,Result.andThen_ok,this,Sem.run_pure]
 | [],_::_,h=>h.elim
 | _::_,[],h=>h.elim
theorem ug {P:Program} {fn:Func} {w:World} {tmps:Array Value} {rs:List ResultVar} {vs:List Value} (hr:fn.results=rs.toArray) (h:sO P w tmps rs vs) :
  (results fn tmps).run P w=.ok (CG vs) w:=by
 have e:results fn tmps=(do let vs ← fn.results.mapM (mm tmps);pure (if h:vs.size=1 then vs[0] else .tuple vs)):=by
  unfold results
  congr 1
 rw [e,hr,Sem.run_bind]
 have:(rs.toArray.mapM (mm tmps)).run P w=.ok vs.toArray w:=by
  rw [List.mapM_toArray]
  simp [uS h]
 rw [this]
 match vs with
 | []=>rfl
 | [v]=>rfl
 | a::b::l=>rfl
section
variable {P:Program} {L:Env} {H F:List HP}
def RV (P:Program) (L:Env) (H:List HP):ResultVar→Value→Prop
 | .tmp t,v=>aR L t=some v
 | .cell a T,v=>∃ b o,aR L a=some (.pointer (some ⟨b,o,none⟩))∧∀ Y w,sat (H++Y) w→(loadVar T ⟨b,o,none⟩).run P w=.ok v w
theorem RV.t {t:Nat} {v:Value} (h:aR L t=some v):RV P L H (.tmp t) v:=h
theorem RV.cW {a T n E b:Nat} {d:TypeDesc} {l:List Value} [hu:UL P T d] [hs:SZ P T n] (hd:d.isRow=true) (hx:aR L a=some (.pointer (some ⟨b,0,none⟩))) (tk:Tk (pt b (row l E)) H F) (hn:l.length=n):RV P L H (.cell a T) (.agg l.toArray):=by
 refine ⟨b,0,hx,fun Y w s=>?_⟩
 exact run_loadVar_mid (P:=P) w b 0 T l d (fun j u hj=>Rd.row (by simpa using hj) _ w (ai (List.Perm.append_right Y tk) s)) hu.out hd (by rw [hs.out,hn])
theorem RV.c1 {a T E b:Nat} {d:TypeDesc} {l:List Value} {v:Value} [hu:UL P T d] (hd:d.isRow=false) (hx:aR L a=some (.pointer (some ⟨b,0,none⟩))) (tk:Tk (pt b (row l E)) H F) (hl:l[0]?=some v):RV P L H (.cell a T) v:=by
 refine ⟨b,0,hx,fun Y w s=>?_⟩
 have hc:=(Rd.row hl:Rd (pt b (row l E)) ⟨b,0,none⟩ v) _ w (ai (List.Perm.append_right Y tk) s)
 simp [loadVar,Sem.run_bind,eY,hd,Result.andThen,run_load,hc]
def RVs (P:Program) (L:Env) (H:List HP):List ResultVar→List Value→Prop
 | [],[]=>True
 | r::rs,v::vs=>RV P L H r v∧RVs P L H rs vs
 | _,_=>False
theorem RVs.run {N:Nat} {a:Act} {w:World} {Y:List HP} (ha:At N L a) (s:sat (H++Y) w):∀ {rs:List ResultVar} {vs:List Value},RVs P L H rs vs→sO P w a.tmps rs vs
 | [],[],_=>trivial
 | r::rs,v::vs,⟨h1,h2⟩=>by
  refine ⟨?_,RVs.run ha s h2⟩
  cases r with
  | tmp t=>
   have:=ha.2 t v h1
   simp [mm,Array.getD_eq_getD_getElem?,this]
  | cell c T=>
   obtain ⟨b,o,hx,hl⟩:=h1
   have:=ha.2 c _ hx
   simp [mm,Array.getD_eq_getD_getElem?,this,asAddr,hl Y w s]
 | [],_::_,h=>h.elim
 | _::_,[],h=>h.elim
theorem RVs.res {N:Nat} {fn:Func} {rs:List ResultVar} {vs:List Value} (hr:fn.results=rs.toArray) (h:RVs P L H rs vs):Res P N fn L H (CG vs):=
 fun _ _ _ ha s=>ug hr (h.run ha s)
variable {fn:Func} {R:Value→List HP→Prop} {Q:List HP} {q1 q2 q3 q4:ResultVar} {v1 v2 v3 v4:Value}
theorem KF.n0 (hr:fn.results=#[]) (h:R (.tuple #[]) Q) (sb:Sb (Q++F) H):KF P fn R F .normal L H:=⟨_,Q,RVs.res (rs:=[]) (vs:=[]) hr trivial,h,sb⟩
theorem KF.r1 (hr:fn.results=#[q1]) (h1:RV P L H q1 v1) (h:R v1 Q) (sb:Sb (Q++F) H):KF P fn R F .ret L H:=⟨_,Q,RVs.res (rs:=[q1]) (vs:=[v1]) hr ⟨h1,trivial⟩,h,sb⟩
theorem KF.r2 (hr:fn.results=#[q1,q2]) (h1:RV P L H q1 v1) (h2:RV P L H q2 v2) (h:R (.tuple #[v1,v2]) Q) (sb:Sb (Q++F) H):KF P fn R F .ret L H:=⟨_,Q,RVs.res (rs:=[q1,q2]) (vs:=[v1,v2]) hr ⟨h1,h2,trivial⟩,h,sb⟩
end
end
section
def Act.putD (a:Act) (D:List Deferred) (dst:Option Nat) (v:Value):Act:=({ a with defers:=D++a.defers }:Act).put dst v
theorem dI {a:Act} {D:List Deferred} {d:Nat} {v:Value} (h:d < a.tmps.size):(Act.putD a D (some d) v).tmps[d]?=some v:=by
 simp only [Act.putD,Act.put];rw [Array.getElem?_setIfInBounds_self_of_lt h]
theorem ko {a:Act} {D:List Deferred} {dst:Option Nat} {s:Nat} {v:Value} (h:∀ d,dst=some d→d≠s):(Act.putD a D dst v).tmps[s]?=a.tmps[s]?:=by
 cases dst with
 | none=>rfl
 | some d=>simp only [Act.putD,Act.put];rw [Array.getElem?_setIfInBounds_ne (h d rfl)]
def jo (F:Fence) (P:Program) (A:Array Oper) (o:Oper) (a:Act) (w:World) (Φ:List Deferred→Value→World→Prop):Prop:=
 if Region.wanted o (yielded A a.tmps) then
  match (o.semAt F.round a.eval).run P w with
  | .ok (.value v) w'=>Φ [] v w'
  | .ok .skip w'=>Φ [] undef w'
  | .ok (.defer d) w'=>Φ [d] undef w'
  | .ok (.enter f args) w'=>(F.depth.isSome=true→1≤0)∧CallsIn F (0 - 1) P f args w' fun | .returned v,w''=>Φ [] v w'' | _,_=>False
  | .ok (.row r args) w'=>(F.depth.isSome=true→1≤0)∧RowsIn F (0 - 1) P r args w' fun v w''=>Φ [] v w''
  | .ok (.round l f t x y) w'=>(F.depth.isSome=true→1≤0)∧RoundIn F (0 - 1) P l f t x y w' fun | .returned v,w''=>Φ [] v w'' | _,_=>False
  | _=>False
 else Φ [] undef w
theorem jF {F:Fence} {P:Program} {A:Array Oper} {Q:Exit→Act→World→Prop} {o:Oper} {a:Act} {w:World} (hn:∀ e a w,Q e a w→e=.normal)
  (h:cQ F P A Q [o] a w):jo F P A o a w (fun D v w'=>Q .normal (Act.putD a D o.dst v) w'):=by
 simp only [cQ] at h
 unfold jo
 split
 ·rename_i hw
  rw [if_pos hw] at h
  cases hr:(o.semAt F.round a.eval).run P w with
  | halt x w'=>
   rw [hr] at h
   cases x with
   | panic v=>have:=hn _ _ _ h;cases this
   | _=>exact h.elim
  | ok x w'=>
   rw [hr] at h
   have kill:∀ {e:Ending} {w'':World},(match e,w'' with | .returned v,w''=>Q .normal (a.put o.dst v) w'' | .panicked chain,w''=>Q (.panic chain) a w'' | .outgrown,_=>LetsOut Q)→(match e,w'' with | .returned v,w''=>Q .normal (a.put o.dst v) w'' | _,_=>False):=by
    intro e w'' he
    cases e with
    | returned v=>exact he
    | panicked chain=>have:=hn _ _ _ he;cases this
    | outgrown=>obtain ⟨x,y,hq⟩:=he;have:=hn _ _ _ hq;cases this
   cases x with
   | value v=>exact h
   | skip=>exact h
   | defer d=>exact h
   | enter f args=>exact ⟨h.1,h.2.mono fun e w'' he=>kill he⟩
   | row r args=>exact h
   | round l f t x y=>exact ⟨h.1,h.2.mono fun e w'' he=>kill he⟩
   | _=>exact h.elim
 ·rename_i hw
  rw [if_neg hw] at h
  exact h
theorem gq {F:Fence} {P:Program} {A:Array Oper} {o:Oper} {a:Act} {w:World} {Φ Ψ:List Deferred→Value→World→Prop} (h:jo F P A o a w Φ) (k:∀ D v w',Φ D v w'→Ψ D v w'):jo F P A o a w Ψ:=by
 unfold jo at h ⊢
 split
 ·rename_i hw
  rw [if_pos hw] at h
  cases hr:(o.semAt F.round a.eval).run P w with
  | halt x w'=>rw [hr] at h;exact h.elim
  | ok x w'=>
   rw [hr] at h
   cases x with
   | value v=>exact k _ _ _ h
   | skip=>exact k _ _ _ h
   | defer d=>exact k _ _ _ h
   | enter f args=>exact ⟨h.1,h.2.mono fun e w'' he=>by cases e with | returned v=>exact k _ _ _ he | _=>exact he.elim⟩
   | row r args=>exact ⟨h.1,h.2.mono fun v w'' he=>k _ _ _ he⟩
   | round l f t x y=>exact ⟨h.1,h.2.mono fun e w'' he=>by cases e with | returned v=>exact k _ _ _ he | _=>exact he.elim⟩
   | _=>exact h.elim
 ·rename_i hw
  rw [if_neg hw] at h
  exact k _ _ _ h
theorem iv {F:Fence} {P:Program} {A:Array Oper} {Q:Exit→Act→World→Prop} {o:Oper} {i:Nat} {l:List Nat} {a:Act} {w:World} (hF:∀ f,F.fn f) (ho:A[i]?=some o)
  (h:jo F P A o a w (fun D v w'=>wpOpsIn F 0 P A Q l (Act.putD a D o.dst v) w')):wpOpsIn F 0 P A Q (i::l) a w:=by
 simp only [wpOpsIn,ho]
 unfold jo at h
 split
 ·rename_i hw
  rw [if_pos hw] at h
  refine ⟨fun f _=>hF f,?_⟩
  cases hr:(o.semAt F.round a.eval).run P w with
  | halt x w'=>rw [hr] at h;exact h.elim
  | ok x w'=>
   rw [hr] at h
   cases x with
   | value v=>exact h
   | skip=>exact h
   | defer d=>exact h
   | enter f args=>exact ⟨h.1,h.2.mono fun e w'' he=>by cases e with | returned v=>exact he | _=>exact he.elim⟩
   | row r args=>exact h
   | round l f t x y=>exact ⟨h.1,h.2.mono fun e w'' he=>by cases e with | returned v=>exact he | _=>exact he.elim⟩
   | _=>exact h.elim
 ·rename_i hw
  rw [if_neg hw] at h
  exact ⟨fun f _=>hF f,h⟩
theorem x8 {ρ ρ':Operand→Value} {c:Call} (h:∀ x∈c.operands.toList,ρ x=ρ' x) (t:TypeId):resolve ρ c t=resolve ρ' c t:=by
 have hargs:c.args.map ρ=c.args.map ρ':=by
  apply Array.ext'
  simp only [Array.toList_map]
  apply List.map_congr_left
  intro x hx
  exact h x (by unfold Call.operands;simp [hx])
 unfold resolve
 rw [hargs]
 cases hc:c.callee with
 | value f=>simp only [h f (by unfold Call.operands;simp [hc])]
 | invoke r m=>simp only [h r (by unfold Call.operands;simp [hc])]
 | builtin b=>rfl
def lA:Op→Bool
 | .move _ | .assign _ | .pick _ _ _ | .load _ _ | .binOp _ _ _ _ _ | .unOp _ _ _ | .convert _ _ _ | .extract _ _ | .fieldAddr _ _ _ | .field _ _ _ | .indexAddr _ _ _ | .index _ _ _ | .lookup _ _ _ _ | .call _ | .nilCheck _ | .slice _ _ _ _ _ | .makeInterface _ _ | .box _ _ | .alloc _ | .store _ _ _ | .entry _ | .build _ _ | .makeFunc _ _ _ | .buildSlice _ _ _ | .makeSlice _ _ _ | .mapUpdate _ _ _ _=>true
 | _=>false
theorem xB {op:Op} (h:lA op=true):t9 op=true:=by cases op <;> first | rfl | (simp [lA] at h)
theorem pF {ρ ρ':Operand→Value} {o:Oper} (hq:lA o.op=true) (h:∀ x∈o.op.operands.toList,ρ x=ρ' x):execOp ρ o=execOp ρ' o:=by
 obtain ⟨dst,op,t,p,e,g⟩:=o
 cases op <;> simp only [lA,Bool.false_eq_true] at hq <;> simp only [Op.operands] at h <;> unfold execOp <;> try (simp_all;done)
 case slice t x lo hi mx=>
  simp only [h x (by simp)]
  have e1:lo.map ρ=lo.map ρ':=by cases lo with | none=>rfl | some y=>simp [h y (by simp)]
  have e2:hi.map ρ=hi.map ρ':=by cases hi with | none=>rfl | some y=>simp [h y (by simp)]
  have e3:mx.map ρ=mx.map ρ':=by cases mx with | none=>rfl | some y=>simp [h y (by simp)]
  rw [e1,e2,e3]
 case build t ps=>
  have e1:ps.map (fun (i,x)=>(i,ρ x))=ps.map (fun (i,x)=>(i,ρ' x)):=by
   apply Array.ext'
   simp only [Array.toList_map]
   apply List.map_congr_left
   intro x hx
   have:=h x.2 (by simp;exact ⟨x.1,by simpa using hx⟩)
   simp [this]
  simp only [e1]
 case buildSlice t n ps=>
  have e1:ps.map (fun (i,x)=>(i,ρ x))=ps.map (fun (i,x)=>(i,ρ' x)):=by
   apply Array.ext'
   simp only [Array.toList_map]
   apply List.map_congr_left
   intro x hx
   have:=h x.2 (by simp;exact ⟨x.1,by simpa using hx⟩)
   simp [this]
  simp only [e1]
 case makeFunc f fs cs=>
  have e1:fs.map ρ=fs.map ρ':=by
   apply Array.ext'
   simp only [Array.toList_map]
   exact List.map_congr_left fun x hx=>h x (by simp;exact .inl (by simpa using hx))
  have e2:cs.map ρ=cs.map ρ':=by
   apply Array.ext'
   simp only [Array.toList_map]
   exact List.map_congr_left fun x hx=>h x (by simp;exact .inr (by simpa using hx))
  simp only [e1,e2]
 case call c=>simp only [x8 h]
def jE (o:Oper):List Nat:=o.op.operands.toList.filterMap fun | .tmp t=>some t | _=>none
def bnd (e:Edge):Bool:=match e.ground with | .textOnly _=>false | .gcOnly _=>false | _=>true
def sg (A:Array Oper) (j t:Nat):Bool:=match A[j]? with | some o=>(match o.dst with | some d=>Nat.beq d t | none=>false) | none=>false
def bit (R:List Nat) (i j:Nat):Bool:=Nat.testBit (R.getD i 0) j
def jV (R:List Nat) (o:Oper):Nat:=o.after.toList.foldr (fun e m=>bif bnd e then (Nat.shiftLeft 1 e.on) ||| ((R.getD e.on 0) ||| m) else m) 0
def qH (A:Array Oper):Nat→List Nat
 | 0=>[]
 | n+1=>(qH A n)++[match A[n]? with | some o=>jV (qH A n) o | none=>0]
def kJ (N q:Nat) (A:Array Oper) (R:List Nat) (i:Nat) (o:Oper):Bool:=
 Nat.beq ((R.getD i 0) ||| jV R o) (jV R o) &&
 (bif Nat.blt i q then
  lA o.op &&
  (match o.dst with | some d=>Nat.blt d N && (List.range q).all (fun j=>Nat.beq j i || !sg A j d) | none=>true) &&
  (jE o).all (fun t=>(List.range q).all fun j=>!sg A j t || ((bit R i j && Nat.blt j i) || (bit R j i && Nat.blt i j))) &&
  (match o.guard with | some (j,_)=>Nat.blt j q && bit R i j && Nat.blt j i | none=>true)
 else (List.range i).all (fun j=>bit R i j) && o.after.toList.all (fun e=>Nat.blt e.on i))
def eM (m:Region.Mode) (A:Array Oper) (B:Array Bool) (i:Nat):Bool:=!B.getD i true && ((A[i]?).map (·.after.all fun e=>!Region.binds m e || B.getD e.on false)).getD false
def lin (m:Region.Mode) (A:Array Oper):Nat→Nat→Array Bool→List Nat
 | 0,_,_=>[]
 | n+1,t,B=>
  let rs:=(List.range A.size).filter (eM m A B)
  match rs[t % rs.length]? with
  | some i=>i::lin m A n (t / rs.length) (B.setIfInBounds i true)
  | none=>[]
def mh (m:Region.Mode) (A:Array Oper):List Nat→Nat→Bool
 | [],s=>(List.range A.size).all fun i=>Nat.testBit s i
 | i::l,s=>(match A[i]? with | some o=>o.after.toList.all fun e=>!Region.binds m e || Nat.testBit s e.on | none=>false) && mh m A l (s ||| Nat.shiftLeft 1 i)
def lG (m:Region.Mode) (A:Array Oper):List Nat:=lin m A A.size 0 (Array.replicate A.size false)
def chk (N q:Nat) (A:Array Oper) (R:List Nat):Bool:=Nat.ble q A.size && (List.range A.size).all fun i=>match A[i]? with | some o=>kJ N q A R i o | none=>false
def jW (N q:Nat) (A:Array Oper):Bool:=chk N q A (qH A A.size) && (mh .any A (lG .any A) 0 && (mh .text A (lG .text A) 0 && mh .gc A (lG .gc A) 0))
theorem tc (m:Region.Mode) (A:Array Oper):∀ (n t:Nat) (B:Array Bool) (acc:List Nat),Region.linearise.go m A n t B acc=acc.reverse++lin m A n t B
 | 0,t,B,acc=>by simp [Region.linearise.go,lin]
 | n+1,t,B,acc=>by
  simp only [Region.linearise.go,lin]
  have e:(List.range A.size).filter (fun i=>!B.getD i true && ((A[i]?).map (·.after.all fun e=>!Region.binds m e || B.getD e.on false)).getD false)=(List.range A.size).filter (eM m A B):=rfl
  rw [e]
  cases h:((List.range A.size).filter (eM m A B))[t % ((List.range A.size).filter (eM m A B)).length]? with
  | none=>simp
  | some i=>simp only;rw [tc m A n];simp
theorem zT {m:Region.Mode} {e:Edge} (h:bnd e=true):Region.binds m e=true:=by
 obtain ⟨on,g⟩:=e
 cases g <;> simp_all [bnd,Region.binds]
theorem lV {B:Array Bool} {i:Nat} (h:i < B.size):B.getD i true=B.getD i false:=by
 rw [Array.getD_eq_getD_getElem?,Array.getD_eq_getD_getElem?];simp [h]
def lu (A:Array Oper) (R:List Nat) (B:Array Bool):Prop:=∀ i j,i < A.size→B.getD i true=true→bit R i j=true→B.getD j false=true
theorem tv {R:List Nat} {o:Oper} {j:Nat} (h:(jV R o).testBit j=true):∃ e∈o.after.toList,bnd e=true∧(e.on=j∨bit R e.on j=true):=by
 unfold jV at h
 generalize o.after.toList=l at h
 induction l with
 | nil=>simp at h
 | cons e l ih=>
  simp only [List.foldr_cons] at h
  cases hb:bnd e with
  | false=>
   simp only [hb,cond_false] at h
   obtain ⟨e',h1,h2⟩:=ih h
   exact ⟨e',by simp [h1],h2⟩
  | true=>
   simp only [hb,cond_true,Nat.testBit_or,Bool.or_eq_true] at h
   rcases h with h | h | h
   ·refine ⟨e,by simp,hb,.inl ?_⟩
    have:(1 <<< e.on).testBit j=true:=h
    rw [Nat.testBit_shiftLeft] at this
    simp only [Bool.and_eq_true,decide_eq_true_eq] at this
    obtain ⟨h1,h2⟩:=this
    have:j - e.on=0:=by
     cases hz:j - e.on with
     | zero=>rfl
     | succ n=>rw [hz] at h2;simp [Nat.testBit_succ] at h2
    omega
   ·exact ⟨e,by simp,hb,.inr h⟩
   ·obtain ⟨e',h1,h2⟩:=ih h
    exact ⟨e',by simp [h1],h2⟩
theorem Ap {x y j:Nat} (h:Nat.beq (x ||| y) y=true) (hx:x.testBit j=true):y.testBit j=true:=by
 have e:x ||| y=y:=Nat.eq_of_beq_eq_true h
 rw [← e,Nat.testBit_or,hx];rfl
theorem eR {N q:Nat} {m:Region.Mode} {A:Array Oper} {R:List Nat} {B:Array Bool} {i j:Nat} {o:Oper} (hc:eM m A B i=true) (ho:A[i]?=some o) (hok:kJ N q A R i o=true) (cl:lu A R B) (hs:B.size=A.size)
  (hj:bit R i j=true):B.getD j false=true:=by
 unfold eM at hc
 simp only [ho,Option.map_some,Option.getD_some,Bool.and_eq_true] at hc
 unfold kJ at hok
 simp only [Bool.and_eq_true] at hok
 obtain ⟨e,he,hb,h⟩:=tv (Ap hok.1 hj)
 have h2:=(Array.all_eq_true_iff_forall_mem.1 hc.2) e (by simpa using he)
 rw [zT hb] at h2
 simp only [Bool.not_true,Bool.false_or] at h2
 rcases h with rfl | h
 ·exact h2
 ·have hlt:e.on < A.size:=by
   rw [Array.getD_eq_getD_getElem?] at h2
   apply Classical.byContradiction
   intro hge
   have:B[e.on]?=none:=by rw [Array.getElem?_eq_none];omega
   simp [this] at h2
  exact cl e.on j hlt (by rw [lV (by omega)];exact h2) h
theorem pO {m:Region.Mode} {A:Array Oper} {B:Array Bool} {i:Nat} (hc:eM m A B i=true):B.getD i true=false:=by
 unfold eM at hc
 simp only [Bool.and_eq_true] at hc
 simpa using hc.1
theorem kg {m:Region.Mode} {A:Array Oper} {B:Array Bool} (hs:B.size=A.size):∀ (l:List Nat) (s:Nat),mh m A l s=true→(∀ i,s.testBit i=true→B.getD i false=true)→(∃ i,i < A.size∧B.getD i true=false) →
  ∃ i,i < A.size∧eM m A B i=true
 | [],s,h,hB,⟨i,hi,hb⟩=>by
  simp only [mh,List.all_eq_true,List.mem_range] at h
  have:=hB i (h i hi)
  rw [lV (by omega),this] at hb;cases hb
 | i::l,s,h,hB,hex=>by
  simp only [mh,Bool.and_eq_true] at h
  obtain ⟨h1,h2⟩:=h
  cases ho:A[i]? with
  | none=>simp [ho] at h1
  | some o=>
   have hi:i < A.size:=(Array.getElem?_eq_some_iff.1 ho).1
   simp only [ho,List.all_eq_true] at h1
   cases hb:B.getD i true with
   | false=>
    refine ⟨i,hi,?_⟩
    unfold eM
    simp only [hb,Bool.not_false,Bool.true_and,ho,Option.map_some,Option.getD_some]
    rw [Array.all_eq_true_iff_forall_mem]
    intro e he
    have:=h1 e (by simpa using he)
    simp only [Bool.or_eq_true] at this ⊢
    rcases this with h | h
    ·exact .inl h
    ·exact .inr (hB _ h)
   | true=>
    refine kg hs l _ h2 (fun j hj=>?_) hex
    rw [Nat.testBit_or,Bool.or_eq_true] at hj
    rcases hj with hj | hj
    ·exact hB j hj
    ·have:(1 <<< i).testBit j=true:=hj
     rw [Nat.testBit_shiftLeft] at this
     simp only [Bool.and_eq_true,decide_eq_true_eq] at this
     obtain ⟨h3,h4⟩:=this
     have:j - i=0:=by
      cases hz:j - i with
      | zero=>rfl
      | succ n=>rw [hz] at h4;simp [Nat.testBit_succ] at h4
     have:j=i:=by omega
     subst this
     rw [← lV (by omega)];exact hb
theorem pE {k n:Nat} {f:Nat→Bool} (hk:k < n) (hf:∀ i,i < n→f i=decide (i=k)):(List.range n).filter f=[k]:=by
 rw [List.filter_congr (q:=fun i=>decide (i=k)) (fun i hi=>hf i (by simpa using hi))]
 clear hf
 induction n with
 | zero=>omega
 | succ s ih=>
  rw [List.range_succ,List.filter_append]
  by_cases hks:k=s
  ·subst hks
   have:(List.range k).filter (fun i=>decide (i=k))=[]:=by rw [List.filter_eq_nil_iff];intro x hx;simp at hx;simp;omega
   rw [this];simp
  ·rw [ih (by omega)];simp;omega
theorem lN {N q:Nat} {m:Region.Mode} {A:Array Oper} {R:List Nat} (ok:chk N q A R=true):∀ (n k t:Nat) (B:Array Bool),k+n=A.size→q≤k→B.size=A.size→lu A R B→(∀ i,i < A.size→B.getD i true=decide (i < k))→lin m A n t B=List.range' k n
 | 0,k,t,B,_,_,_,_,_=>by simp [lin]
 | n+1,k,t,B,hk,hq,hs,cl,hB=>by
  have hop:∀ i (hi:i < A.size),kJ N q A R i A[i]=true:=by
   intro i hi
   unfold chk at ok
   simp only [Bool.and_eq_true,List.all_eq_true,List.mem_range] at ok
   have:=ok.2 i hi;simpa [hi] using this
  have tail:∀ i (hi:i < A.size),q≤i→(∀ j,j < i→bit R i j=true)∧∀ e∈A[i].after.toList,e.on < i:=by
   intro i hi hqi
   have h:=hop i hi
   unfold kJ at h
   have hb:Nat.blt i q=false:=by
    cases e:Nat.blt i q with
    | false=>rfl
    | true=>
     have:i < q:=by simpa using e
     omega
   simp only [hb,cond_false,Bool.and_eq_true,List.all_eq_true,List.mem_range] at h
   exact ⟨h.2.1,fun e he=>by simpa using h.2.2 e he⟩
  have hrs:(List.range A.size).filter (eM m A B)=[k]:=by
   refine pE (by omega) fun i hi=>?_
   have ho:A[i]?=some A[i]:=by simp [hi]
   by_cases hik:i=k
   ·subst hik
    unfold eM
    simp only [ho,Option.map_some,Option.getD_some,hB i hi,decide_true,Nat.lt_irrefl,decide_false,Bool.not_false,Bool.true_and]
    rw [Array.all_eq_true_iff_forall_mem]
    intro e he
    have hlt:=(tail i hi hq).2 e (by simpa using he)
    have:=hB e.on (by omega)
    simp only [hlt,decide_true] at this
    rw [lV (by omega)] at this
    simp [this]
   ·by_cases hlt:i < k
    ·unfold eM;simp [hB i hi,hlt,hik]
    ·cases hc:eM m A B i with
     | false=>simp [hik]
     | true=>
      exfalso
      have h1:=eR hc ho (hop i hi) cl hs ((tail i hi (by omega)).1 k (by omega))
      have h3:=hB k (by omega)
      simp only [Nat.lt_irrefl,decide_false] at h3
      rw [lV (by omega),h1] at h3;cases h3
  simp only [lin,hrs,List.length_singleton,Nat.mod_one,List.getElem?_cons_zero,Nat.div_one]
  have hB':∀ i,i < A.size→(B.setIfInBounds k true).getD i true=decide (i < k+1):=by
   intro i hi
   rw [Array.getD_eq_getD_getElem?]
   by_cases hik:k=i
   ·subst hik;simp [hs,hi]
   ·rw [Array.getElem?_setIfInBounds_ne hik]
    have:=hB i hi
    rw [Array.getD_eq_getD_getElem?] at this
    rw [this];simp;omega
  have hck:eM m A B k=true:=by
   have:k∈(List.range A.size).filter (eM m A B):=by rw [hrs];simp
   exact (List.mem_filter.1 this).2
  rw [lN ok n (k+1) t (B.setIfInBounds k true) (by omega) (by omega) (by simpa using hs) ?_ hB']
  ·simp [List.range'_succ]
  ·intro i j hi hb hj
   by_cases hik:i=k
   ·subst hik
    have h1:=eR hck (by simp [hi]) (hop i hi) cl hs hj
    rw [Array.getD_eq_getD_getElem?] at h1 ⊢
    by_cases hij:i=j
    ·subst hij;simp [hs,hi]
    ·rw [Array.getElem?_setIfInBounds_ne hij];exact h1
   ·have h0:B.getD i true=true:=by
     rw [Array.getD_eq_getD_getElem?,Array.getElem?_setIfInBounds_ne (Ne.symm hik)] at hb
     rw [Array.getD_eq_getD_getElem?];exact hb
    have h1:=cl i j hi h0 hj
    rw [Array.getD_eq_getD_getElem?] at h1 ⊢
    by_cases hij:k=j
    ·subst hij;simp [hs];have:k < A.size:=by omega
     simp [this]
    ·rw [Array.getElem?_setIfInBounds_ne hij];exact h1
def ext (d:Option Nat) (v:Value) (L:Env):Env:=match d with | some d=>(d,v)::L | none=>L
def KQ (L1:Env) (H1:List HP):aY:=fun e L H=>e=.normal∧L=L1∧Sb H1 H
def GQ (P:Program) (c:Cx) (A:Array Oper):List Oper→(Env→List HP→Prop)→Env→List HP→List HP→List HP→Prop
 | [],k,L,M,D,R=>R=[]∧k L (D++M)
 | o::os,k,L,M,D,R=>∃ v X Y R',R=X++R'∧(∀ Z,GO P c A [o] (KQ (ext o.dst v L) (Y++(M++Z))) L (X++(M++Z)))∧GQ P c A os k (ext o.dst v L) M (Y++D) R'
section
variable {P:Program} {c:Cx} {A:Array Oper} {os:List Oper} {k:Env→List HP→Prop} {K:aY} {L:Env} {H M D R:List HP}
theorem GQ.nil (h:k L (D++M)):GQ P c A [] k L M D []:=⟨rfl,h⟩
theorem GQ.step {d:Nat} {op:Op} {t:TypeId} {p:String} {e:Array Edge} {g:Option (Nat × Bool)} {v:Value} (h:∀ Z,GO P c A [⟨some d,op,t,p,e,g⟩] (KQ ((d,v)::L) (M++Z)) L (M++Z)) (r:GQ P c A os k ((d,v)::L) M D R):GQ P c A (⟨some d,op,t,p,e,g⟩::os) k L M D R:=
 ⟨v,[],[],R,rfl,h,r⟩
theorem KQ.i {L1:Env} {H1:List HP}:KQ L1 H1 .normal L1 H1:=⟨rfl,rfl,Sb.r⟩
theorem KQ.s {L1:Env} {H1 H2:List HP} (h:Sb H1 H2):KQ L1 H1 .normal L1 H2:=⟨rfl,rfl,h⟩
theorem KQ.z {L1:Env} {H1:List HP}:GO P c A [] (KQ L1 H1) L1 H1:=fun _ _ h=>⟨L1,H1,h,KQ.i⟩
def Lat (os:List Oper) (V:Nat→Value) (L:Env):Nat→Env
 | 0=>L
 | i+1=>match os[i]? with | some o=>ext o.dst (V i) (Lat os V L i) | none=>Lat os V L i
theorem qi (o:Oper) (os:List Oper) (V:Nat→Value) (L:Env):∀ i,Lat (o::os) V L (i+1)=Lat os (fun j=>V (j+1)) (ext o.dst (V 0) L) i
 | 0=>by simp [Lat]
 | i+1=>by
  have:=qi o os V L i
  conv=>lhs;unfold Lat
  conv=>rhs;unfold Lat
  simp only [List.getElem?_cons_succ]
  rw [this]
def pcs (n:Nat) (f:Nat→List HP):List HP:=(List.range n).flatMap f
theorem uu (n:Nat) (f:Nat→List HP):pcs (n+1) f=f 0++pcs n (fun i=>f (i+1)):=by
 unfold pcs
 rw [List.range_succ_eq_map]
 simp [List.flatMap_map]
theorem GQ.get:∀ {os:List Oper} {L:Env} {D R:List HP},GQ P c A os k L M D R→∃ (V:Nat→Value) (X Y:Nat→List HP),
  R=pcs os.length X∧(∀ i o,os[i]?=some o→∀ Z,GO P c A [o] (KQ (ext o.dst (V i) (Lat os V L i)) (Y i++(M++Z))) (Lat os V L i) (X i++(M++Z))) ∧
  ∃ D',D'.Perm (pcs os.length Y++D)∧k (Lat os V L os.length) (D'++M)
 | [],L,D,R,⟨h1,h2⟩=>⟨fun _=>undef,fun _=>[],fun _=>[],by simp [pcs,h1],fun i o e=>by simp at e,D,by simp [pcs],h2⟩
 | o::os,L,D,R,⟨v,x,y,R',hR,h1,h2⟩=>by
  obtain ⟨V,X,Y,hX,hV,D',hD,hk⟩:=GQ.get h2
  refine ⟨fun j=>match j with | 0=>v | j+1=>V j,fun j=>match j with | 0=>x | j+1=>X j,fun j=>match j with | 0=>y | j+1=>Y j,?_,?_,D',?_,?_⟩
  ·rw [hR,hX,List.length_cons,uu]
  ·intro i o' e
   cases i with
   | zero=>simp at e;subst e;exact h1
   | succ i=>
    simp only [List.getElem?_cons_succ] at e
    rw [qi]
    exact hV i o' e
  ·rw [List.length_cons,uu]
   refine hD.trans ?_
   simp only
   rw [← List.append_assoc]
   exact List.Perm.append_right _ List.perm_append_comm
  ·simp only [List.length_cons];rw [qi];exact hk
theorem AN {q i:Nat} (h:i < q):(List.range q).Perm (i::(List.range q).filter (fun j=>decide (j≠i))):=by
 have h1:(List.range q).Perm ((List.range q).filter (fun j=>decide (j=i))++(List.range q).filter (fun j=>!decide (j=i))):=(List.filter_append_perm _ _).symm
 rw [pE h (fun j _=>rfl)] at h1
 have e:(List.range q).filter (fun j=>!decide (j=i))=(List.range q).filter (fun j=>decide (j≠i)):=by
  apply List.filter_congr;intro x _;simp
 rw [e] at h1;exact h1
theorem uv {q i:Nat} (h:i < q) (f:Nat→List HP):(pcs q f).Perm (f i++((List.range q).filter (fun j=>decide (j≠i))).flatMap f):=by
 unfold pcs
 exact (List.Perm.flatMap_right f (AN h)).trans (by rw [List.flatMap_cons])
theorem li {l:List Nat} {f g:Nat→List HP} (h:∀ i∈l,f i=g i):l.flatMap f=l.flatMap g:=by
 induction l with
 | nil=>rfl
 | cons a l ih=>rw [List.flatMap_cons,List.flatMap_cons,h a (by simp),ih (fun i hi=>h i (by simp [hi]))]
def aK (A:Array Oper) (j s:Nat):Prop:=∃ o,A[j]?=some o∧o.dst=some s
theorem eE {j s:Nat} (h:aK A j s):sg A j s=true:=by
 obtain ⟨o,h1,h2⟩:=h
 simp [sg,h1,h2]
theorem dE {d:Option Nat} {v:Value} {s:Nat}:aR (ext d v L) s=if d=some s then some v else aR L s:=by
 cases d with
 | none=>simp [ext]
 | some d=>
  simp only [ext,aR,Option.some.injEq]
  by_cases h:d=s
  ·subst h;simp
  ·simp [lH h,h]
theorem pa {L:Env} {q:Nat} {V:Nat→Value} (hA:q≤A.size) (ssa:∀ i j s,i < q→j < q→aK A i s→aK A j s→i=j):∀ i,i≤q →
  (∀ j s,j < i→aK A j s→aR (Lat (A.toList.take q) V L i) s=some (V j))∧(∀ s,(∀ j,j < i→¬ aK A j s)→aR (Lat (A.toList.take q) V L i) s=aR L s)
 | 0,_=>⟨fun j s h=>by omega,fun s _=>rfl⟩
 | i+1,hi=>by
  obtain ⟨ih1,ih2⟩:=pa (V:=V) (L:=L) hA ssa i (by omega)
  have hi':i < A.size:=by omega
  have ho:(A.toList.take q)[i]?=some A[i]:=by rw [List.getElem?_take_of_lt (by omega)];simp [hi']
  constructor
  ·intro j s hj hd
   simp only [Lat,ho]
   rw [dE]
   by_cases hs:A[i].dst=some s
   ·have:i=j:=ssa i j s (by omega) (by omega) ⟨A[i],by simp [hi'],hs⟩ hd
    subst this;simp [hs]
   ·have hne:j≠i:=by
     rintro rfl
     obtain ⟨o,h1,h2⟩:=hd
     simp [hi'] at h1;subst h1;exact hs h2
    simp only [hs,if_false];exact ih1 j s (by omega) hd
  ·intro s hs
   simp only [Lat,ho]
   rw [dE]
   have:¬ A[i].dst=some s:=fun h=>hs i (by omega) ⟨A[i],by simp [hi'],h⟩
   simp only [this,if_false];exact ih2 s (fun j hj=>hs j (by omega))
theorem fx {f g:Nat→Bool} {i:Nat} (hf:f i=true) (hg:g i=false) (hfg:∀ j,j≠i→f j=g j):∀ l:List Nat,l.Nodup→i∈l→l.countP g+1=l.countP f
 | [],_,h=>by simp at h
 | a::l,hn,h=>by
  obtain ⟨h1,h2⟩:=List.nodup_cons.1 hn
  by_cases ha:a=i
  ·subst ha
   have:l.countP g=l.countP f:=by
    apply List.countP_congr
    intro x hx
    have:x≠a:=fun e=>h1 (e ▸ hx)
    rw [hfg x this]
   simp [List.countP_cons,hf,hg,this]
  ·have hi:i∈l:=by simpa [Ne.symm ha] using h
   have:=fx hf hg hfg l h2 hi
   simp only [List.countP_cons,hfg a ha];omega
theorem kG (q:Nat):∀ n,q≤n→(List.range n).countP (fun i=>!decide (i < q))=n - q
 | 0,_=>by simp
 | n+1,h=>by
  rw [List.range_succ,List.countP_append]
  by_cases hq:q≤n
  ·rw [kG q n hq];simp [Nat.not_lt.2 hq];omega
  ·have:q=n+1:=by omega
   subst this
   have h0:(List.range n).countP (fun i=>!decide (i < n+1))=0:=by
    rw [List.countP_eq_zero];intro a ha;simp at ha;simp;omega
   rw [h0];simp
theorem Bw {q:Nat} {m:Region.Mode} {V:Nat→Value} {X Y:Nat→List HP} {RR:List Nat} {D':List HP} (ok:chk c.N q A RR=true) (tp:mh m A (lG m A) 0=true)
  (hV:∀ i o,(A.toList.take q)[i]?=some o→∀ Z,GO P c A [o] (KQ (ext o.dst (V i) (Lat (A.toList.take q) V L i)) (Y i++(M++Z))) (Lat (A.toList.take q) V L i) (X i++(M++Z)))
  (hD:D'.Perm (pcs q Y)) (hk:GO P c A (A.toList.drop q) K (Lat (A.toList.take q) V L q) (D'++M)):∀ (n t:Nat) (B:Array Bool) (a:Act) (w:World),
  B.size=A.size→lu A RR B→(List.range A.size).countP (fun i=>!B.getD i true)=n→(∀ i,q≤i→i < A.size→B.getD i true=false) →
  a.tmps.size=c.N→Same c.w0 w→(∃ ds:List Nat,a.defers=ds.map dX++c.D∧((c.r.isSome || c.nd)=true→ds=[])∧sat (pcs q (fun i=>if B.getD i true=true then Y i else X i)++(M++(c.X++ds.map cA))) w) →
  (∀ j d,j < q→B.getD j true=true→aK A j d→a.tmps[d]?=some (V j))→(∀ s v,aR L s=some v→(∀ j,j < q→B.getD j true=true→¬ aK A j s)→a.tmps[s]?=some v) →
  wpOpsIn (fen c.r) 0 P A (gK c K) (lin m A n t B) a w:=by
 have hok:=ok
 unfold chk at hok
 simp only [Bool.and_eq_true,List.all_eq_true,List.mem_range] at hok
 obtain ⟨hqb,hok⟩:=hok
 have hq:q≤A.size:=by simpa using hqb
 have hop:∀ i (hi:i < A.size),kJ c.N q A RR i A[i]=true:=fun i hi=>by have:=hok i hi;simpa [hi] using this
 have hqop:∀ i (hi:i < A.size),i < q→lA A[i].op=true∧(∀ d,A[i].dst=some d→d < c.N∧∀ j,j < q→j≠i→¬ aK A j d) ∧
   (∀ t,.tmp t∈A[i].op.operands.toList→∀ j,j < q→aK A j t→(bit RR i j=true∧j < i)∨(bit RR j i=true∧i < j))∧(∀ j b,A[i].guard=some (j,b)→j < q∧bit RR i j=true∧j < i):=by
  intro i hi hiq
  have h:=hop i hi
  unfold kJ at h
  have hb:Nat.blt i q=true:=by simpa using hiq
  simp only [hb,cond_true,Bool.and_eq_true] at h
  obtain ⟨_,⟨⟨h1,h2⟩,h3⟩,h4⟩:=h
  refine ⟨h1,?_,?_,?_⟩
  ·intro d hd
   rw [hd] at h2
   simp only [Bool.and_eq_true,List.all_eq_true,List.mem_range] at h2
   refine ⟨by simpa using h2.1,fun j hj hne hdj=>?_⟩
   have:=h2.2 j hj
   rw [eE hdj,lH hne] at this
   simp at this
  ·intro t ht j hj hdj
   simp only [List.all_eq_true,List.mem_range] at h3
   have:=h3 t (by unfold jE;rw [List.mem_filterMap];exact ⟨.tmp t,ht,rfl⟩) j hj
   rw [eE hdj] at this
   simpa using this
  ·intro j b hg
   rw [hg] at h4
   simp only [Bool.and_eq_true] at h4
   exact ⟨by simpa using h4.1.1,h4.1.2,by simpa using h4.2⟩
 have ssa:∀ i j s,i < q→j < q→aK A i s→aK A j s→i=j:=by
  intro i j s hi hj h1 h2
  by_cases hij:i=j
  ·exact hij
  ·exfalso
   obtain ⟨o,ho,hd⟩:=h1
   have hi':i < A.size:=by omega
   simp [hi'] at ho
   have:=(hqop i hi' hi).2.1 s (by rw [ho];exact hd)
   exact this.2 j hj (Ne.symm hij) h2
 have done:∀ (B:Array Bool) (a:Act) (w:World),(∀ i,i < q→B.getD i true=true)→a.tmps.size=c.N→Same c.w0 w→(∃ ds:List Nat,a.defers=ds.map dX++c.D∧((c.r.isSome || c.nd)=true→ds=[])∧sat (pcs q (fun i=>if B.getD i true=true then Y i else X i)++(M++(c.X++ds.map cA))) w) →
   (∀ j d,j < q→B.getD j true=true→aK A j d→a.tmps[d]?=some (V j))→(∀ s v,aR L s=some v→(∀ j,j < q→B.getD j true=true→¬ aK A j s)→a.tmps[s]?=some v)→St c (Lat (A.toList.take q) V L q) (D'++M) a w:=by
  intro B a w hquiet hN hsame hmem hI1 hI2
  refine ⟨⟨hN,fun s v hs=>?_⟩,hsame,?_⟩
  ·obtain ⟨l1,l2⟩:=pa (V:=V) (L:=L) hq ssa q (Nat.le_refl q)
   by_cases h:∃ j,j < q∧aK A j s
   ·obtain ⟨j,hj,hd⟩:=h
    rw [l1 j s hj hd] at hs
    simp only [Option.some.injEq] at hs
    rw [← hs];exact hI1 j s hj (hquiet j hj) hd
   ·rw [l2 s (fun j hj hd=>h ⟨j,hj,hd⟩)] at hs
    exact hI2 s v hs (fun j hj _ hd=>h ⟨j,hj,hd⟩)
  ·obtain ⟨ds,h1,h2,h3⟩:=hmem
   refine ⟨ds,h1,h2,?_⟩
   have e:pcs q (fun i=>if B.getD i true=true then Y i else X i)=pcs q Y:=li fun i hi=>by rw [if_pos (hquiet i (by simpa using hi))]
   rw [e] at h3
   rw [List.append_assoc]
   exact ai (List.Perm.append_right _ hD.symm) h3
 intro n
 induction n with
 | zero=>
  intro t B a w hBs cl hcnt htail hN hsame hmem hI1 hI2
  have hall:∀ i,i < A.size→B.getD i true=true:=by
   intro i hi
   rw [List.countP_eq_zero] at hcnt
   simpa using hcnt i (by simpa using hi)
  have hqs:q=A.size:=by
   by_cases h:q < A.size
   ·have h1:=hall q h;have h2:=htail q (by omega) h;rw [h1] at h2;cases h2
   ·omega
  simp only [lin]
  have hdrop:A.toList.drop q=[]:=by rw [hqs];simp
  rw [hdrop] at hk
  exact hk a w (done B a w (fun i hi=>hall i (by omega)) hN hsame hmem hI1 hI2)
 | succ n ih=>
  intro t B a w hBs cl hcnt htail hN hsame hmem hI1 hI2
  by_cases hquiet:∀ i,i < q→B.getD i true=true
  ·
   have hB:∀ i,i < A.size→B.getD i true=decide (i < q):=by
    intro i hi
    by_cases h:i < q
    ·simp [h,hquiet i h]
    ·simp [h,htail i (by omega) hi]
   have hcn:n+1=A.size - q:=by
    rw [← hcnt,← kG q A.size hq]
    apply List.countP_congr
    intro x hx
    rw [hB x (by simpa using hx)]
   rw [lN ok (n+1) q t B (by omega) (Nat.le_refl q) hBs cl hB]
   refine dh (ji c.r) _ (A.toList.drop q) a w ?_ (hk a w (done B a w hquiet hN hsame hmem hI1 hI2))
   apply List.ext_getElem?
   intro i
   simp only [List.getElem?_map,List.getElem?_range',List.getElem?_drop]
   by_cases h:i < n+1
   ·have h':q+i < A.size:=by omega
    simp [h,h']
   ·have h':¬ q+i < A.size:=by omega
    have e1:A.toList[q+i]?=none:=by rw [List.getElem?_eq_none];simpa using h'
    simp [h,e1]
  ·
   have hex:∃ i,i < A.size∧B.getD i true=false:=by
    apply Classical.byContradiction
    intro h
    apply hquiet
    intro i hi
    cases e:B.getD i true with
    | true=>rfl
    | false=>exact absurd ⟨i,by omega,e⟩ h
   obtain ⟨i0,hi0,hc0⟩:=kg hBs _ 0 tp (fun i h=>by simp at h) hex
   have hne:0 < ((List.range A.size).filter (eM m A B)).length:=by
    apply List.length_pos_of_mem (a:=i0)
    rw [List.mem_filter];exact ⟨by simpa using hi0,hc0⟩
   have hlt:=Nat.mod_lt t hne
   have hget:=List.getElem?_eq_getElem hlt
   generalize hidef:((List.range A.size).filter (eM m A B))[t % ((List.range A.size).filter (eM m A B)).length]=i at hget
   have himem:i∈(List.range A.size).filter (eM m A B):=by rw [← hidef];exact List.getElem_mem hlt
   rw [List.mem_filter] at himem
   obtain ⟨hir,hci⟩:=himem
   have hi:i < A.size:=by simpa using hir
   have hBi:B.getD i true=false:=pO hci
   have hiA:A[i]?=some A[i]:=by simp [hi]
   have pred:∀ j,bit RR i j=true→B.getD j true=true:=by
    intro j hj
    have h2:=eR hci hiA (hop i hi) cl hBs hj
    rw [Array.getD_eq_getD_getElem?] at h2 ⊢
    cases hb:B[j]? with
    | none=>simp
    | some b=>simp [hb] at h2 ⊢;exact h2
   have hiq:i < q:=by
    apply Classical.byContradiction
    intro hnq
    apply hquiet
    intro j hj
    have h:=hop i hi
    unfold kJ at h
    have hb:Nat.blt i q=false:=by
     cases e:Nat.blt i q with
     | false=>rfl
     | true=>
      have:i < q:=by simpa using e
      omega
    simp only [hb,cond_false,Bool.and_eq_true,List.all_eq_true,List.mem_range] at h
    exact pred j (h.2.1 j (by omega))
   obtain ⟨hqk,hdst,hops,hgd⟩:=hqop i hi hiq
   have htake:(A.toList.take q)[i]?=some A[i]:=by rw [List.getElem?_take_of_lt (by omega)];simp [hi]
   obtain ⟨l1,l2⟩:=pa (V:=V) (L:=L) hq ssa i (by omega)
   obtain ⟨ds,hdef,hdr,hsat⟩:=hmem
   let a2:Act:={ tmps:=Array.ofFn (n:=c.N) fun s=>(aR (Lat (A.toList.take q) V L i) s.1).getD (a.tmps.getD s.1 undef),defers:=a.defers }
   have ha2:∀ s,s < c.N→a2.tmps[s]?=some ((aR (Lat (A.toList.take q) V L i) s).getD (a.tmps.getD s undef)):=by
    intro s hs;simp [a2,Array.getElem?_ofFn,hs]
   have hLsz:∀ s v,aR (Lat (A.toList.take q) V L i) s=some v→s < c.N:=by
    intro s v hs
    by_cases h:∃ j,j < i∧aK A j s
    ·obtain ⟨j,hj,o,hd1,hd2⟩:=h
     have hj':j < A.size:=by omega
     simp [hj'] at hd1
     exact ((hqop j hj' (by omega)).2.1 s (by rw [hd1];exact hd2)).1
    ·rw [l2 s (fun j hj hd=>h ⟨j,hj,hd⟩)] at hs
     apply Classical.byContradiction
     intro hge
     by_cases h':∃ j,j < q∧B.getD j true=true∧aK A j s
     ·obtain ⟨j,hj,_,o,hd1,hd2⟩:=h'
      have hj':j < A.size:=by omega
      simp [hj'] at hd1
      exact hge ((hqop j hj' hj).2.1 s (by rw [hd1];exact hd2)).1
     ·have:=hI2 s v hs (fun j hj hb hd=>h' ⟨j,hj,hb,hd⟩)
      have:=(Array.getElem?_eq_some_iff.1 this).1
      omega
   have pX:=uv hiq (fun i=>if B.getD i true=true then Y i else X i)
   simp only [hBi,Bool.false_eq_true,if_false] at pX
   generalize hZ:((List.range q).filter (fun j=>decide (j≠i))).flatMap (fun i=>if B.getD i true=true then Y i else X i)=Z at pX
   have hst2:St c (Lat (A.toList.take q) V L i) (X i++(M++Z)) a2 w:=by
    refine ⟨⟨by simp [a2],fun s v hs=>?_⟩,hsame,ds,hdef,hdr,?_⟩
    ·rw [ha2 s (hLsz s v hs),hs];rfl
    ·refine ai ?_ hsat
     refine (List.Perm.append_right _ pX).trans ?_
     simp only [List.append_assoc]
     refine List.Perm.append_left _ ?_
     exact List.perm_append_comm_assoc _ _ _
   have hone:=hV i A[i] htake Z a2 w hst2
   have hone1:=jF (F:=fen c.r) (P:=P) (A:=A) (o:=A[i]) (a:=a2) (w:=w) (fun e a w h=>by obtain ⟨_,_,_,h,_⟩:=h;exact h) hone
   have hslot:∀ s,(.tmp s∈A[i].op.operands.toList∨∃ j b,A[i].guard=some (j,b)∧aK A j s)→a2.tmps.getD s undef=a.tmps.getD s undef∧a2.tmps[s]?=a.tmps[s]?:=by
    intro s hs
    have key:a2.tmps[s]?=a.tmps[s]?:=by
     by_cases hsN:s < c.N
     ·rw [ha2 s hsN]
      by_cases h:∃ j,j < q∧aK A j s
      ·obtain ⟨j,hj,hd⟩:=h
       have hE:(bit RR i j=true∧j < i)∨(bit RR j i=true∧i < j):=by
        rcases hs with hs | ⟨j',b,hg,hd'⟩
        ·exact hops s hs j hj hd
        ·obtain ⟨hj',hE⟩:=hgd j' b hg
         have:j'=j:=ssa j' j s hj' hj hd' hd
         subst this;exact .inl hE
       rcases hE with hE | hE
       ·rw [l1 j s hE.2 hd]
        rw [hI1 j s hj (pred j hE.1) hd];rfl
       ·
        have hnj:¬ B.getD j true=true:=fun hb=>by
         have h1:=cl j i (by omega) hb hE.1
         rw [Array.getD_eq_getD_getElem?] at h1 hBi
         cases hbi:B[i]? with
         | none=>simp [hbi] at hBi
         | some b=>simp [hbi] at h1 hBi;rw [h1] at hBi;cases hBi
        have hn:∀ j',j' < q→aK A j' s→j'=j:=fun j' hj' hd'=>ssa j' j s hj' hj hd' hd
        rw [l2 s (fun j' hj' hd'=>by have:=hn j' (by omega) hd';omega)]
        cases hl:aR L s with
        | none=>
         simp only [Option.getD_none]
         rw [Array.getD_eq_getD_getElem?]
         have hh:s < a.tmps.size:=by omega
         simp [hh]
        | some v=>
         rw [hI2 s v hl (fun j' hj' hb hd'=>by rw [hn j' hj' hd'] at hb;exact hnj hb)];rfl
      ·have hn:∀ j,j < q→¬ aK A j s:=fun j hj hd=>h ⟨j,hj,hd⟩
       rw [l2 s (fun j hj=>hn j (by omega))]
       cases hl:aR L s with
       | none=>
        simp only [Option.getD_none]
        rw [Array.getD_eq_getD_getElem?]
        have hh:s < a.tmps.size:=by omega
        simp [hh]
       | some v=>
        rw [hI2 s v hl (fun j hj _=>hn j hj)];rfl
     ·have h1:a.tmps[s]?=none:=by rw [Array.getElem?_eq_none];omega
      have h2:a2.tmps[s]?=none:=by rw [Array.getElem?_eq_none];simp [a2];omega
      rw [h1,h2]
    exact ⟨by rw [Array.getD_eq_getD_getElem?,Array.getD_eq_getD_getElem?,key],key⟩
   have hev:execOp a.eval A[i]=execOp a2.eval A[i]:=by
    refine pF hqk fun x hx=>?_
    cases x with
    | tmp s=>exact (hslot s (.inl hx)).1.symm
    | const v=>rfl
    | global g=>rfl
    | func f=>rfl
   have hwt:Region.wanted A[i] (yielded A a.tmps)=Region.wanted A[i] (yielded A a2.tmps):=by
    unfold Region.wanted
    cases hg:A[i].guard with
    | none=>rfl
    | some jb=>
     obtain ⟨j,b⟩:=jb
     simp only
     congr 1
     unfold yielded
     have hj:=(hgd j b hg).1
     have hjA:j < A.size:=by omega
     simp only [hjA,getElem?_pos,Option.bind_some]
     cases hd:A[j].dst with
     | none=>rfl
     | some s=>
      simp only [Option.bind_some]
      rw [(hslot s (.inr ⟨j,b,hg,A[j],by simp [hjA],hd⟩)).2]
   have hnd:t9 A[i].op=true:=xB hqk
   have hone2:jo (fen c.r) P A A[i] a w (fun D v w'=>gK c (KQ (ext A[i].dst (V i) (Lat (A.toList.take q) V L i)) (Y i++(M++Z))) .normal (Act.putD a2 D A[i].dst v) w'):=by
    unfold jo at hone1 ⊢
    rw [hwt,df _ _ _ hnd,hev]
    rw [df _ _ _ hnd] at hone1
    exact hone1
   have hlin:lin m A (n+1) t B=i::lin m A n (t / ((List.range A.size).filter (eM m A B)).length) (B.setIfInBounds i true):=by
    simp only [lin,hget]
   rw [hlin]
   refine iv (ji c.r) hiA (gq hone2 ?_)
   rintro D v w' ⟨L',H',⟨hat,hs',ds',hdef',hdr',hsat'⟩,_,rfl,hsb⟩
   have hgd2:∀ j,(B.setIfInBounds i true).getD j true=if j=i then true else B.getD j true:=by
    intro j
    rw [Array.getD_eq_getD_getElem?,Array.getD_eq_getD_getElem?]
    by_cases h:i=j
    ·subst h
     have:i < B.size:=by omega
     simp [this]
    ·rw [Array.getElem?_setIfInBounds_ne h];simp [Ne.symm h]
   have hv:∀ d,A[i].dst=some d→v=V i:=by
    intro d hd
    have h1:=hat.2 d (V i) (by rw [hd];simp [ext,aR])
    have hdN:=(hdst d hd).1
    rw [hd,dI (by simp [a2];exact hdN)] at h1
    simpa using h1
   refine ih _ _ _ w' (by simpa using hBs) ?_ ?_ ?_ ?_ hs' ?_ ?_ ?_
   ·intro i' j hi' hb hj
    rw [hgd2] at hb
    have h1:B.getD j false=true:=by
     by_cases h:i'=i
     ·subst h;exact eR hci hiA (hop i' hi) cl hBs hj
     ·rw [if_neg h] at hb;exact cl i' j hi' hb hj
    rw [Array.getD_eq_getD_getElem?] at h1 ⊢
    by_cases h:i=j
    ·subst h
     have:i < B.size:=by omega
     simp [this]
    ·rw [Array.getElem?_setIfInBounds_ne h];exact h1
   ·have:=fx (f:=fun j=>!B.getD j true) (g:=fun j=>!(B.setIfInBounds i true).getD j true) (i:=i) (by simp [hBi]) (by simp [hgd2]) (fun j hj=>by simp [hgd2,hj]) (List.range A.size) List.nodup_range (by simpa using hi)
    omega
   ·intro j hj hja
    rw [hgd2,if_neg (by omega)];exact htail j hj hja
   ·cases hd:A[i].dst <;> simp only [Act.putD,Act.put,Array.size_setIfInBounds,hN]
   ·refine ⟨ds',?_,hdr',?_⟩
    ·have:(Act.putD a2 D A[i].dst v).defers=D++a.defers:=by cases A[i].dst <;> rfl
     rw [this] at hdef'
     cases A[i].dst <;> exact hdef'
    ·have pY:=uv hiq (fun j=>if (B.setIfInBounds i true).getD j true=true then Y j else X j)
     simp only [hgd2 i,if_true] at pY
     have eZ:((List.range q).filter (fun j=>decide (j≠i))).flatMap (fun j=>if (B.setIfInBounds i true).getD j true=true then Y j else X j)=Z:=by
      rw [← hZ]
      refine li fun j hj=>?_
      have:j≠i:=by have:=(List.mem_filter.1 hj).2;simpa using this
      rw [hgd2,if_neg this]
     rw [eZ] at pY
     refine ai ?_ ((Sb.app hsb).sat hsat')
     refine List.Perm.trans ?_ (List.Perm.append_right _ pY.symm)
     simp only [List.append_assoc]
     refine List.Perm.append_left _ ?_
     exact List.perm_append_comm_assoc _ _ _
   ·intro j d hj hb hd
    rw [hgd2] at hb
    by_cases hji:j=i
    ·subst hji
     obtain ⟨o,ho1,ho2⟩:=hd
     simp [hi] at ho1;subst ho1
     rw [hv d ho2,ho2]
     exact dI (Nat.lt_of_lt_of_eq (hdst d ho2).1 hN.symm)
    ·rw [if_neg hji] at hb
     have hne:∀ d',A[i].dst=some d'→d'≠d:=by
      rintro d' hd' rfl
      exact (hdst d' hd').2 j hj hji hd
     rw [ko hne];exact hI1 j d hj hb hd
   ·intro s u hs hnone
    have hne:∀ d',A[i].dst=some d'→d'≠s:=by
     rintro d' hd' rfl
     exact hnone i hiq (by rw [hgd2];simp) ⟨A[i],hiA,hd'⟩
    rw [ko hne]
    refine hI2 s u hs (fun j hj hb hd=>hnone j hj ?_ hd)
    rw [hgd2]
    by_cases hji:j=i
    ·rw [if_pos hji]
    ·rw [if_neg hji];exact hb
theorem G.drawP {id:Nat} (q:Nat) (R M:List HP) (ok:jW c.N q A=true) (tk:H.Perm (R++M)) (h:GQ P c A (A.toList.take q) (fun L' H'=>GO P c A (A.toList.drop q) K L' H') L M [] R):G P c (.region id A true) K L H:=by
 intro a w hs
 refine wpIn_region_draw fun t=>?_
 unfold jW at ok
 simp only [Bool.and_eq_true] at ok
 obtain ⟨ok1,ok2,ok3,ok4⟩:=ok
 have hq:q≤A.size:=by
  unfold chk at ok1
  simp only [Bool.and_eq_true] at ok1
  simpa using ok1.1
 have hlen:(A.toList.take q).length=q:=by simp;omega
 obtain ⟨V,X,Y,hX,hV,D',hD,hk⟩:=GQ.get h
 rw [hlen] at hX hD hk
 have run:∀ m t,mh m A (lG m A) 0=true→wpOpsIn (fen c.r) 0 P A (gK c K) (Region.linearise m A t) a { w with drawn:=w.drawn+1 }:=by
  intro m t tp
  unfold Region.linearise
  rw [tc]
  simp only [List.reverse_nil,List.nil_append]
  obtain ⟨h1,h2,ds,h3,h4,h5⟩:=hs
  have hrep:∀ i,i < A.size→(Array.replicate A.size false).getD i true=false:=by
   intro i hi;rw [Array.getD_eq_getD_getElem?];simp [hi]
  refine Bw (RR:=qH A A.size) ok1 tp hV (by simpa using hD) hk _ _ _ a _ (by simp) (fun i j hi hb=>by rw [hrep i hi] at hb;cases hb) ?_ (fun i _ hi=>hrep i hi) h1.1 (h2.trans (Same.drawn _ (Nat.le_add_right _ _))) ⟨ds,h3,h4,?_⟩ ?_ (fun s v hs _=>h1.2 s v hs)
  ·rw [List.countP_eq_length.2]
   ·simp
   ·intro i hi;rw [hrep i (by simpa using hi)];rfl
  ·have e:pcs q (fun i=>if (Array.replicate A.size false).getD i true=true then Y i else X i)=pcs q X:=li fun i hi=>by
    rw [hrep i (by
     have:i < q:=by simpa using hi
     omega)];rfl
   rw [e,← hX,← List.append_assoc]
   exact fD (ai (List.Perm.append_right _ tk) h5) rfl
  ·intro j d hj hb _
   rw [hrep j (by omega)] at hb;cases hb
 unfold Region.schedule
 split
 ·exact run _ _ ok2
 ·split
  ·exact run _ _ ok3
  ·exact run _ _ ok4
theorem G.draw {id:Nat} (q:Nat) (ok:jW c.N q A=true) (h:GQ P c A (A.toList.take q) (fun L' H'=>GO P c A (A.toList.drop q) K L' H') L H [] []):G P c (.region id A true) K L H:=
 G.drawP q [] H ok (List.Perm.refl _) h
end
end
section
open Go Go.Great
def aA:List Value→List Value
 | []=>[]
 | v::vs=>v.cells.toList++aA vs
theorem Br (off:Nat) (v:Value) (cs:List Value) (h:off+v.cells.size≤cs.length) :
  v.cells.zipIdx.foldl (fun cs (x:Value × Nat)=>cs.setIfInBounds (off+x.2) x.1) cs.toArray=(cs.take off++v.cells.toList++cs.drop (off+v.cells.size)).toArray:=by
 obtain ⟨g1,g2⟩:=foldl_set off v.cells.toList 0 cs.toArray
 have e:v.cells.zipIdx.foldl (fun cs (x:Value × Nat)=>cs.setIfInBounds (off+x.2) x.1) cs.toArray=(v.cells.toList.zipIdx 0).foldl (fun cs (x:Value × Nat)=>cs.setIfInBounds (off+x.2) x.1) cs.toArray:=by
  rw [← Array.foldl_toList,Array.toList_zipIdx]
 rw [e]
 apply Array.ext'
 apply List.ext_getElem?
 intro k
 rw [Array.getElem?_toList,g2 k]
 simp only [Nat.add_zero,List.size_toArray,Array.length_toList]
 have h1:(cs.take off++v.cells.toList).length=off+v.cells.size:=by simp;omega
 by_cases hk1:k < off
 ·rw [if_neg (by omega),List.append_assoc,List.getElem?_append_left (by simp;omega)]
  simp [List.getElem?_take,hk1]
 ·by_cases hk2:k < off+v.cells.size
  ·rw [if_pos (by omega),List.getElem?_append_left (by omega),List.getElem?_append_right (by simp;omega)]
   congr 1;simp;omega
  ·rw [if_neg (by omega),List.getElem?_append_right (by omega),h1,List.getElem?_drop]
   simp only [List.getElem?_toArray]
   congr 1;omega
theorem vA (places:Nat→Option (Nat × Nat)):∀ (vs:List Value) (i0 off:Nat) (cs:List Value),
  (∀ k v,vs[k]?=some v→places (i0+k)=some (off+(aA (vs.take k)).length,v.cells.size))→off+(aA vs).length≤cs.length →
  Instr.fill places cs.toArray ((vs.zipIdx i0).map fun x=>(x.2,x.1))=some (cs.take off++aA vs++cs.drop (off+(aA vs).length)).toArray
 | [],i0,off,cs,_,h=>by simp [Instr.fill,aA]
 | v::vs,i0,off,cs,hp,h=>by
  have h0:=hp 0 v rfl
  simp only [Nat.add_zero,List.take_zero,aA,List.length_nil] at h0
  simp only [aA,List.length_append,Array.length_toList] at h
  simp only [List.zipIdx_cons,List.map_cons,Instr.fill,h0]
  rw [if_neg (by simp;omega),Br off v cs (by omega)]
  rw [vA places vs (i0+1) (off+v.cells.size) _ ?_ ?_]
  ·congr 1;congr 1
   have e1:(cs.take off++v.cells.toList).length=off+v.cells.size:=by simp;omega
   have e2:(cs.take off++v.cells.toList++cs.drop (off+v.cells.size)).take (off+v.cells.size)=cs.take off++v.cells.toList:=by
    rw [List.take_append_of_le_length (by omega),List.take_of_length_le (by omega)]
   have e3:(cs.take off++v.cells.toList++cs.drop (off+v.cells.size)).drop (off+v.cells.size+(aA vs).length)=cs.drop (off+(aA (v::vs)).length):=by
    rw [List.drop_append,e1,List.drop_of_length_le (by rw [e1];omega),List.nil_append,List.drop_drop]
    congr 1
    simp only [aA,List.length_append,Array.length_toList];omega
   rw [e2,e3]
   simp only [aA,List.append_assoc]
  ·intro k u hk
   have:=hp (k+1) u (by simpa using hk)
   rw [show i0+1+k=i0+(k+1) by omega,this]
   simp only [List.take_succ_cons,aA,List.length_append,Array.length_toList]
   congr 2;omega
  ·simp only [List.length_append,List.length_take,Array.length_toList,List.length_drop];omega
class BLD (P:Program) (t:TypeId) (sizes:outParam (List Nat)):Prop where
 out:∀ vs:List Value,vs.map (fun v=>v.cells.size)=sizes→P.built t ((vs.zipIdx 0).map fun x=>(x.2,x.1))=some (aA vs).toArray
def Am:Nat→List Nat→List (Nat × Nat)
 | _,[]=>[]
 | o,s::l=>(o,s)::Am (o+s) l
theorem tU:∀ (l:List Nat) (o k s:Nat),l[k]?=some s→(Am o l)[k]?=some (o+(l.take k).sum,s)
 | [],o,k,s,h=>by simp at h
 | x::l,o,0,s,h=>by simp at h;subst h;simp [Am]
 | x::l,o,k+1,s,h=>by
  simp only [List.getElem?_cons_succ] at h
  have:=tU l (o+x) k s h
  simp only [Am,List.getElem?_cons_succ,this,List.take_succ_cons,List.sum_cons]
  congr 2;omega
theorem iN (vs:List Value):(aA vs).length=(vs.map (fun v=>v.cells.size)).sum:=by
 induction vs with
 | nil=>rfl
 | cons v vs ih=>simp [aA,ih]
theorem fz {P:Program} {t:TypeId} {sizes:List Nat} {fields:Array Field} {zl:List Value} (hu:P.underlying t=some (.struct fields)) (hz:((P.info? t).bind (·.zero)).map (fun z=>z.cells.toList)=some zl)
  (hp:fields.toList.mapM (fun f=>(P.info? f.type).map fun i=>(f.offset,i.size))=some (Am 0 sizes)) (hl:zl.length=sizes.sum):BLD P t sizes:=⟨fun vs hs=>by
 unfold Program.built
 cases hq:P.info? t with
 | none=>simp [hq] at hz
 | some it=>
  cases hzz:it.zero with
  | none=>simp [hq,hzz] at hz
  | some z=>
   simp only [hq,hzz,Option.bind_some,Option.map_some,Option.some.injEq] at hz
   simp only [hu,hzz,hp]
   have e:z.cells=zl.toArray:=by rw [← hz]
   rw [e,vA _ vs 0 0 zl ?_ ?_]
   ·have:(aA vs).length=zl.length:=by rw [iN,hs,hl]
    rw [Nat.zero_add,this,List.drop_length];simp
   ·intro k v hk
    have hk':sizes[k]?=some v.cells.size:=by rw [← hs];simp [hk]
    have:=tU sizes 0 k _ hk'
    simp only [List.getElem?_toArray,Nat.zero_add] at this ⊢
    rw [this,iN,← hs,List.map_take]
   ·rw [iN,hs,hl];omega⟩
class B0 (P:Program) (t:TypeId) (l:outParam (List Value)):Prop where out:P.built t []=some l.toArray
section rules
variable {P:Program} {c:Cx} {A:Array Oper} {rest:List Oper} {K:aY} {L:Env} {H:List HP} {t:TypeId} {p:String} {e:Array Edge}
variable {d:Nat} {ty:TypeId}
theorem nX {N:Nat} {a:Act} (h:At N L a):∀ {xs:List Operand} {vs:List Value} (i:Nat),Vals L xs vs→((xs.zipIdx i).map fun x=>(x.2,x.1)).map (fun (y:Nat × Operand)=>(y.1,a.eval y.2))=(vs.zipIdx i).map fun x=>(x.2,x.1)
 | [],[],i,_=>rfl
 | x::xs,v::vs,i,⟨h1,h2⟩=>by
  have:=nX h (i+1) h2
  simp only [List.zipIdx_cons,List.map_cons,this,h.eval h1]
 | [],_::_,_,h=>h.elim
 | _::_,[],_,h=>h.elim
theorem GO.build {sizes:List Nat} {xs:List Operand} {vs:List Value} {ps:List (Nat × Operand)} [hb:BLD P ty sizes] (hN:Nat.blt d c.N=true) (hps:ps=(xs.zipIdx 0).map fun x=>(x.2,x.1)) (hv:Vals L xs vs) (hs:vs.map (fun v=>v.cells.size)=sizes)
  (k:GO P c A rest K ((d,.agg (aA vs).toArray)::L) H):GO P c A (⟨some d,.build ty ps.toArray,t,p,e,none⟩::rest) K L H:=
 GO.val hN rfl (fun a w Y h _=>by
  subst hps
  simp only [execOp]
  have e1:(((xs.zipIdx 0).map fun x=>(x.2,x.1)).toArray.map fun (y:Nat × Operand)=>(y.1,a.eval y.2)).toList=(vs.zipIdx 0).map fun x=>(x.2,x.1):=by
   rw [Array.toList_map];exact nX h 0 hv
  have:=run_build (P:=P) w ty (((xs.zipIdx 0).map fun x=>(x.2,x.1)).toArray.map fun (y:Nat × Operand)=>(y.1,a.eval y.2)) (aA vs).toArray (by rw [e1];exact hb.out vs hs)
  rw [Sem.run_bind,this];rfl) k
theorem GO.build0 {l:List Value} [hb:B0 P ty l] (hN:Nat.blt d c.N=true)
  (k:GO P c A rest K ((d,.agg l.toArray)::L) H):GO P c A (⟨some d,.build ty #[],t,p,e,none⟩::rest) K L H:=
 GO.val hN rfl (fun a w Y h _=>by
  simp only [execOp]
  have:=run_build (P:=P) w ty #[] l.toArray hb.out
  rw [Sem.run_bind]
  simp [this,Result.andThen]) k
theorem GO.buildSlice {el n len:Nat} {xs:List Operand} {vs zl:List Value} {ps:List (Nat × Operand)} [hu:UL P ty (.slice el)] [hs:SZ P el n] [hz:ZC P el zl] (hN:Nat.blt d c.N=true) (hps:ps=(xs.zipIdx 0).map fun x=>(x.2,x.1)) (hv:Vals L xs vs) (h1:∀ v∈vs,v.cells.size=n)
  (hlen:vs.length=len) (hn:0 < len∧0 < n∧len * n≤16777216)
  (k:∀ b,GO P c A rest K ((d,.slice (some ⟨b,0,none⟩) len len)::L) (pt b (row (aA vs) el)::H)):GO P c A (⟨some d,.buildSlice ty len ps.toArray,t,p,e,none⟩::rest) K L H:=
 GO.gen hN rfl (fun v H'=>∃ b,v=.slice (some ⟨b,0,none⟩) len len∧H'=pt b (row (aA vs) el)::H)
  (fun a w Y h s=>by
   subst hps
   have hso:=hs.out
   have hzo:=hz.out
   cases hq:P.info? el with
   | none=>simp [hq] at hso
   | some ie=>
    cases hzz:ie.zero with
    | none=>simp [hq,hzz] at hzo
    | some z=>
     have hsz:ie.size=n:=by simpa [hq] using hso
     have e1:(((xs.zipIdx 0).map fun x=>(x.2,x.1)).toArray.map fun (y:Nat × Operand)=>(y.1,a.eval y.2)).toList=(vs.zipIdx 0).map fun x=>(x.2,x.1):=by
      rw [Array.toList_map];exact nX h 0 hv
     have hpp:∀ l:List Value,l.flatMap (fun v=>v.cells.toList)=aA l:=fun l=>by
      induction l with
      | nil=>rfl
      | cons v l ih=>simp [aA,ih]
     have hr:=run_buildSlice (P:=P) w ty el len (((xs.zipIdx 0).map fun x=>(x.2,x.1)).toArray.map fun (y:Nat × Operand)=>(y.1,a.eval y.2)) (aA vs).toArray ie z hu.out hq hzz (by rw [hsz];omega)
      (by rw [hsz];have:=Nat.mul_pos hn.1 hn.2.1;omega) (by
       rw [e1,hsz]
       rw [fill_whole hn.2.1 vs _ h1 (by simp [hlen]),hpp])
     refine ⟨_,_,_,?_,Same.alloc w _,⟨w.heap.size,rfl,rfl⟩,bh s _⟩
     simp only [execOp]
     rw [Sem.run_bind,hr];rfl)
  (by rintro _ _ ⟨b,rfl,rfl⟩;exact k b)
theorem GO.build1 {sizes:List Nat} {x1:Operand} {v1:Value} [hb:BLD P ty sizes] (hN:Nat.blt d c.N=true) (h1:evl L x1=some v1) (hs:[v1].map (fun v=>v.cells.size)=sizes)
  (k:GO P c A rest K ((d,.agg (aA [v1]).toArray)::L) H):GO P c A (⟨some d,.build ty #[(0,x1)],t,p,e,none⟩::rest) K L H:=
 GO.build (xs:=[x1]) (vs:=[v1]) (ps:=[(0,x1)]) hN rfl ⟨h1,trivial⟩ hs k
theorem GO.build2 {sizes:List Nat} {x1 x2:Operand} {v1 v2:Value} [hb:BLD P ty sizes] (hN:Nat.blt d c.N=true) (h1:evl L x1=some v1) (h2:evl L x2=some v2) (hs:[v1,v2].map (fun v=>v.cells.size)=sizes)
  (k:GO P c A rest K ((d,.agg (aA [v1,v2]).toArray)::L) H):GO P c A (⟨some d,.build ty #[(0,x1),(1,x2)],t,p,e,none⟩::rest) K L H:=
 GO.build (xs:=[x1,x2]) (vs:=[v1,v2]) (ps:=[(0,x1),(1,x2)]) hN rfl ⟨h1,h2,trivial⟩ hs k
theorem GO.build3 {sizes:List Nat} {x1 x2 x3:Operand} {v1 v2 v3:Value} [hb:BLD P ty sizes] (hN:Nat.blt d c.N=true) (h1:evl L x1=some v1) (h2:evl L x2=some v2) (h3:evl L x3=some v3) (hs:[v1,v2,v3].map (fun v=>v.cells.size)=sizes)
  (k:GO P c A rest K ((d,.agg (aA [v1,v2,v3]).toArray)::L) H):GO P c A (⟨some d,.build ty #[(0,x1),(1,x2),(2,x3)],t,p,e,none⟩::rest) K L H:=
 GO.build (xs:=[x1,x2,x3]) (vs:=[v1,v2,v3]) (ps:=[(0,x1),(1,x2),(2,x3)]) hN rfl ⟨h1,h2,h3,trivial⟩ hs k
theorem GO.buildSlice1 {el n len:Nat} {zl:List Value} {x1:Operand} {v1:Value} [hu:UL P ty (.slice el)] [hs:SZ P el n] [hz:ZC P el zl] (hN:Nat.blt d c.N=true) (h1:evl L x1=some v1) (hw:∀ v∈[v1],v.cells.size=n) (hlen:len=1) (hn:0 < n∧n≤1000000)
  (k:∀ b,GO P c A rest K ((d,.slice (some ⟨b,0,none⟩) len len)::L) (pt b (row (aA [v1]) el)::H)):GO P c A (⟨some d,.buildSlice ty len #[(0,x1)],t,p,e,none⟩::rest) K L H:=
 GO.buildSlice (xs:=[x1]) (vs:=[v1]) (ps:=[(0,x1)]) hN rfl ⟨h1,trivial⟩ hw hlen.symm (by subst hlen;omega) k
theorem GO.buildSlice2 {el n len:Nat} {zl:List Value} {x1 x2:Operand} {v1 v2:Value} [hu:UL P ty (.slice el)] [hs:SZ P el n] [hz:ZC P el zl] (hN:Nat.blt d c.N=true) (h1:evl L x1=some v1) (h2:evl L x2=some v2) (hw:∀ v∈[v1,v2],v.cells.size=n) (hlen:len=2) (hn:0 < n∧n≤1000000)
  (k:∀ b,GO P c A rest K ((d,.slice (some ⟨b,0,none⟩) len len)::L) (pt b (row (aA [v1,v2]) el)::H)):GO P c A (⟨some d,.buildSlice ty len #[(0,x1),(1,x2)],t,p,e,none⟩::rest) K L H:=
 GO.buildSlice (xs:=[x1,x2]) (vs:=[v1,v2]) (ps:=[(0,x1),(1,x2)]) hN rfl ⟨h1,h2,trivial⟩ hw hlen.symm (by subst hlen;omega) k
theorem GO.buildSlice3 {el n len:Nat} {zl:List Value} {x1 x2 x3:Operand} {v1 v2 v3:Value} [hu:UL P ty (.slice el)] [hs:SZ P el n] [hz:ZC P el zl] (hN:Nat.blt d c.N=true) (h1:evl L x1=some v1) (h2:evl L x2=some v2) (h3:evl L x3=some v3) (hw:∀ v∈[v1,v2,v3],v.cells.size=n) (hlen:len=3) (hn:0 < n∧n≤1000000)
  (k:∀ b,GO P c A rest K ((d,.slice (some ⟨b,0,none⟩) len len)::L) (pt b (row (aA [v1,v2,v3]) el)::H)):GO P c A (⟨some d,.buildSlice ty len #[(0,x1),(1,x2),(2,x3)],t,p,e,none⟩::rest) K L H:=
 GO.buildSlice (xs:=[x1,x2,x3]) (vs:=[v1,v2,v3]) (ps:=[(0,x1),(1,x2),(2,x3)]) hN rfl ⟨h1,h2,h3,trivial⟩ hw hlen.symm (by subst hlen;omega) k
theorem GO.buildSlice4 {el n len:Nat} {zl:List Value} {x1 x2 x3 x4:Operand} {v1 v2 v3 v4:Value} [hu:UL P ty (.slice el)] [hs:SZ P el n] [hz:ZC P el zl] (hN:Nat.blt d c.N=true) (h1:evl L x1=some v1) (h2:evl L x2=some v2) (h3:evl L x3=some v3) (h4:evl L x4=some v4) (hw:∀ v∈[v1,v2,v3,v4],v.cells.size=n) (hlen:len=4) (hn:0 < n∧n≤1000000)
  (k:∀ b,GO P c A rest K ((d,.slice (some ⟨b,0,none⟩) len len)::L) (pt b (row (aA [v1,v2,v3,v4]) el)::H)):GO P c A (⟨some d,.buildSlice ty len #[(0,x1),(1,x2),(2,x3),(3,x4)],t,p,e,none⟩::rest) K L H:=
 GO.buildSlice (xs:=[x1,x2,x3,x4]) (vs:=[v1,v2,v3,v4]) (ps:=[(0,x1),(1,x2),(2,x3),(3,x4)]) hN rfl ⟨h1,h2,h3,h4,trivial⟩ hw hlen.symm (by subst hlen;omega) k
end rules
end
section
def EqR (P:Program) (d:Nat) (t:TypeId) (x y:Value) (r:Bool):Prop:=∀ w,(Op.equalIn d t x y).run P w=.ok r w
class EG (P:Program) (t:TypeId):Prop where out:P.eqGuardType P.depth t=false
class SH (P:Program) (t:TypeId):Prop where out:P.stoodInHeld t=false
theorem EqR.int {P:Program} {d:Nat} {t:TypeId} {k k':IntKind} {a b:Int} [h:UL P t (.int k')]:EqR P (d+1) t (.int k a) (.int k b) (decide (a=b)):=fun w=>by
 rw [run_equalIn_int w d t k k' a b h.out];rfl
theorem EqR.bool {P:Program} {d:Nat} {t:TypeId} {a b:Bool} [h:UL P t .bool]:EqR P (d+1) t (.bool a) (.bool b) (a == b):=fun w=>run_equalIn_bool' w d t a b h.out
theorem EqR.str {P:Program} {d:Nat} {t:TypeId} {a b:ByteArray} [h:UL P t .string]:EqR P (d+1) t (.string a) (.string b) (a.toList == b.toList):=fun w=>run_equalIn_string w d t a b h.out
theorem gd {P:Program} {t:TypeId} {ds:TypeDesc} [hu:UL P t ds] (hd:ds.isRow=false) {l:List Value} {j:Nat} {v:Value} (h:l[j]?=some v) (w:World):(part t l.toArray j).run P w=.ok v w:=by
 simp [part,Sem.run_bind,eY,hd,Result.andThen,h]
section rules
variable {P:Program} {c:Cx} {A:Array Oper} {rest:List Oper} {K:aY} {L:Env} {H:List HP} {t:TypeId} {p:String} {e:Array Edge}
variable {d:Nat} {ty ty':TypeId} {x y:Operand}
theorem GO.eqlA {l l':Array Value} {r:Bool} [hg:EG P ty] (h:EqR P 10000 ty (.agg l) (.agg l') r) (hN:Nat.blt d c.N=true) (hx:evl L x=some (.agg l)) (hy:evl L y=some (.agg l'))
  (k:GO P c A rest K ((d,.bool r)::L) H):GO P c A (⟨some d,.binOp .eql ty x y ty',t,p,e,none⟩::rest) K L H:=
 GO.val hN rfl (fun a w Y hh _=>by
  simp only [execOp,hh.eval hx,hh.eval hy]
  simp only [Sem.run_bind,run_eqGuard_agg w .eql ty x y l l' hg.out,Result.andThen_ok,run_eql_struct,h w,Sem.run_pure]) k
theorem GO.neqA {l l':Array Value} {r:Bool} [hg:EG P ty] (h:EqR P 10000 ty (.agg l) (.agg l') r) (hN:Nat.blt d c.N=true) (hx:evl L x=some (.agg l)) (hy:evl L y=some (.agg l'))
  (k:GO P c A rest K ((d,.bool (!r))::L) H):GO P c A (⟨some d,.binOp .neq ty x y ty',t,p,e,none⟩::rest) K L H:=
 GO.val hN rfl (fun a w Y hh _=>by
  simp only [execOp,hh.eval hx,hh.eval hy]
  simp only [Sem.run_bind,run_eqGuard_agg w .neq ty x y l l' hg.out,Result.andThen_ok,run_neq_struct,h w,Sem.run_pure]) k
theorem GO.neqB {b b':Bool} [hu:UL P ty .bool] (hN:Nat.blt d c.N=true) (hx:evl L x=some (.bool b)) (hy:evl L y=some (.bool b'))
  (k:GO P c A rest K ((d,.bool (!(b == b')))::L) H):GO P c A (⟨some d,.binOp .neq ty x y ty',t,p,e,none⟩::rest) K L H:=
 GO.val hN rfl (fun a w Y hh _=>by
  simp only [execOp,hh.eval hx,hh.eval hy]
  have:=(EqR.bool:EqR P 10000 ty (.bool b) (.bool b') _) w
  simp [Sem.run_bind,eqGuard,binOp,Op.equal,Op.maxDepth,this,Result.andThen]) k
theorem GO.eqT {k1:IntKind} {m n:Int} (hN:Nat.blt d c.N=true) (hx:evl L x=some (.int k1 m)) (hy:evl L y=some (.int k1 n)) (h:m=n)
  (k:GO P c A rest K ((d,.bool true)::L) H):GO P c A (⟨some d,.binOp .eql ty x y ty',t,p,e,none⟩::rest) K L H:=
 GO.bin hN hx hy (by simp [mN,h]) k
theorem GO.neF {k1:IntKind} {m n:Int} (hN:Nat.blt d c.N=true) (hx:evl L x=some (.int k1 m)) (hy:evl L y=some (.int k1 n)) (h:m=n)
  (k:GO P c A rest K ((d,.bool false)::L) H):GO P c A (⟨some d,.binOp .neq ty x y ty',t,p,e,none⟩::rest) K L H:=
 GO.bin hN hx hy (by simp [mN,h]) k
end rules
end
section
attribute [local irreducible] pt init
def own (el:TypeId) (sz n:Nat) (v:Value) (xs:List Value):HP:=exs fun (o:Option (Nat × Nat × List Value))=>match o with
 | none=>pur (v=.slice none 0 0∧n=0∧xs=[])
 | some (b,cap,rest)=>aL [pur (v=.slice (some ⟨b,0,none⟩) n cap∧xs.length=n * sz∧n≤cap∧cap≤maxLen∧(xs++rest).length=cap * sz),pt b (row (xs++rest) el)]
section
variable {P:Program} {c:Cx} {A:Array Oper} {os:List Oper} {K:aY} {L:Env} {H:List HP}
theorem GO.imp {H':List HP} (h:∀ l w,sat (H++l) w→sat (H'++l) w) (k:GO P c A os K L H'):GO P c A os K L H:=by
 rintro a w ⟨h1,h2,ds,h3,h4,h5⟩
 exact k a w ⟨h1,h2,ds,h3,h4,h _ _ h5⟩
theorem G.imp {x:Code} {H':List HP} (h:∀ l w,sat (H++l) w→sat (H'++l) w) (k:G P c x K L H'):G P c x K L H:=by
 rintro a w ⟨h1,h2,ds,h3,h4,h5⟩
 exact k a w ⟨h1,h2,ds,h3,h4,h _ _ h5⟩
theorem GO.own_open {el:TypeId} {sz n:Nat} {v:Value} {xs:List Value} {F:List HP} (tk:Tk (own el sz n v xs) H F)
  (k0:v=.slice none 0 0→n=0→xs=[]→GO P c A os K L F)
  (k:∀ b cap rest,v=.slice (some ⟨b,0,none⟩) n cap→xs.length=n * sz→n≤cap→cap≤maxLen→(xs++rest).length=cap * sz→GO P c A os K L (pt b (row (xs++rest) el)::F)):GO P c A os K L H:=by
 refine GO.take tk (GO.exs fun o=>?_)
 match o with
 | none=>exact GO.pur fun ⟨a,b,d⟩=>k0 a b d
 | some (b,cap,rest)=>exact GO.flat (GO.pur fun ⟨a1,a2,a3,a4,a5⟩=>k b cap rest a1 a2 a3 a4 a5)
theorem dM {el:TypeId} {sz n b cap:Nat} {v:Value} {xs rest:List Value} (hv:v=.slice (some ⟨b,0,none⟩) n cap) (hx:xs.length=n * sz) (hn:n≤cap) (hc:cap≤maxLen) (hl:(xs++rest).length=cap * sz) {l:List HP} {w:World}
  (s:sat (pt b (row (xs++rest) el)::l) w):sat (own el sz n v xs::l) w:=by
 unfold own
 exact cH.2 ⟨some (b,cap,rest),aJ.2 (bF.2 ⟨⟨hv,hx,hn,hc,hl⟩,s⟩)⟩
theorem lE {el:TypeId} {sz:Nat} {l:List HP} {w:World} (s:sat l w):sat (own el sz 0 (.slice none 0 0) []::l) w:=by
 unfold own
 exact cH.2 ⟨none,bF.2 ⟨⟨rfl,rfl,rfl⟩,s⟩⟩
theorem oD (w:World) (t ty e:TypeId) (i:TypeInfo) (z:Value) (size bytes:Nat) (ht:P.underlying t=some (.slice e)) (hi:P.info? e=some i) (hz:i.zero=some z)
  (hsize:i.size=size) (hby:i.bytes=bytes) (hzs:z.cells.size=size) (hsz:0 < size)
  {v:Value} {n:Nat} {xs:List Value} {l:List HP} (s:sat (own e size n v xs::l) w)
  (a:Addr) (m c:Nat) (news:List Value) (hl:news.length=m * size) (hnews:∀ j u,news[j]?=some u→w.cell? (a.add j)=some u) (h1:∀ u∈news,u.oneCell'=true)
  (h63:n+m≤maxLen) (hbytes:(n+m) * bytes≤140737488355328) (hm:0 < m) :
  ∃ v' w',(Builtin.append_ #[t,t] ty #[v,.slice (some a) m c]).run P w=.ok v' w'∧Same w w'∧sat (own e size (n+m) v' (xs++news)::l) w':=by
 subst hsize
 subst hby
 have hsmall:n+m≤9223372036854775807:=by simp only [maxLen] at h63;omega
 unfold own at s
 obtain ⟨o,s⟩:=cH.1 s
 match o,s with
 | none,s=>
  obtain ⟨⟨rfl,rfl,rfl⟩,s0⟩:=bF.1 s
  clear s
  have hr:=run_append_nil (P:=P) w t ty e i z ht hi hz a m c news hl hnews hm (by omega) (by rw [Nat.zero_add] at hbytes;omega)
  have hge:=grownCap_ge w m 0 e
  have hcm:grownCap w m 0 e≤maxLen:=grownCap_le_maxLen w m 0 e (by omega)
  refine ⟨_,_,hr,Same.trans (Same.drawn _ (Nat.le_add_right _ _)) (Same.alloc _ _),?_⟩
  have s2:=bh (w:=w.drew) (fD s0 rfl) (.cells (news.toArray++Builtin.zeroCells z.cells (grownCap w m 0 e - m)) e)
  have e1:(Obj.cells (news.toArray++Builtin.zeroCells z.cells (grownCap w m 0 e - m)) e)=row (([]++news)++(Builtin.zeroCells z.cells (grownCap w m 0 e - m)).toList) e:=by
   unfold row;congr 1;apply Array.ext';simp
  rw [e1] at s2 ⊢
  refine dM (cap:=grownCap w m 0 e) (by rw [Nat.zero_add];rfl) (by simp [hl]) (by omega) hcm ?_ s2
  simp only [List.nil_append,List.length_append,Array.length_toList,size_zeroCells,hzs,hl,← Nat.add_mul]
  congr 1;omega
 | some (b,cap,rest),s=>
  obtain ⟨⟨rfl,hx,hn,hc,hlen⟩,s0⟩:=bF.1 (aJ.1 s)
  clear s
  have hg:w.heap[b]?=some (row (xs++rest) e):=aT s0
  by_cases hroom:n+m≤cap
  ·have hsz2:(n+m) * i.size≤cap * i.size:=Nat.mul_le_mul_right _ hroom
   rw [Nat.add_mul] at hsz2
   rw [List.length_append] at hlen
   have hr:=run_append_room (P:=P) w t ty e i ht hi b n cap (xs++rest).toArray hg a m c news hl hnews h1 hroom (by simp only [List.size_toArray,List.length_append];omega)
   have e1:((xs++rest).toArray.toList.take (n * i.size)++news++(xs++rest).toArray.toList.drop (n * i.size+news.length))=(xs++news)++rest.drop news.length:=by
    rw [List.toList_toArray,← hx,List.take_left,List.drop_append,List.drop_of_length_le (by omega)]
    simp
   rw [e1] at hr
   refine ⟨_,_,hr,⟨rfl,rfl,rfl,by simp [World.setRow],Nat.le_refl _⟩,?_⟩
   refine dM (cap:=cap) rfl (by rw [List.length_append,hx,hl,Nat.add_mul]) hroom hc ?_ (bE s0 (setRow_heap w b _ _ e _ hg) (fun k hk=>setRow_other w b k _ hk))
   simp only [List.length_append,List.length_drop];omega
  ·have holds:∀ j u,xs[j]?=some u→w.cell? ((⟨b,0,none⟩:Addr).add j)=some u:=fun j u hj=>by
    rw [cL,Nat.zero_add]
    simp only [World.cell?,hg,row]
    have hjl:j < xs.length:=(List.getElem?_eq_some_iff.1 hj).1
    simp [List.getElem?_append_left hjl,hj]
   have hr:=run_append_grow (P:=P) w t ty e i z ht hi hz ⟨b,0,none⟩ n cap xs hx holds a m c news hl hnews (by omega) (by omega) (growslice_fits (by omega) hbytes)
   have hge:=grownCap_ge w (n+m) cap e
   have hcm:grownCap w (n+m) cap e≤maxLen:=grownCap_le_maxLen w (n+m) cap e h63
   have e1:(Obj.cells (xs.toArray++news.toArray++Builtin.zeroCells z.cells (grownCap w (n+m) cap e - (n+m))) e)=row ((xs++news)++(Builtin.zeroCells z.cells (grownCap w (n+m) cap e - (n+m))).toList) e:=by
    unfold row;congr 1;apply Array.ext';simp
   rw [e1] at hr
   have s2:sat (l) w:=cx (l:=[pt b (row (xs++rest) e)]) s0
   have s3:=bh (w:=w.drew) (fD s2 rfl) (row ((xs++news)++(Builtin.zeroCells z.cells (grownCap w (n+m) cap e - (n+m))).toList) e)
   refine ⟨_,_,hr,Same.trans (Same.drawn _ (Nat.le_add_right _ _)) (Same.alloc _ _),?_⟩
   refine dM (cap:=grownCap w (n+m) cap e) rfl (by rw [List.length_append,hx,hl,Nat.add_mul]) (by omega) hcm ?_ s3
   simp only [List.length_append,Array.length_toList,size_zeroCells,hzs,hx,hl,← Nat.add_mul]
   congr 1;omega
variable {rest:List Oper} {t:TypeId} {p:String} {e:Array Edge} {d:Nat}
theorem GO.appendOwn {el at1:TypeId} {sz by_ n m c2 b2:Nat} {zl xs news:List Value} {T:TypeId} {v:Value} {x y:Operand} {F F2:List HP} [hu:UL P at1 (.slice el)] [hs:SZ P el sz] [hb:BY P el by_] [hz:ZC P el zl]
  (hN:Nat.blt d c.N=true) (hx:evl L x=some v) (hy:evl L y=some (.slice (some ⟨b2,0,none⟩) m c2)) (tk:Tk (own el sz n v xs) H F) (tk2:Tk (pt b2 (row news T)) F F2)
  (hl:news.length=m * sz) (h1:∀ u∈news,u.oneCell'=true) (hsz:0 < sz∧zl.length=sz) (hm:0 < m) (h63:n+m≤maxLen) (hbytes:(n+m) * by_≤140737488355328)
  (k:∀ v',GO P c A rest K ((d,v')::L) (own el sz (n+m) v' (xs++news)::F)):GO P c A (⟨some d,.call ⟨.builtin .append,#[x,y],#[at1,at1]⟩,t,p,e,none⟩::rest) K L H:=
 GO.gen hN rfl (fun v' H'=>H'=own el sz (n+m) v' (xs++news)::F)
  (fun a w Y h s=>by
   have hso:=hs.out
   have hzo:=hz.out
   have hbo:=hb.out
   cases hq:P.info? el with
   | none=>simp [hq] at hso
   | some ie=>
    cases hzz:ie.zero with
    | none=>simp [hq,hzz] at hzo
    | some z=>
     have hsz2:ie.size=sz:=by simpa [hq] using hso
     have hby:ie.bytes=by_:=by simpa [hq] using hbo
     have hzl:z.cells.toList=zl:=by simpa [hq,hzz] using hzo
     have s1:sat (own el sz n v xs::(F++Y)) w:=ai (List.Perm.append_right Y tk) s
     have s2:sat (pt b2 (row news T)::(F2++Y)) w:=ai (List.Perm.append_right Y tk2) (cx (l:=[own el sz n v xs]) s1)
     have hg:=aT s2
     obtain ⟨v',w',hr,hsame,hsat⟩:=oD (P:=P) w at1 t el ie z sz by_ hu.out hq hzz hsz2 hby (by rw [← Array.length_toList,hzl];exact hsz.2) hsz.1 s1 ⟨b2,0,none⟩ m c2 news hl (fun j u hj=>by
      rw [cL,Nat.zero_add];simp only [World.cell?,hg,row];simp [hj]) h1 h63 hbytes hm
     refine ⟨v',w',_,?_,hsame,rfl,hsat⟩
     simp only [execOp,resolve,invoke,builtin]
     simp [Sem.run_bind,Result.andThen,h.eval hx,h.eval hy,hr])
  (by rintro v' _ rfl;exact k v')
theorem GO.lenOwn {el at1:TypeId} {sz n:Nat} {xs:List Value} {v:Value} {x:Operand} {F:List HP} [hu:UL P at1 (.slice el)] (hN:Nat.blt d c.N=true) (hx:evl L x=some v) (tk:Tk (own el sz n v xs) H F)
  (k:GO P c A rest K ((d,.int .i64 (n:Int))::L) H):GO P c A (⟨some d,.call ⟨.builtin .len,#[x],#[at1]⟩,t,p,e,none⟩::rest) K L H:=
 GO.val hN rfl (fun a w Y h s=>by
  have s1:sat (own el sz n v xs::(F++Y)) w:=ai (List.Perm.append_right Y tk) s
  have:∃ ba cap,v=.slice ba n cap:=by
   unfold own at s1
   obtain ⟨o,s1⟩:=cH.1 s1
   match o,s1 with
   | none,s1=>obtain ⟨⟨rfl,rfl,_⟩,_⟩:=bF.1 s1;exact ⟨_,_,rfl⟩
   | some (b,cap,rest),s1=>obtain ⟨⟨rfl,_⟩,_⟩:=bF.1 (aJ.1 s1);exact ⟨_,_,rfl⟩
  obtain ⟨ba,cap,rfl⟩:=this
  simp only [execOp,resolve,invoke,builtin]
  simp [Sem.run_bind,Result.andThen,Builtin.len_,h.eval hx,run_underlying hu.out,goInt]) k
theorem bK {el:TypeId} {sz n:Nat} {v:Value} {xs:List Value} {l:List HP} {w:World} (s:sat (own el sz n v xs::l) w) :
  (v=.slice none 0 0∧n=0∧xs=[]∧sat l w)∨∃ b cap rest,v=.slice (some ⟨b,0,none⟩) n cap∧xs.length=n * sz∧n≤cap∧cap≤maxLen∧(xs++rest).length=cap * sz∧sat (pt b (row (xs++rest) el)::l) w:=by
 unfold own at s
 obtain ⟨o,s⟩:=cH.1 s
 match o,s with
 | none,s=>obtain ⟨⟨h1,h2,h3⟩,s⟩:=bF.1 s;exact .inl ⟨h1,h2,h3,s⟩
 | some (b,cap,rest),s=>obtain ⟨⟨h1,h2,h3,h4,h5⟩,s⟩:=bF.1 (aJ.1 s);exact .inr ⟨b,cap,rest,h1,h2,h3,h4,h5,s⟩
theorem GO.ownIn {b n:Nat} {xs:List Value} {T:TypeId} {sz:Nat} {F:List HP} (tk:Tk (pt b (row xs T)) H F) (hx:xs.length=n * sz) (hn:n≤maxLen)
  (k:GO P c A os K L (own T sz n (.slice (some ⟨b,0,none⟩) n n) xs::F)):GO P c A os K L H:=
 GO.take tk (GO.imp (H':=own T sz n (.slice (some ⟨b,0,none⟩) n n) xs::F) (fun l w s=>dM (rest:=[]) rfl hx (Nat.le_refl _) hn (by simpa using hx) (by simpa using s)) k)
theorem G.ownNil {T:TypeId} {sz:Nat} {C:Code} (k:G P c C K L (own T sz 0 (.slice none 0 0) []::H)):G P c C K L H:=G.imp (fun _ _ s=>lE s) k
theorem GO.ownNil {T:TypeId} {sz:Nat} (k:GO P c A os K L (own T sz 0 (.slice none 0 0) []::H)):GO P c A os K L H:=GO.imp (fun _ _ s=>lE s) k
theorem GO.ownShut {el:TypeId} {b n cap sz:Nat} {v:Value} {xs rest':List Value} {F:List HP} (hv:v=.slice (some ⟨b,0,none⟩) n cap) (hx:xs.length=n * sz) (hn:n≤cap) (hc:cap≤maxLen) (hl:(xs++rest').length=cap * sz)
  (k:GO P c A os K L (own el sz n v xs::F)):GO P c A os K L (pt b (row (xs++rest') el)::F):=
 GO.imp (H':=own el sz n v xs::F) (fun _ _ s=>dM hv hx hn hc hl s) k
theorem GO.cutOwn {ty el:TypeId} {sz n h:Nat} {kk:IntKind} {i:Int} {xs:List Value} {v:Value} {x y:Operand} {F:List HP} [hu:UL P ty (.slice el)] [hs:SZ P el sz] (hN:Nat.blt d c.N=true) (hx:evl L x=some v) (hy:evl L y=some (.int kk i)) (hi:i=(h:Int)∧h≤n) (tk:Tk (own el sz n v xs) H F)
  (k:∀ v',GO P c A rest K ((d,v')::L) (own el sz h v' (xs.take (h * sz))::F)):GO P c A (⟨some d,.slice ty x none (some y) none,t,p,e,none⟩::rest) K L H:=
 GO.gen hN rfl (fun v' H'=>H'=own el sz h v' (xs.take (h * sz))::F)
  (fun a w Y hh s=>by
   have s1:sat (own el sz n v xs::(F++Y)) w:=ai (List.Perm.append_right Y tk) s
   obtain ⟨rfl,hh2⟩:=hi
   rcases bK s1 with ⟨rfl,rfl,rfl,s2⟩ | ⟨b,cap,rest',rfl,h1,h2,h3,h4,s2⟩
   ·have:h=0:=by omega
    subst this
    refine ⟨.slice none 0 0,w,_,?_,Same.refl w,rfl,by simpa using lE s2⟩
    simp only [execOp,hh.eval hx,Option.map_none,Option.map_some,hh.eval hy]
    simp [Instr.sliceAt,Instr.slice,Sem.run_bind,run_underlying hu.out,Instr.sliceBounds,run_sliceBound,bJ,Result.andThen]
   ·refine ⟨.slice (some ⟨b,0,none⟩) h cap,w,_,?_,Same.refl w,rfl,?_⟩
    ·simp only [execOp,hh.eval hx,Option.map_none,Option.map_some,hh.eval hy]
     have hle:(h:Int)≤cap:=by omega
     have e0:(⟨b,0,none⟩:Addr).add 0=⟨b,0,none⟩:=cL b 0 0
     simp [Instr.sliceAt,Instr.slice,Sem.run_bind,run_underlying hu.out,Instr.sliceBounds,run_sliceBound w _ _ _ _ (Int.natCast_nonneg h) hle,bJ,Result.andThen,e0]
    ·refine dM (rest:=xs.drop (h * sz)++rest') rfl ?_ (by omega) h3 ?_ ?_
     ·rw [List.length_take,h1,Nat.min_eq_left (Nat.mul_le_mul_right _ hh2)]
     ·rw [← List.append_assoc,List.take_append_drop];exact h4
     ·rw [← List.append_assoc,List.take_append_drop];exact s2)
  (by rintro v' _ rfl;exact k v')
def dp (l:List Int):List Value:=l.map i64
theorem rU (l:List Int):(dp l).length=l.length:=by simp [dp]
theorem zo {l:List Int} {j:Nat} {n:Int} (h:l[j]?=some n):(dp l)[j]?=some (i64 n):=by simp [dp,h]
theorem G.loop2 {α β:Type} {x:Code} (S:α→β→Env) (M:α→β→List HP) (I:α→β→Prop) (μ:α→β→Nat) (a0:α) (b0:β) (h0:I a0 b0) (hL:SubE (S a0 b0) L) (hH:Sb (M a0 b0) H)
  (round:∀ a b,I a b→G P c x (cF (fun L' H'=>∃ a' b',I a' b'∧μ a' b' < μ a b∧SubE (S a' b') L'∧Sb (M a' b') H') K) (S a b) (M a b)):G P c (.loop x) K L H:=
 G.loop (fun s:α × β=>S s.1 s.2) (fun s=>M s.1 s.2) (fun s=>I s.1 s.2) (fun s=>μ s.1 s.2) (a0,b0) h0 hL hH (fun s hI=>G.mono (round s.1 s.2 hI) (fun e L' H' h=>by
  cases e with
  | normal=>obtain ⟨a',b',h⟩:=h;exact ⟨(a',b'),h⟩
  | _=>exact h))
theorem G.loop3 {α β γ:Type} {x:Code} (S:α→β→γ→Env) (M:α→β→γ→List HP) (I:α→β→γ→Prop) (μ:α→β→γ→Nat) (a0:α) (b0:β) (d0:γ) (h0:I a0 b0 d0) (hL:SubE (S a0 b0 d0) L) (hH:Sb (M a0 b0 d0) H)
  (round:∀ a b d,I a b d→G P c x (cF (fun L' H'=>∃ a' b' d',I a' b' d'∧μ a' b' d' < μ a b d∧SubE (S a' b' d') L'∧Sb (M a' b' d') H') K) (S a b d) (M a b d)):G P c (.loop x) K L H:=
 G.loop (fun s:α × β × γ=>S s.1 s.2.1 s.2.2) (fun s=>M s.1 s.2.1 s.2.2) (fun s=>I s.1 s.2.1 s.2.2) (fun s=>μ s.1 s.2.1 s.2.2) (a0,b0,d0) h0 hL hH (fun s hI=>G.mono (round s.1 s.2.1 s.2.2 hI) (fun e L' H' h=>by
  cases e with
  | normal=>obtain ⟨a',b',d',h⟩:=h;exact ⟨(a',b',d'),h⟩
  | _=>exact h))
theorem G.loop4 {α β γ δ:Type} {x:Code} (S:α→β→γ→δ→Env) (M:α→β→γ→δ→List HP) (I:α→β→γ→δ→Prop) (μ:α→β→γ→δ→Nat) (a0:α) (b0:β) (d0:γ) (e0:δ) (h0:I a0 b0 d0 e0) (hL:SubE (S a0 b0 d0 e0) L) (hH:Sb (M a0 b0 d0 e0) H)
  (round:∀ a b d e,I a b d e→G P c x (cF (fun L' H'=>∃ a' b' d' e',I a' b' d' e'∧μ a' b' d' e' < μ a b d e∧SubE (S a' b' d' e') L'∧Sb (M a' b' d' e') H') K) (S a b d e) (M a b d e)):G P c (.loop x) K L H:=
 G.loop (fun s:α × β × γ × δ=>S s.1 s.2.1 s.2.2.1 s.2.2.2) (fun s=>M s.1 s.2.1 s.2.2.1 s.2.2.2) (fun s=>I s.1 s.2.1 s.2.2.1 s.2.2.2) (fun s=>μ s.1 s.2.1 s.2.2.1 s.2.2.2) (a0,b0,d0,e0) h0 hL hH (fun s hI=>G.mono (round s.1 s.2.1 s.2.2.1 s.2.2.2 hI) (fun e L' H' h=>by
  cases e with
  | normal=>obtain ⟨a',b',d',e',h⟩:=h;exact ⟨(a',b',d',e'),h⟩
  | _=>exact h))
def ImpS (H M:List HP):Prop:=∀ l w,sat (H++l) w→sat (M++l) w
theorem ImpS.sb {H M:List HP} (h:Sb M H):ImpS H M:=fun _ _ s=>(Sb.app h).sat s
theorem ImpS.refl {H:List HP}:ImpS H H:=fun _ _ s=>s
theorem ImpS.trans {H M N:List HP} (h:ImpS H M) (k:ImpS M N):ImpS H N:=fun l w s=>k l w (h l w s)
theorem ImpS.exs {α:Type} {q:α→HP} {H M:List HP} (x:α) (h:ImpS H (q x::M)):ImpS H (Go.Proofs.YtkeialpeabhaaaaGreat.exs q::M):=fun l w s=>cH.2 ⟨x,h l w s⟩
theorem ImpS.pur {φ:Prop} {H M:List HP} (h1:φ) (h:ImpS H M):ImpS H (Go.Proofs.YtkeialpeabhaaaaGreat.pur φ::M):=fun l w s=>bF.2 ⟨h1,h l w s⟩
theorem ImpS.flat {k H M:List HP} (h:ImpS H (k++M)):ImpS H (aL k::M):=fun l w s=>aJ.2 (by have:=h l w s;rw [List.append_assoc] at this;exact this)
theorem ImpS.cons {x:HP} {H M F:List HP} (tk:Tk x H F) (h:ImpS F M):ImpS H (x::M):=fun l w s=>by
 have s1:sat (x::(F++l)) w:=ai (List.Perm.append_right l tk) s
 have s2:sat (F++(x::l)) w:=ai List.perm_middle.symm s1
 exact ai List.perm_middle (h (x::l) w s2)
theorem ImpS.own {el:TypeId} {b n cap sz:Nat} {v:Value} {xs rest':List Value} {H M:List HP} (hv:v=.slice (some ⟨b,0,none⟩) n cap) (hx:xs.length=n * sz) (hn:n≤cap) (hc:cap≤maxLen) (hl:(xs++rest').length=cap * sz)
  (h:ImpS H (pt b (row (xs++rest') el)::M)):ImpS H (Go.Proofs.YtkeialpeabhaaaaGreat.own el sz n v xs::M):=fun l w s=>dM hv hx hn hc hl (h l w s)
theorem St.imp {L':Env} {H':List HP} {a:Act} {w:World} (h:St c L H a w) (hL:SubE L' L) (hH:ImpS H H'):St c L' H' a w:=by
 obtain ⟨h1,h2,ds,h3,h4,h5⟩:=h
 exact ⟨h1.sub hL,h2,ds,h3,h4,hH _ _ h5⟩
theorem G.subI {x:Code} {L':Env} {H':List HP} (hL:SubE L' L) (hH:ImpS H H') (k:G P c x K L' H'):G P c x K L H:=fun a w h=>k a w (St.imp h hL hH)
theorem G.loopI {σ:Type} {x:Code} (S:σ→Env) (M:σ→List HP) (I:σ→Prop) (μ:σ→Nat) (s0:σ) (h0:I s0) (hL:SubE (S s0) L) (hH:ImpS H (M s0))
  (round:∀ s,I s→G P c x (cF (fun L' H'=>∃ s',I s'∧μ s' < μ s∧SubE (S s') L'∧ImpS H' (M s')) K) (S s) (M s)):G P c (.loop x) K L H:=by
 intro a w hs b k cs hro hb hr
 have key:∀ j s a w,μ s=j→I s→St c (S s) (M s) a w →
   ∃ e a' w',gK c K e a' w'∧ArrivesIn (Machine.fenced P (fen c.r)) P (lone (b.atR a (.code x::.inLoop x::k)) cs w) b k cs e a' w':=by
  intro j
  induction j using Nat.strongRecOn with
  | _ j ih=>
   intro s a w hn hI hs
   obtain ⟨e,a₁,w₁,⟨L',H',s1,hq⟩,harr⟩:=round s hI a w hs b (.inLoop x::k) cs hro hb hr
   cases e with
   | normal=>
    obtain ⟨s',hI',hlt,hL',hH'⟩:=hq
    obtain ⟨e₂,a₂,w₂,hq₂,harr₂⟩:=ih (μ s') (hn ▸ hlt) s' a₁ w₁ rfl hI' (St.imp s1 hL' hH')
    exact ⟨e₂,a₂,w₂,hq₂,.of_steps (StepsIn.trans harr (.one (fenced_calm hb hr rfl) stepR_inLoop)) harr₂⟩
   | exit id=>exact ⟨_,a₁,w₁,⟨L',H',s1,hq⟩,.pass (x:=.inLoop x) rfl (fun _ _=>.inl (by simp)) harr⟩
   | goto l=>exact ⟨_,a₁,w₁,⟨L',H',s1,hq⟩,.pass (x:=.inLoop x) rfl (fun _ _=>.inl (by simp)) harr⟩
   | ret=>exact ⟨_,a₁,w₁,⟨L',H',s1,hq⟩,.pass (x:=.inLoop x) rfl (fun _ _=>.inl (by simp)) harr⟩
   | panic ch=>exact ⟨_,a₁,w₁,⟨L',H',s1,hq⟩,.pass (x:=.inLoop x) rfl (fun _ _=>.inl (by simp)) harr⟩
   | outgrown=>exact ⟨_,a₁,w₁,⟨L',H',s1,hq⟩,.pass (x:=.inLoop x) rfl (fun _ _=>.inl (by simp)) harr⟩
 obtain ⟨e,a',w',hq,harr⟩:=key _ s0 a w rfl h0 (St.imp hs hL hH)
 exact ⟨e,a',w',hq,.of_steps (.one (fenced_calm hb hr rfl) stepR_loop) harr⟩
end
end
section
attribute [local irreducible] pt init exs pur
def NxOk (P:Program):Next→World→(Ending→World→Prop)→Prop
 | .enter f as,w,Φ=>CallsIn Fence.wide 0 P f as w Φ
 | .round l f t x y,w,Φ=>RoundIn Fence.wide 0 P l f t x y w Φ
 | _,_,_=>False
def FnV (P:Program) (v:Value) (args:List Value) (Pre:List HP) (R:Value→List HP→Prop):Prop:=
 ∃ fn caps,v=.func fn #[] caps∧∀ F w,sat (Pre++F) w→∃ nx,(invoke (.fn fn caps) args.toArray).run P w=.ok nx w∧NxOk P nx w (Ret w F R)
theorem FnV.of {P:Program} {f:FuncId} [hc:Cal P f] {args caps:List Value} {Pre:List HP} {R:Value→List HP→Prop} (h:Fn P f (args++caps).toArray Pre R):FnV P (.func (.func f) #[] caps.toArray) args Pre R:=
 ⟨_,_,rfl,fun F w s=>⟨.enter f (args++caps).toArray,by simp [invoke,hc.out],h F w s⟩⟩
theorem NxOk.mono {P:Program} {nx:Next} {w:World} {Φ Ψ:Ending→World→Prop} (h:NxOk P nx w Φ) (k:∀ e w',Φ e w'→Ψ e w'):NxOk P nx w Ψ:=by
 cases nx with
 | enter f as=>exact CallsIn.mono h k
 | round l f t x y=>exact RoundIn.mono h k
 | _=>exact h.elim
theorem iM {r:Option Nat} {P:Program} {l:Nat} {f:FuncId} {t:Array Value} {x y:Code} {w:World} {R:Ending→World→Prop} (h:RoundIn Fence.wide 0 P l f t x y w R):RoundIn (fen r) 0 P l f t x y w R:=h
section rules
variable {P:Program} {c:Cx} {A:Array Oper} {rest:List Oper} {K:aY} {L:Env} {H F:List HP} {t:TypeId} {p:String} {e:Array Edge} {vs:List Value} {d:Nat}
theorem GO.callVG {dst:Option Nat} {x:Operand} {v0:Value} {xs:List Operand} {ats:Array TypeId} {Pre:List HP} {R:Value→List HP→Prop} (hN:(match dst with | some d=>Nat.blt d c.N | none=>true)=true)
  (hx:evl L x=some v0) (hv:Vals L xs vs) (spec:FnV P v0 vs Pre R) (tk:Tks Pre H F)
  (k:∀ v Q,R v Q→GO P c A rest K (match dst with | some d=>(d,v)::L | none=>L) (Q++F)):GO P c A (⟨dst,.call ⟨.value x,xs.toArray,ats⟩,t,p,e,none⟩::rest) K L H:=by
 rintro a w ⟨h1,h2,D,h3,h4,h5⟩
 obtain ⟨fn,caps,rfl,spec⟩:=spec
 have s1:sat (Pre++(F++(c.X++D.map cA))) w:=by
  rw [← List.append_assoc];exact ai (List.Perm.append_right _ tk) h5
 obtain ⟨nx,hrun,hnx⟩:=spec _ w s1
 have hargs:xs.toArray.map a.eval=vs.toArray:=by simp [Vals.map h1 hv]
 have hex:(execOp a.eval ⟨dst,.call ⟨.value x,xs.toArray,ats⟩,t,p,e,none⟩).run P w=.ok nx w:=by
  have he:=h1.eval hx
  have hf:(#[]:Array Value)++vs.toArray=vs.toArray:=by simp
  simp only [execOp,resolve,hargs,he,Deferred.ofValue,Sem.run_bind,Sem.run_pure,Result.andThen_ok,hf,hrun]
 simp only [cQ,Region.wanted,if_true]
 rw [df _ _ _ rfl,hex]
 have fin:∀ en w',Ret w (F++(c.X++D.map cA)) R en w'→∃ v,en=.returned v∧cQ (fen c.r) P A (gK c K) rest (a.put dst v) w':=by
  rintro en w' ⟨v,Q,rfl,hs,hR,hq⟩
  refine ⟨v,rfl,k v Q hR _ w' ⟨?_,h2.trans hs,D,?_,h4,?_⟩⟩
  ·cases dst with
   | none=>simpa [Act.put] using h1
   | some d=>exact h1.put hN
  ·cases dst <;> simpa [Act.put] using h3
  ·rw [List.append_assoc];exact hq
 cases nx with
 | enter f as=>
  refine ⟨fun h=>by simp [fen,Fence.wide] at h,dA ?_⟩
  refine CallsIn.mono hnx fun en w' hr=>?_
  obtain ⟨v,rfl,h⟩:=fin en w' hr
  exact h
 | round l f t x y=>
  refine ⟨fun h=>by simp [fen,Fence.wide] at h,iM ?_⟩
  refine RoundIn.mono hnx fun en w' hr=>?_
  obtain ⟨v,rfl,h⟩:=fin en w' hr
  exact h
 | _=>exact hnx.elim
theorem GO.callV1 {x x1:Operand} {v0 v1:Value} {ats:Array TypeId} {Pre:List HP} {R:Value→List HP→Prop} (hN:Nat.blt d c.N=true) (hx:evl L x=some v0) (h1:evl L x1=some v1) (spec:FnV P v0 [v1] Pre R) (tk:Tks Pre H F)
  (k:∀ v Q,R v Q→GO P c A rest K ((d,v)::L) (Q++F)):GO P c A (⟨some d,.call ⟨.value x,#[x1],ats⟩,t,p,e,none⟩::rest) K L H:=
 GO.callVG (dst:=some d) (xs:=[x1]) (vs:=[v1]) hN hx ⟨h1,trivial⟩ spec tk k
theorem GO.callV2 {x x1 x2:Operand} {v0 v1 v2:Value} {ats:Array TypeId} {Pre:List HP} {R:Value→List HP→Prop} (hN:Nat.blt d c.N=true) (hx:evl L x=some v0) (h1:evl L x1=some v1) (h2:evl L x2=some v2) (spec:FnV P v0 [v1,v2] Pre R) (tk:Tks Pre H F)
  (k:∀ v Q,R v Q→GO P c A rest K ((d,v)::L) (Q++F)):GO P c A (⟨some d,.call ⟨.value x,#[x1,x2],ats⟩,t,p,e,none⟩::rest) K L H:=
 GO.callVG (dst:=some d) (xs:=[x1,x2]) (vs:=[v1,v2]) hN hx ⟨h1,h2,trivial⟩ spec tk k
theorem GO.makeFunc {f:Go.Fn} {xs:List Operand} (hN:Nat.blt d c.N=true) (hv:Vals L xs vs)
  (k:GO P c A rest K ((d,.func f #[] vs.toArray)::L) H):GO P c A (⟨some d,.makeFunc f #[] xs.toArray,t,p,e,none⟩::rest) K L H:=
 GO.val hN rfl (fun a w Y h _=>by
  have hargs:xs.toArray.map a.eval=vs.toArray:=by simp [Vals.map h hv]
  simp [execOp,hargs,Instr.makeFunc,Result.andThen]) k
theorem GO.makeFunc1 {f:Go.Fn} {x1:Operand} {v1:Value} (hN:Nat.blt d c.N=true) (h1:evl L x1=some v1)
  (k:GO P c A rest K ((d,.func f #[] #[v1])::L) H):GO P c A (⟨some d,.makeFunc f #[] #[x1],t,p,e,none⟩::rest) K L H:=
 GO.makeFunc (xs:=[x1]) (vs:=[v1]) hN ⟨h1,trivial⟩ k
theorem GO.makeFunc2 {f:Go.Fn} {x1 x2:Operand} {v1 v2:Value} (hN:Nat.blt d c.N=true) (h1:evl L x1=some v1) (h2:evl L x2=some v2)
  (k:GO P c A rest K ((d,.func f #[] #[v1,v2])::L) H):GO P c A (⟨some d,.makeFunc f #[] #[x1,x2],t,p,e,none⟩::rest) K L H:=
 GO.makeFunc (xs:=[x1,x2]) (vs:=[v1,v2]) hN ⟨h1,h2,trivial⟩ k
end rules
def SeqOK (P:Program) (g:Value) (xs:List (List Value)) (Sh Gm:List HP):Prop:=
 ∃ gf caps,g=.func (.func gf) #[] caps∧Cal P gf∧∀ (y:Value) (J X:Nat→List HP),
  (∀ i u,xs[i]?=some u→FnV P y u (J i++Sh) (fun v Q=>(v=.bool true∧Q=J (i+1)++Sh)∨(v=.bool false∧Q=X i++Sh))) →
  Fn P gf (#[y]++caps) (J 0++(Sh++Gm)) (fun _ Q=>Q=J xs.length++(Sh++Gm)∨∃ i,i < xs.length∧Q=X i++(Sh++Gm))
def cC (fn:FuncId) (tmps:Array Value) (ps:Array Tmp) (x y:Code) (D:Nat) (st:LoopState) (pe:Option Code):Loop:={ state:=st,pending:=pe,fn,tmps,params:=ps,assign:=x,body:=y,defers:=D }
def qF:List Nat→List Value→Env→Env
 | p::ps,v::vs,L=>qF ps vs ((p,v)::L)
 | _,_,L=>L
theorem xU {N:Nat} {ds:List Deferred}:∀ (ps:List Nat) (vs:List Value) (L:Env) (t:Array Value),(ps.all fun p=>Nat.blt p N)=true→At N L { tmps:=t,defers:=ds } →
  At N (qF ps vs L) { tmps:=(ps.zip vs).foldl (fun t (p,v)=>t.setIfInBounds p v) t,defers:=ds }
 | [],_,_,_,_,h=>by simpa [qF] using h
 | _::_,[],_,_,_,h=>by simpa [qF] using h
 | p::ps,v::vs,L,t,hp,h=>by
  simp only [List.all_cons,Bool.and_eq_true] at hp
  simp only [qF,List.zip_cons_cons,List.foldl_cons]
  exact xU ps vs _ _ hp.2 (h.put (d:=p) (v:=v) hp.1)
theorem At.defs {N:Nat} {L:Env} {a:Act} {ds:List Deferred} (h:At N L a):At N L { a with defers:=ds }:=h
section
variable {P:Program} {N:Nat} {l:Nat} {fn:FuncId} {tmps:Array Value} {psl:List Nat} {x y:Code} {D:Nat} {L:Env} {Sh:List HP}
def KB (J:List HP) (X:Code→List HP) (Sh F:List HP):aY
 | .normal,_,H=>ImpS H (J++Sh++F)
 | .ret,_,H=>ImpS H (X .ret++Sh++F)
 | .exit id,_,H=>ImpS H (X (.exit id)++Sh++F)
 | .goto t,_,H=>ImpS H (X (.goto t)++Sh++F)
 | _,_,_=>False
def KA (P:Program) (c:Cx) (y:Code) (K:aY):aY
 | .normal,L,H=>G P c y K L H
 | _,_,_=>False
theorem FnV.yield {us:List Value} {J J':List HP} {X:Code→List HP} (hN:(psl.all fun p=>Nat.blt p N)=true) (hlen:us.length=psl.length) (ha:∀ ds,At N L { tmps:=tmps,defers:=ds })
  (walk:∀ w0 F,G P ⟨some l,N,w0,[pt l (.loop (cC fn tmps psl.toArray x y D .ready none))],[],false⟩ x (KA P ⟨some l,N,w0,[pt l (.loop (cC fn tmps psl.toArray x y D .busy none))],[],false⟩ y (KB J' X Sh F)) (qF psl us L) (J++Sh++F)) :
  FnV P (.func (.yield l) #[] #[]) us ((pt l (.loop (cC fn tmps psl.toArray x y D .ready none))::J)++Sh)
   (fun v Q=>(v=.bool true∧Q=(pt l (.loop (cC fn tmps psl.toArray x y D .ready none))::J')++Sh)∨(v=.bool false∧Q=[exs fun jc=>aL (pt l (.loop (cC fn tmps psl.toArray x y D .done (some jc)))::X jc)]++Sh)):=by
 refine ⟨_,_,rfl,fun F w s=>?_⟩
 have hl:=aT s
 have hy:=run_yield (P:=P) (args:=us.toArray) hl (by simp [cC,hlen])
 have hy2:(Instr.yield l us.toArray).run P w=.ok (.round l fn ((psl.zip us).foldl (fun t (p,v)=>t.setIfInBounds p v) tmps) x y) w:=by
  rw [hy]
  show Result.ok (Next.round l fn ((psl.toArray.zip us.toArray).foldl (fun t (p,v)=>t.setIfInBounds p v) tmps) x y) w=_
  rw [← Array.foldl_toList];simp
 refine ⟨_,by simp only [invoke];exact hy2,?_⟩
 show RoundIn Fence.wide 0 P l _ _ _ _ w _
 refine roundIn_of_wpIn trivial ?_
 have hat:At N (qF psl us L) { tmps:=(psl.zip us).foldl (fun t (x:Nat × Value)=>t.setIfInBounds x.1 x.2) tmps,defers:=[] }:=xU psl us L tmps hN (ha [])
 have s1:sat ((J++Sh++F)++([pt l (.loop (cC fn tmps psl.toArray x y D .ready none))]++([]:List Nat).map cA)) w:=by
  refine ai ?_ s
  simp only [List.map_nil,List.append_nil,List.cons_append,List.append_assoc]
  exact (List.perm_append_singleton _ _).symm.trans (by simp)
 have g:=walk w F { tmps:=(psl.zip us).foldl (fun t (x:Nat × Value)=>t.setIfInBounds x.1 x.2) tmps,defers:=[] } w ⟨hat,Same.refl w,[],rfl,fun _=>rfl,s1⟩
 refine wpIn_mono g ?_
 rintro e1 a1 w1 ⟨L1,H1,⟨hat1,hsm1,ds1,hd1,hr1,hs1⟩,k1⟩
 cases e1 <;> try exact k1.elim
 have hds1:ds1=[]:=hr1 rfl
 subst hds1
 have s2:sat (pt l (.loop (cC fn tmps psl.toArray x y D .ready none))::H1) w1:=by
  simp only [List.map_nil,List.append_nil] at hs1
  exact ai (List.perm_append_singleton _ _) hs1
 have hl1:=aT s2
 refine ⟨_,run_beginRound hl1 rfl,?_⟩
 have s3:sat (pt l (.loop (cC fn tmps psl.toArray x y D .busy none))::H1) (w1.putObj l (.loop (cC fn tmps psl.toArray x y D .busy none))):=
  bE s2 (World.putObj_heap_same (Array.getElem?_eq_some_iff.1 hl1).1) (fun k hk=>World.putObj_heap_other hk)
 have s3':sat (H1++([pt l (.loop (cC fn tmps psl.toArray x y D .busy none))]++([]:List Nat).map cA)) (w1.putObj l (.loop (cC fn tmps psl.toArray x y D .busy none))):=by
  simp only [List.map_nil,List.append_nil]
  exact ai (List.perm_append_singleton _ _).symm s3
 refine wpIn_mono (k1 a1 _ ⟨hat1,hsm1.trans (Same.putObj _ _ _),[],hd1,fun _=>rfl,s3'⟩) ?_
 rintro e2 a2 w2 ⟨L2,H2,⟨hat2,hsm2,ds2,hd2,hr2,hs2⟩,k2⟩
 have hds2:ds2=[]:=hr2 rfl
 subst hds2
 have s4:sat (pt l (.loop (cC fn tmps psl.toArray x y D .busy none))::H2) w2:=by
  simp only [List.map_nil,List.append_nil] at hs2
  exact ai (List.perm_append_singleton _ _) hs2
 have hl2:=aT s4
 have fin:∀ (jc:Code),ImpS H2 (X jc++Sh++F)→∃ v w',(Instr.endRound l (some jc)).run P w2=.ok v w'∧Ret w F (fun v Q=>(v=.bool true∧Q=(pt l (.loop (cC fn tmps psl.toArray x y D .ready none))::J')++Sh)∨(v=.bool false∧Q=[exs fun jc=>aL (pt l (.loop (cC fn tmps psl.toArray x y D .done (some jc)))::X jc)]++Sh)) (.returned v) w':=by
  intro jc hsb
  refine ⟨_,_,run_endRound (some jc) hl2,.bool false,[exs fun jc=>aL (pt l (.loop (cC fn tmps psl.toArray x y D .done (some jc)))::X jc)]++Sh,rfl,hsm2.trans (Same.putObj _ _ _),.inr ⟨rfl,rfl⟩,?_⟩
  have s5:=bE s4 (World.putObj_heap_same (o:=.loop (cC fn tmps psl.toArray x y D .done (some jc))) (Array.getElem?_eq_some_iff.1 hl2).1) (fun k hk=>World.putObj_heap_other hk)
  change sat _ (w2.putObj l (.loop (cC fn tmps psl.toArray x y D .done (some jc))))
  refine cH.2 ⟨jc,aJ.2 ?_⟩
  have h6:ImpS (pt l (.loop (cC fn tmps psl.toArray x y D .done (some jc)))::H2) (pt l (.loop (cC fn tmps psl.toArray x y D .done (some jc)))::(X jc++Sh++F)):=ImpS.cons Tk.h hsb
  have:=h6 [] _ (by simpa using s5)
  simpa using this
 cases e2 with
 | normal=>
  refine ⟨_,_,run_endRound none hl2,.bool true,(pt l (.loop (cC fn tmps psl.toArray x y D .ready none))::J')++Sh,rfl,hsm2.trans (Same.putObj _ _ _),.inl ⟨rfl,rfl⟩,?_⟩
  have s5:=bE s4 (World.putObj_heap_same (o:=.loop (cC fn tmps psl.toArray x y D .ready none)) (Array.getElem?_eq_some_iff.1 hl2).1) (fun k hk=>World.putObj_heap_other hk)
  have h6:ImpS (pt l (.loop (cC fn tmps psl.toArray x y D .ready none))::H2) (pt l (.loop (cC fn tmps psl.toArray x y D .ready none))::(J'++Sh++F)):=ImpS.cons Tk.h k2
  have:=h6 [] _ (by simpa using s5)
  change sat _ (w2.putObj l (.loop (cC fn tmps psl.toArray x y D .ready none)))
  simpa using this
 | ret=>exact fin .ret k2
 | exit id=>exact fin (.exit id) k2
 | goto t=>exact fin (.goto t) k2
 | panic ch=>exact k2.elim
 | outgrown=>exact k2.elim
end
theorem G.rangeF {P:Program} {c:Cx} {K:aY} {L:Env} {H F:List HP} {g:Operand} {psl:List Nat} {x y:Code} {v:Value} {xs:List (List Value)} {Sh Gm:List HP} (J:Nat→List HP) (X:Nat→Code→List HP)
  (hX:∀ l0,c.r=some l0→∃ r0 X',c.X=pt l0 (.loop r0)::X') (hN:(psl.all fun p=>Nat.blt p c.N)=true) (hlen:∀ u∈xs,u.length=psl.length)
  (hg:evl L g=some v) (seq:SeqOK P v xs Sh Gm) (tk:Tks (J 0++(Sh++Gm)) H F)
  (round:∀ l Lr Lb w0 F i u,xs[i]?=some u→G P ⟨some l,c.N,w0,[pt l (.loop Lr)],[],false⟩ x (KA P ⟨some l,c.N,w0,[pt l (.loop Lb)],[],false⟩ y (KB (J (i+1)) (X i) Sh F)) (qF psl u L) (J i++Sh++F))
  (done:K .normal L (J xs.length++(Sh++Gm)++F))
  (stop:∀ i jc,i < xs.length→G P c jc K L (X i jc++(Sh++Gm)++F)) (hnd:c.nd=false:=by rfl):G P c (.rangeFunc g psl.toArray x y) K L H:=by
 rintro a w ⟨h1,h2,ds,h3,h4,h5⟩
 obtain ⟨gf,caps,rfl,hcal,seq⟩:=seq
 have tk:H.Perm (J 0++(Sh++Gm)++F):=tk
 refine wpIn_rangeFunc fun fn _=>?_
 have hge:=h1.eval hg
 have main:∀ (l D:Nat) (ms:List Nat) (w1:World),(Instr.enterLoop fn a.tmps psl.toArray x y (fen c.r).round).run P w=.ok (l,ms.map dX) w1→Same w w1→((c.r.isSome || c.nd)=true→ms=[]) →
   sat (pt l (.loop (cC fn a.tmps psl.toArray x y D .ready none))::(H++(c.X++(ms++ds).map cA))) w1 →
   ∃ (l:Nat) (dX:List Deferred) (w₁:World) (d:Deferred) (w₁':World) (f:FuncId) (args:Array Value) (w₂:World),
   (Instr.enterLoop fn a.tmps psl.toArray x y (fen c.r).round).run P w=.ok (l,dX) w₁ ∧
   (resolve a.eval (rangeCall g l) 0).run P w₁=.ok d w₁' ∧
   (∀ f',Target.leads P w₁' d.target d.args=some f'→(fen c.r).fn f') ∧
   (invoke d.target d.args).run P w₁'=.ok (.enter f args) w₂ ∧
   ((fen c.r).depth.isSome=true→1≤0) ∧
   CallsIn (fen c.r) (0 - 1) P f args w₂ (rangePost (fen c.r) 0 P l (gK c K) { a with defers:=dX++a.defers }):=by
  intro l D ms w1 hent hsame hms hsat
  refine ⟨l,ms.map dX,w1,{ target:=.fn (.func gf) caps,args:=#[.func (.yield l) #[] #[]] },w1,gf,#[.func (.yield l) #[] #[]]++caps,w1,hent,?_,fun _ _=>trivial,?_,fun h=>by simp [fen,Fence.wide] at h,?_⟩
  ·have hcv:a.eval (.const (.func (.yield l) #[] #[]))=.func (.yield l) #[] #[]:=rfl
   simp [resolve,hge,Deferred.ofValue,hcv]
  ·simp [invoke,hcal.out]
  ·have hd2:ms.map dX++a.defers=(ms++ds).map dX++c.D:=by rw [h3,List.map_append,List.append_assoc]
   have hr2:(c.r.isSome || c.nd)=true→ms++ds=[]:=fun h=>by rw [hms h,h4 h];rfl
   have s0:sat ((pt l (.loop (cC fn a.tmps psl.toArray x y D .ready none))::J 0)++(Sh++Gm)++(F++(c.X++(ms++ds).map cA))) w1:=by
    refine ai ?_ hsat
    simp only [List.cons_append]
    refine List.Perm.cons _ ?_
    have:=List.Perm.append_right (c.X++(ms++ds).map cA) tk
    simpa only [List.append_assoc] using this
   have hc:=seq (.func (.yield l) #[] #[]) (fun i=>pt l (.loop (cC fn a.tmps psl.toArray x y D .ready none))::J i) (fun i=>[Go.Proofs.YtkeialpeabhaaaaGreat.exs fun jc=>aL (pt l (.loop (cC fn a.tmps psl.toArray x y D .done (some jc)))::X i jc)])
    (fun i u hu=>FnV.yield (J':=J (i+1)) (X:=X i) hN (hlen u (List.mem_of_getElem? hu)) (fun ds=>h1.defs (ds:=ds)) (fun w0 F=>round l _ _ w0 F i u hu))
   refine dA ((hc _ w1 s0).mono ?_)
   rintro en w2 ⟨r,Q,rfl,hsm,hQ,hq⟩
   rcases hQ with rfl | ⟨i,hi,rfl⟩
   ·have hl2:=aT hq
    refine ⟨none,_,run_endLoop hl2 (by simp [cC]),L,J xs.length++(Sh++Gm)++F,⟨h1.defs,(h2.trans hsame).trans (hsm.trans (Same.putObj _ _ _)),ms++ds,hd2,hr2,?_⟩,done⟩
    have s5:=bE hq (World.putObj_heap_same (o:=.loop { (cC fn a.tmps psl.toArray x y D .ready none) with state:=.exhausted }) (Array.getElem?_eq_some_iff.1 hl2).1) (fun k hk=>World.putObj_heap_other hk)
    have:=cx (l:=[pt l _]) s5
    simpa using this
   ·obtain ⟨jc,hq⟩:=cH.1 (by simpa using hq)
    have hq:=aJ.1 hq
    have hl2:=aT hq
    refine ⟨some jc,_,run_endLoop hl2 (by simp [cC]),?_⟩
    refine stop i jc hi _ _ ⟨h1.defs,(h2.trans hsame).trans (hsm.trans (Same.putObj _ _ _)),ms++ds,hd2,hr2,?_⟩
    have s5:=bE hq (World.putObj_heap_same (o:=.loop { (cC fn a.tmps psl.toArray x y D .done (some jc)) with state:=.exhausted }) (Array.getElem?_eq_some_iff.1 hl2).1) (fun k hk=>World.putObj_heap_other hk)
    have:=cx (l:=[pt l _]) s5
    simpa using this
 cases hr:c.r with
 | none=>
  rw [hr] at main
  refine main (w.heap.size+1) w.heap.size [w.heap.size] _ (run_enterLoop_outer _ _ _ _ _) ((Same.alloc _ _).trans (Same.alloc _ _)) (fun h=>by simp [hnd] at h) ?_
  have s1:=bh h5 (.deferred (some []))
  have s2:=bh s1 (.loop (cC fn a.tmps psl.toArray x y w.heap.size .ready none))
  rw [World.size_alloc] at s2
  refine ai (List.Perm.cons _ ?_) s2
  simp only [List.cons_append,List.nil_append,List.map_cons]
  have e1:(cA w.heap.size::(H++(c.X++ds.map cA))).Perm (H++(cA w.heap.size::(c.X++ds.map cA))):=List.perm_middle.symm
  exact e1.trans (List.Perm.append_left H List.perm_middle.symm)
 | some l0=>
  obtain ⟨r0,X',hX'⟩:=hX l0 hr
  rw [hr] at main
  have hl0:w.heap[l0]?=some (.loop r0):=by
   rw [hX'] at h5
   have:sat (pt l0 (.loop r0)::(H++(X'++ds.map cA))) w:=ai (by simp only [List.cons_append];exact List.perm_middle) h5
   exact aT this
  refine main w.heap.size r0.defers [] _ (run_enterLoop_inner hl0 _ _ _ _ _) (Same.alloc _ _) (fun _=>rfl) ?_
  exact bh h5 _
end
section
attribute [local irreducible] pt init exs pur own
def Sl (q:HP) (v:Value) (n sz:Nat) (l:List Value):Prop:=
 ∃ a cap,v=.slice a n cap∧l.length=n * sz∧(0 < n→∃ b o,a=some ⟨b,o,none⟩∧∀ j u,l[j]?=some u→Rd q ⟨b,o+j,none⟩ u)
section
variable {P:Program} {c:Cx} {A:Array Oper} {rest:List Oper} {K:aY} {L:Env} {H:List HP} {t:TypeId} {p:String} {e:Array Edge} {d:Nat}
theorem wy (w:World) {at1 t el:TypeId} {sz by_ n m:Nat} {zl xs news:List Value} {v v2:Value} {q:HP} {l:List HP} [hu:UL P at1 (.slice el)] [hs:SZ P el sz] [hb:BY P el by_] [hz:ZC P el zl]
  (hq:Sl q v2 m sz news) (h1:∀ u∈news,u.oneCell'=true) (hsz:0 < sz∧zl.length=sz) (h63:n+m≤maxLen) (hbytes:(n+m) * by_≤140737488355328)
  (s:sat (own el sz n v xs::q::l) w):∃ v' w',(Builtin.append_ #[at1,at1] t #[v,v2]).run P w=.ok v' w'∧Same w w'∧sat (own el sz (n+m) v' (xs++news)::q::l) w':=by
 have hso:=hs.out
 have hzo:=hz.out
 have hbo:=hb.out
 obtain ⟨a2,c2,rfl,hlen,hrd⟩:=hq
 cases hqq:P.info? el with
 | none=>simp [hqq] at hso
 | some ie=>
  cases hzz:ie.zero with
  | none=>simp [hqq,hzz] at hzo
  | some z=>
   have hsz2:ie.size=sz:=by simpa [hqq] using hso
   have hby:ie.bytes=by_:=by simpa [hqq] using hbo
   have hzl:z.cells.toList=zl:=by simpa [hqq,hzz] using hzo
   by_cases hm:0 < m
   ·obtain ⟨b2,o2,rfl,hr⟩:=hrd hm
    have s2:sat (q::(own el sz n v xs::l)) w:=ai (List.Perm.swap _ _ _) s
    obtain ⟨v',w',hrun,hsame,hsat⟩:=oD (P:=P) w at1 t el ie z sz by_ hu.out hqq hzz hsz2 hby (by rw [← Array.length_toList,hzl];exact hsz.2) hsz.1 s ⟨b2,o2,none⟩ m c2 news hlen (fun j u hj=>by
     rw [cL];exact hr j u hj _ w s2) h1 h63 hbytes hm
    exact ⟨v',w',hrun,hsame,hsat⟩
   ·have h0:m=0:=by omega
    subst h0
    have hn0:news=[]:=List.eq_nil_of_length_eq_zero (by omega)
    subst hn0
    have hsrc:Src P ie.size at1 (.slice a2 0 c2) 0 [] w:=by
     cases a2 with
     | none=>exact Src.ofNil w hu.out c2
     | some a=>exact Src.ofSlice w hu.out a 0 c2 [] (by simp) (by simp) (by simp)
    rw [List.append_nil,Nat.add_zero]
    rcases bK s with ⟨rfl,rfl,rfl,_⟩ | ⟨b,cap,rest',rfl,_,h2,_⟩
    ·exact ⟨_,w,run_append_nothing w at1 at1 t el ie hu.out hqq none 0 0 (Nat.le_refl _) _ hsrc,Same.refl w,s⟩
    ·exact ⟨_,w,run_append_nothing w at1 at1 t el ie hu.out hqq (some ⟨b,0,none⟩) n cap h2 _ hsrc,Same.refl w,s⟩
theorem GO.appendFrom {el at1:TypeId} {sz n m by_:Nat} {zl xs news:List Value} {v v2:Value} {x y:Operand} {q:HP} {F F2:List HP} [hu:UL P at1 (.slice el)] [hs:SZ P el sz] [hb:BY P el by_] [hz:ZC P el zl]
  (hN:Nat.blt d c.N=true) (hx:evl L x=some v) (hy:evl L y=some v2) (tk:Tk (own el sz n v xs) H F) (tk2:Tk q F F2)
  (hq:Sl q v2 m sz news) (h1:∀ u∈news,u.oneCell'=true) (hsz:0 < sz∧zl.length=sz) (h63:n+m≤maxLen) (hbytes:(n+m) * by_≤140737488355328)
  (k:∀ v',GO P c A rest K ((d,v')::L) (own el sz (n+m) v' (xs++news)::F)):GO P c A (⟨some d,.call ⟨.builtin .append,#[x,y],#[at1,at1]⟩,t,p,e,none⟩::rest) K L H:=
 GO.gen hN rfl (fun v' H'=>H'=own el sz (n+m) v' (xs++news)::F)
  (fun a w Y h s=>by
   have s1:sat (own el sz n v xs::q::(F2++Y)) w:=by
    have h2:H.Perm (own el sz n v xs::q::F2):=tk.trans (List.Perm.cons _ tk2)
    exact ai (List.Perm.append_right Y h2) s
   obtain ⟨v',w',hrun,hsame,hsat⟩:=wy (P:=P) w (t:=t) (at1:=at1) hq h1 hsz h63 hbytes s1
   refine ⟨v',w',_,?_,hsame,rfl,?_⟩
   ·simp only [execOp,resolve,invoke,builtin]
    simp [Sem.run_bind,Result.andThen,h.eval hx,h.eval hy,hrun]
   ·have h3:(own el sz (n+m) v' (xs++news)::q::F2).Perm (own el sz (n+m) v' (xs++news)::F):=List.Perm.cons _ tk2.symm
    exact ai (List.Perm.append_right Y h3) hsat)
  (by rintro v' _ rfl;exact k v')
theorem GO.buildSlice0 {ty el:TypeId} {n:Nat} [hu:UL P ty (.slice el)] [hs:SZ P el n] (hN:Nat.blt d c.N=true)
  (k:∀ v,GO P c A rest K ((d,v)::L) (own el n 0 v []::H)):GO P c A (⟨some d,.buildSlice ty 0 #[],t,p,e,none⟩::rest) K L H:=
 GO.gen hN rfl (fun v H'=>H'=own el n 0 v []::H)
  (fun a w Y h s=>by
   have hso:=hs.out
   cases hq:P.info? el with
   | none=>simp [hq] at hso
   | some ie=>
    refine ⟨_,_,_,?_,Same.alloc w (row [] el),rfl,dM (rest:=[]) rfl (by simp) (Nat.le_refl _) (Nat.zero_le _) (by simp) (bh s (row [] el))⟩
    simp only [execOp]
    simp [Instr.buildSlice,Sem.run_bind,run_underlying hu.out,sizeOf,typeInfo,hq,Result.andThen,Instr.fill,newRow,row]
    have e0:Array.range 0=#[]:=Array.eq_empty_of_size_eq_zero (by simp)
    rw [e0,Array.map_empty])
  (by rintro v _ rfl;exact k v)
theorem GO.ownRd {el:TypeId} {sz n:Nat} {v:Value} {xs:List Value} {F:List HP} {os:List Oper} (tk:Tk (own el sz n v xs) H F) (k:∀ q,Sl q v n sz xs→GO P c A os K L (q::F)):GO P c A os K L H:=by
 refine GO.own_open tk (fun hv hn hx=>?_) (fun b cap rest' hv h1 h2 h3 h4=>?_)
 ·subst hv hn hx
  exact GO.imp (H':=Go.Proofs.YtkeialpeabhaaaaGreat.pur True::F) (fun _ _ s=>bF.2 ⟨trivial,s⟩) (k _ ⟨none,0,rfl,by simp,fun h=>absurd h (by omega)⟩)
 ·subst hv
  refine k _ ⟨_,_,rfl,h1,fun _=>⟨b,0,rfl,fun j u hj=>?_⟩⟩
  rw [Nat.zero_add]
  exact Rd.row (by rw [List.getElem?_append_left (List.getElem?_eq_some_iff.1 hj).1];exact hj)
theorem G.ownRd {el:TypeId} {sz n:Nat} {v:Value} {xs:List Value} {F:List HP} {C:Code} (tk:Tk (own el sz n v xs) H F) (k:∀ q,Sl q v n sz xs→G P c C K L (q::F)):G P c C K L H:=by
 rintro a w ⟨h1,h2,ds,h3,h4,h5⟩
 have s1:sat (own el sz n v xs::(F++(c.X++ds.map cA))) w:=ai (List.Perm.append_right _ tk) h5
 rcases bK s1 with ⟨rfl,rfl,rfl,s2⟩ | ⟨b,cap,rest',rfl,g1,_,_,_,s2⟩
 ·exact k (Go.Proofs.YtkeialpeabhaaaaGreat.pur True) ⟨none,0,rfl,by simp,fun h=>absurd h (by omega)⟩ a w ⟨h1,h2,ds,h3,h4,bF.2 ⟨trivial,s2⟩⟩
 ·refine k (pt b (row (xs++rest') el)) ⟨_,_,rfl,g1,fun _=>⟨b,0,rfl,fun j u hj=>?_⟩⟩ a w ⟨h1,h2,ds,h3,h4,s2⟩
  rw [Nat.zero_add]
  exact Rd.row (by rw [List.getElem?_append_left (List.getElem?_eq_some_iff.1 hj).1];exact hj)
def PartR (P:Program) (t:TypeId) (l:List Value) (o:Nat) (v:Value):Prop:=∀ w,(part t l.toArray o).run P w=.ok v w
theorem PartR.one {t:TypeId} {ds:TypeDesc} [hu:UL P t ds] {l:List Value} {o:Nat} {v:Value} (hd:ds.isRow=false) (h:l[o]?=some v):PartR P t l o v:=fun w=>gd hd h w
theorem PartR.many {t:TypeId} {ds:TypeDesc} {n:Nat} [hu:UL P t ds] [hs:SZ P t n] {l l':List Value} {o:Nat} (hd:ds.isRow=true) (h:(l.drop o).take n=l'):PartR P t l o (.agg l'.toArray):=fun w=>by
 subst h
 simp only [part,Sem.run_bind,eY,hd,Result.andThen_ok,bJ,if_true,Sem.run_pure]
 congr 1;congr 1
 apply Array.ext'
 simp [List.take_drop,Nat.add_comm]
def EqFs (P:Program) (d:Nat) (l l':List Value):List Field→Bool→Prop
 | [],r=>r=true
 | f::fs,r=>∃ a b q r',f.name ≠ "_" ∧ PartR P f.type l f.offset a∧PartR P f.type l' f.offset b∧EqR P d f.type a b q∧EqFs P d l l' fs r'∧r=(q && r')
theorem EqFs.run {d:Nat} {l l':List Value} (w:World):∀ {fs:List Field} {r:Bool},EqFs P d l l' fs r→(Op.eqFields d l.toArray l'.toArray fs).run P w=.ok r w
 | [],_,rfl=>by simp [Op.eqFields]
 | f::fs,r,⟨a,b,q,r',hn,ha,hb,hq,hr,e⟩=>by
  subst e
  simp only [Op.eqFields,hn,ne_eq,not_false_eq_true,if_true,Sem.run_bind,ha w,hb w,hq w,Result.andThen_ok]
  cases q
  ·simp
  ·simp [EqFs.run w hr]
theorem EqR.struct {d:Nat} {t:TypeId} {fs:Array Field} {l l':List Value} {r:Bool} [ht:UL P t (.struct fs)] [hp:SH P t] (h:EqFs P d l l' fs.toList r):EqR P (d+1) t (.agg l.toArray) (.agg l'.toArray) r:=fun w=>by
 have hf:P.fieldsOf t=fs:=by unfold Program.fieldsOf;rw [ht.out]
 rw [run_equalIn_struct w d t _ _ (by rw [hf];exact ht.out) hp.out,hf]
 exact h.run w
theorem Bc {K':aY} {y:Code} (k:G P c y K' L H):KA P c y K' .normal L H:=k
theorem zd {J Sh F:List HP} {X:Code→List HP} (k:ImpS H (J++Sh++F)):KB J X Sh F .normal L H:=k
theorem G.midB {x y:Code} {id:Nat} (S:Env) (M:List HP) (hx:G P c x (cB id (cF (fun L' H'=>SubE S L'∧ImpS H' M) K)) L H) (hy:G P c y K S M):G P c x (cB id (cF (fun L H=>G P c y K L H) K)) L H:=
 G.mono hx (fun e L' H' h=>by
  cases e with
  | normal=>exact G.subI h.1 h.2 hy
  | exit i=>
   simp only [cB] at h ⊢
   cases hb:Nat.beq i id with
   | true=>simp only [hb,cond_true] at h ⊢;exact G.subI h.1 h.2 hy
   | false=>simp only [hb,cond_false] at h ⊢;exact h
  | _=>exact h)
end
end
section
attribute [local irreducible] pt init exs pur own
def Sup (q q':HP):Prop:=∀ a v,Rd q a v→Rd q' a v
theorem Sup.left (x y:HP):Sup x (aL [x,y]):=fun a v r l w s=>by
 have:=aJ.1 s
 exact r (y::l) w this
theorem Sup.right (x y:HP):Sup y (aL [x,y]):=fun a v r l w s=>by
 have:=aJ.1 s
 exact r (x::l) w (ai (List.Perm.swap _ _ _) this)
theorem Sl.sup {q q':HP} (hs:Sup q q') {v:Value} {n sz:Nat} {l:List Value} (h:Sl q v n sz l):Sl q' v n sz l:=by
 obtain ⟨a,cap,rfl,hl,hr⟩:=h
 exact ⟨a,cap,rfl,hl,fun hn=>let ⟨b,o,e,hr⟩:=hr hn;⟨b,o,e,fun j u hj=>hs _ _ (hr j u hj)⟩⟩
section
variable {P:Program} {c:Cx} {A:Array Oper} {os:List Oper} {K:aY} {L:Env} {H F:List HP} {x y:HP} {C:Code}
theorem GO.merge (tk:Tks [x,y] H F) (k:GO P c A os K L (aL [x,y]::F)):GO P c A os K L H:=
 GO.mem (H':=x::y::F) ⟨[],by rw [List.append_nil];exact tk⟩ (GO.imp (H':=aL [x,y]::F) (fun l w s=>aJ.2 s) k)
theorem G.merge (tk:Tks [x,y] H F) (k:G P c C K L (aL [x,y]::F)):G P c C K L H:=
 G.mem (H':=x::y::F) ⟨[],by rw [List.append_nil];exact tk⟩ (G.imp (H':=aL [x,y]::F) (fun l w s=>aJ.2 s) k)
theorem ImpS.merge {M:List HP} (tk:Tks [x,y] H F) (k:ImpS (aL [x,y]::F) M):ImpS H M:=fun l w s=>by
 have s1:sat (x::y::(F++l)) w:=ai (List.Perm.append_right l tk) s
 exact k l w (aJ.2 s1)
end
end
section
def xOK (q tm:Nat) (A:Array Oper) (R:List Nat):Bool:=(List.range q).all fun i=>match A[i]? with
 | some o=>(jE o).all (fun t=>(List.range q).all fun j=>!sg A j t || ((bit R i j && Nat.blt j i) && (Nat.testBit tm i || !Nat.testBit tm j))) &&
   (match o.guard with | some (j,_)=>Nat.testBit tm i || !Nat.testBit tm j | none=>true) &&
   (!Nat.testBit tm i || (List.range i).all (fun j=>!Nat.testBit tm j || bit R i j))
 | none=>false
def tA (N q tm:Nat) (A:Array Oper):Bool:=jW N q A && xOK q tm A (qH A A.size)
def GR (P:Program) (c:Cx) (A:Array Oper) (tm:Nat):Nat→List Oper→(Env→Prop)→Env→List HP→Prop
 | _,[],k,L,_=>k L
 | i,o::os,k,L,M=>bif Nat.testBit tm i then GR P c A tm (i+1) os k L M else ∃ v,(∀ Z,GO P c A [o] (KQ (ext o.dst v L) (M++Z)) L (M++Z))∧GR P c A tm (i+1) os k (ext o.dst v L) M
def GT (P:Program) (c:Cx) (A:Array Oper) (tm:Nat) (k:Env→List HP→Prop):Nat→List Oper→Env→List HP→List HP→Prop
 | _,[],L,M,R=>k L (M++R)
 | i,o::os,L,M,R=>bif Nat.testBit tm i then GO P c A [o] (fun e L' H'=>e=.normal∧∃ v R',L'=ext o.dst v L∧ImpS H' (M++R')∧GT P c A tm k (i+1) os (ext o.dst v L) M R') L (M++R) else GT P c A tm k (i+1) os L M R
section
variable {P:Program} {c:Cx} {A:Array Oper} {os:List Oper} {tm i:Nat} {k:Env→Prop} {kk:Env→List HP→Prop} {K:aY} {L:Env} {H M R:List HP}
theorem GR.nil (h:k L):GR P c A tm i [] k L M:=h
theorem GR.skip {o:Oper} (hb:Nat.testBit tm i=true) (h:GR P c A tm (i+1) os k L M):GR P c A tm i (o::os) k L M:=by unfold GR;rw [hb];exact h
theorem GR.step {d:Nat} {op:Op} {t:TypeId} {p:String} {e:Array Edge} {g:Option (Nat × Bool)} {v:Value} (hb:Nat.testBit tm i=false) (h:∀ Z,GO P c A [⟨some d,op,t,p,e,g⟩] (KQ ((d,v)::L) (M++Z)) L (M++Z)) (r:GR P c A tm (i+1) os k ((d,v)::L) M):GR P c A tm i (⟨some d,op,t,p,e,g⟩::os) k L M:=by
 unfold GR;rw [hb];exact ⟨v,h,r⟩
theorem GT.nil (h:kk L (M++R)):GT P c A tm kk i [] L M R:=h
theorem GT.skip {o:Oper} (hb:Nat.testBit tm i=false) (h:GT P c A tm kk (i+1) os L M R):GT P c A tm kk i (o::os) L M R:=by unfold GT;rw [hb];exact h
theorem GT.step {o:Oper} (hb:Nat.testBit tm i=true) (h:GO P c A [o] (fun e L' H'=>e=.normal∧∃ v R',L'=ext o.dst v L∧ImpS H' (M++R')∧GT P c A tm kk (i+1) os (ext o.dst v L) M R') L (M++R)):GT P c A tm kk i (o::os) L M R:=by unfold GT;rw [hb];exact h
theorem GT.on {o:Oper} {v:Value} {R':List HP} {H':List HP} (hs:ImpS H' (M++R')) (h:GT P c A tm kk (i+1) os (ext o.dst v L) M R') :
  GO P c A [] (fun e L' H'=>e=.normal∧∃ v R',L'=ext o.dst v L∧ImpS H' (M++R')∧GT P c A tm kk (i+1) os (ext o.dst v L) M R') (ext o.dst v L) H':=
 GO.nil ⟨rfl,v,R',rfl,hs,h⟩
def cY (A:Array Oper) (tm:Nat) (V:Nat→Value) (L:Env):Nat→Env
 | 0=>L
 | i+1=>bif Nat.testBit tm i then cY A tm V L i else match A[i]? with | some o=>ext o.dst (V i) (cY A tm V L i) | none=>cY A tm V L i
theorem lr {V W:Nat→Value}:∀ (n:Nat),(∀ i,i < n→V i=W i)→cY A tm V L n=cY A tm W L n
 | 0,_=>rfl
 | n+1,h=>by
  unfold cY
  rw [lr n (fun i hi=>h i (by omega)),h n (by omega)]
theorem GR.get:∀ (os:List Oper) (i:Nat) (V0:Nat→Value),(∀ j o,os[j]?=some o→A[i+j]?=some o)→GR P c A tm i os k (cY A tm V0 L i) M →
  ∃ V:Nat→Value,(∀ j,j < i→V j=V0 j)∧(∀ j,i≤j→j < i+os.length→Nat.testBit tm j=false→∀ o,A[j]?=some o→∀ Z,GO P c A [o] (KQ (ext o.dst (V j) (cY A tm V L j)) (M++Z)) (cY A tm V L j) (M++Z))∧k (cY A tm V L (i+os.length))
 | [],i,V0,_,h=>⟨V0,fun _ _=>rfl,fun j h1 h2=>by simp at h2;omega,by simpa [GR] using h⟩
 | o::os,i,V0,hA,h=>by
  have hoi:A[i]?=some o:=hA 0 o rfl
  have hA':∀ j o',os[j]?=some o'→A[i+1+j]?=some o':=fun j o' hj=>by rw [show i+1+j=i+(j+1) by omega];exact hA (j+1) o' (by simpa using hj)
  unfold GR at h
  cases hb:Nat.testBit tm i with
  | true=>
   rw [hb] at h
   have h':GR P c A tm (i+1) os k (cY A tm V0 L (i+1)) M:=by
    have:cY A tm V0 L (i+1)=cY A tm V0 L i:=by simp [cY,hb]
    rw [this];exact h
   obtain ⟨V,h1,h2,h3⟩:=GR.get os (i+1) V0 hA' h'
   refine ⟨V,fun j hj=>h1 j (by omega),fun j hj1 hj2 hj3=>?_,?_⟩
   ·have:j≠i:=by intro e;subst e;rw [hb] at hj3;cases hj3
    exact h2 j (by omega) (by simp at hj2;omega) hj3
   ·rw [List.length_cons,show i+(os.length+1)=i+1+os.length by omega];exact h3
  | false=>
   rw [hb] at h
   obtain ⟨v,hv,h⟩:=h
   have e1:cY A tm (fun j=>if j=i then v else V0 j) L (i+1)=ext o.dst v (cY A tm V0 L i):=by
    simp only [cY,hb,cond_false,hoi,if_true]
    rw [lr i (V:=fun j=>if j=i then v else V0 j) (W:=V0) (fun j hj=>if_neg (by omega))]
   obtain ⟨V,h1,h2,h3⟩:=GR.get os (i+1) (fun j=>if j=i then v else V0 j) hA' (by rw [e1];exact h)
   have hVi:V i=v:=by rw [h1 i (by omega),if_pos rfl]
   have hVj:∀ j,j < i→V j=V0 j:=fun j hj=>by rw [h1 j (by omega),if_neg (by omega)]
   refine ⟨V,hVj,fun j hj1 hj2 hj3=>?_,?_⟩
   ·by_cases e:j=i
    ·subst e
     intro o' ho' Z
     rw [hoi] at ho'
     simp only [Option.some.injEq] at ho'
     subst ho'
     rw [hVi,lr j hVj]
     exact hv Z
    ·exact h2 j (by omega) (by simp at hj2;omega) hj3
   ·rw [List.length_cons,show i+(os.length+1)=i+1+os.length by omega];exact h3
theorem GT.adv:∀ (n p:Nat) (os:List Oper),(∀ j,p≤j→j < p+n→Nat.testBit tm j=false)→n≤os.length→GT P c A tm kk p os L M R→GT P c A tm kk (p+n) (os.drop n) L M R
 | 0,p,os,_,_,h=>h
 | n+1,p,[],_,hl,_=>by simp at hl
 | n+1,p,o::os,hn,hl,h=>by
  unfold GT at h
  rw [hn p (by omega) (by omega)] at h
  have:=GT.adv n (p+1) os (fun j h1 h2=>hn j (by omega) (by omega)) (by simpa using hl) h
  rw [show p+(n+1)=p+1+n by omega]
  simpa using this
theorem kr {F:Fence} {o:Oper} {a a2:Act} {w:World} {Φ:List Deferred→Value→World→Prop} (hqk:lA o.op=true) (hs:∀ s,.tmp s∈o.op.operands.toList→a.tmps[s]?=a2.tmps[s]?)
  (hg:∀ j b,o.guard=some (j,b)→∀ s,aK A j s→a.tmps[s]?=a2.tmps[s]?) (h:jo F P A o a2 w Φ):jo F P A o a w Φ:=by
 have hev:execOp a.eval o=execOp a2.eval o:=by
  refine pF hqk fun x hx=>?_
  cases x with
  | tmp s=>simp only [Act.eval];rw [Array.getD_eq_getD_getElem?,Array.getD_eq_getD_getElem?,hs s hx]
  | const v=>rfl
  | global g=>rfl
  | func f=>rfl
 have hwt:Region.wanted o (yielded A a.tmps)=Region.wanted o (yielded A a2.tmps):=by
  unfold Region.wanted
  cases hgd:o.guard with
  | none=>rfl
  | some jb=>
   obtain ⟨j,b⟩:=jb
   simp only
   congr 1
   unfold yielded
   cases hA:A[j]? with
   | none=>rfl
   | some oj=>
    simp only [Option.bind_some]
    cases hd:oj.dst with
    | none=>rfl
    | some s=>
     simp only [Option.bind_some]
     rw [hg j b hgd s ⟨oj,hA,hd⟩]
 have hnd:t9 o.op=true:=xB hqk
 unfold jo at h ⊢
 rw [hwt,df _ _ _ hnd,hev]
 rw [df _ _ _ hnd] at h
 exact h
theorem iz {q:Nat} {V:Nat→Value} (hA:q≤A.size) (ssa:∀ i j s,i < q→j < q→aK A i s→aK A j s→i=j):∀ i,i≤q →
  (∀ j s,j < i→Nat.testBit tm j=false→aK A j s→aR (cY A tm V L i) s=some (V j))∧(∀ s,(∀ j,j < i→Nat.testBit tm j=false→¬ aK A j s)→aR (cY A tm V L i) s=aR L s)
 | 0,_=>⟨fun j s hj=>by omega,fun s _=>rfl⟩
 | i+1,hi=>by
  obtain ⟨h1,h2⟩:=iz hA ssa i (by omega)
  have hiA:A[i]?=some (A[i]'(by omega)):=Array.getElem?_eq_getElem (by omega)
  cases hb:Nat.testBit tm i with
  | true=>
   have e:cY A tm V L (i+1)=cY A tm V L i:=by simp [cY,hb]
   rw [e]
   refine ⟨fun j s hj hjb hd=>h1 j s (by
    have:j≠i:=by intro e;subst e;rw [hb] at hjb;cases hjb
    omega) hjb hd,fun s hs=>h2 s fun j hj=>hs j (by omega)⟩
  | false=>
   have e:cY A tm V L (i+1)=ext (A[i]'(by omega)).dst (V i) (cY A tm V L i):=by simp only [cY,hb,cond_false,hiA]
   rw [e]
   constructor
   ·intro j s hj hjb hd
    rw [dE]
    by_cases hji:j=i
    ·subst hji
     obtain ⟨o,ho1,ho2⟩:=hd
     rw [hiA] at ho1
     simp only [Option.some.injEq] at ho1
     subst ho1
     rw [if_pos ho2]
    ·rw [if_neg (fun e=>hji (ssa j i s (by omega) (by omega) hd ⟨_,hiA,e⟩))]
     exact h1 j s (by omega) hjb hd
   ·intro s hs
    rw [dE,if_neg (fun e=>hs i (by omega) hb ⟨_,hiA,e⟩)]
    exact h2 s fun j hj=>hs j (by omega)
theorem zL {q:Nat} {m:Region.Mode} {V:Nat→Value} {RR:List Nat} {kk:Env→List HP→Prop} (ok:chk c.N q A RR=true) (xok:xOK q tm A RR=true) (tp:mh m A (lG m A) 0=true)
  (hV:∀ i,i < q→Nat.testBit tm i=false→∀ o,A[i]?=some o→∀ Z,GO P c A [o] (KQ (ext o.dst (V i) (cY A tm V L i)) (M++Z)) (cY A tm V L i) (M++Z))
  (hkk:∀ L' H',kk L' H'→GO P c A (A.toList.drop q) K L' H'):∀ (n t:Nat) (B:Array Bool) (a:Act) (w:World) (p:Nat) (Lv:Env) (R:List HP),
  B.size=A.size→lu A RR B→(List.range A.size).countP (fun i=>!B.getD i true)=n→(∀ i,q≤i→i < A.size→B.getD i true=false) →
  a.tmps.size=c.N→Same c.w0 w→(∃ ds:List Nat,a.defers=ds.map dX++c.D∧((c.r.isSome || c.nd)=true→ds=[])∧sat ((M++R)++(c.X++ds.map cA)) w) →
  p≤q→(∀ j,j < q→Nat.testBit tm j=true→(B.getD j true=true↔j < p))→GT P c A tm kk p ((A.toList.take q).drop p) Lv M R →
  (∀ j d,j < q→Nat.testBit tm j=false→aK A j d→aR Lv d=some (V j))→(∀ s,(∀ j,j < q→¬ aK A j s)→aR Lv s=aR L s) →
  (∀ s v,aR Lv s=some v→s < c.N)→(∀ s v,aR Lv s=some v→(∀ j,j < q→Nat.testBit tm j=false→B.getD j true=false→¬ aK A j s)→a.tmps[s]?=some v) →
  wpOpsIn (fen c.r) 0 P A (gK c K) (lin m A n t B) a w:=by
 have hok:=ok
 unfold chk at hok
 simp only [Bool.and_eq_true,List.all_eq_true,List.mem_range] at hok
 obtain ⟨hqb,hok⟩:=hok
 have hq:q≤A.size:=by simpa using hqb
 have hop:∀ i (hi:i < A.size),kJ c.N q A RR i A[i]=true:=fun i hi=>by have:=hok i hi;simpa [hi] using this
 have hqop:∀ i (hi:i < A.size),i < q→lA A[i].op=true∧(∀ d,A[i].dst=some d→d < c.N∧∀ j,j < q→j≠i→¬ aK A j d) ∧
   (∀ t,.tmp t∈A[i].op.operands.toList→∀ j,j < q→aK A j t→bit RR i j=true∧j < i)∧(∀ j b,A[i].guard=some (j,b)→j < q∧bit RR i j=true∧j < i):=by
  intro i hi hiq
  have h:=hop i hi
  unfold kJ at h
  have hb:Nat.blt i q=true:=by simpa using hiq
  simp only [hb,cond_true,Bool.and_eq_true] at h
  obtain ⟨_,⟨⟨h1,h2⟩,h3⟩,h4⟩:=h
  refine ⟨h1,?_,?_,?_⟩
  ·intro d hd
   rw [hd] at h2
   simp only [Bool.and_eq_true,List.all_eq_true,List.mem_range] at h2
   refine ⟨by simpa using h2.1,fun j hj hne hdj=>?_⟩
   have:=h2.2 j hj
   rw [eE hdj,lH hne] at this
   simp at this
  ·intro t ht j hj hdj
   have hx:=xok
   unfold xOK at hx
   simp only [List.all_eq_true,List.mem_range] at hx
   have hx:=hx i hiq
   simp only [hi,getElem?_pos,Bool.and_eq_true,List.all_eq_true,List.mem_range] at hx
   have:=hx.1.1 t (by unfold jE;rw [List.mem_filterMap];exact ⟨.tmp t,ht,rfl⟩) j hj
   rw [eE hdj] at this
   simp only [Bool.not_true,Bool.false_or,Bool.and_eq_true] at this
   exact ⟨this.1.1,by simpa using this.1.2⟩
  ·intro j b hg
   rw [hg] at h4
   simp only [Bool.and_eq_true] at h4
   exact ⟨by simpa using h4.1.1,h4.1.2,by simpa using h4.2⟩
 have xop:∀ i (hi:i < A.size),i < q→(∀ t,.tmp t∈A[i].op.operands.toList→∀ j,j < q→aK A j t→Nat.testBit tm i=true∨Nat.testBit tm j=false) ∧
   (∀ j b,A[i].guard=some (j,b)→Nat.testBit tm i=true∨Nat.testBit tm j=false)∧(Nat.testBit tm i=true→∀ j,j < i→Nat.testBit tm j=true→bit RR i j=true):=by
  intro i hi hiq
  have h:=xok
  unfold xOK at h
  simp only [List.all_eq_true,List.mem_range] at h
  have h:=h i hiq
  simp only [hi,getElem?_pos,Bool.and_eq_true,List.all_eq_true,List.mem_range] at h
  obtain ⟨⟨h1,h2⟩,h3⟩:=h
  refine ⟨?_,?_,?_⟩
  ·intro t ht j hj hd
   have:=h1 t (by unfold jE;rw [List.mem_filterMap];exact ⟨.tmp t,ht,rfl⟩) j hj
   rw [eE hd] at this
   simp only [Bool.not_true,Bool.false_or,Bool.and_eq_true] at this
   simpa using this.2
  ·intro j b hg
   rw [hg] at h2
   simpa using h2
  ·intro ht j hj hjt
   rw [ht] at h3
   simp only [Bool.not_true,Bool.false_or,List.all_eq_true,List.mem_range] at h3
   have:=h3 j hj
   rw [hjt] at this
   simpa using this
 have ssa:∀ i j s,i < q→j < q→aK A i s→aK A j s→i=j:=by
  intro i j s hi hj h1 h2
  by_cases hij:i=j
  ·exact hij
  ·exfalso
   obtain ⟨o,ho,hd⟩:=h1
   have hi':i < A.size:=by omega
   simp [hi'] at ho
   have:=(hqop i hi' hi).2.1 s (by rw [ho];exact hd)
   exact this.2 j hj (Ne.symm hij) h2
 have hlenq:(A.toList.take q).length=q:=by simp;omega
 have done:∀ (B:Array Bool) (a:Act) (w:World) (p:Nat) (Lv:Env) (R:List HP),(∀ i,i < q→B.getD i true=true)→a.tmps.size=c.N→Same c.w0 w→(∃ ds:List Nat,a.defers=ds.map dX++c.D∧((c.r.isSome || c.nd)=true→ds=[])∧sat ((M++R)++(c.X++ds.map cA)) w) →
   p≤q→(∀ j,j < q→Nat.testBit tm j=true→(B.getD j true=true↔j < p))→GT P c A tm kk p ((A.toList.take q).drop p) Lv M R→(∀ s v,aR Lv s=some v→(∀ j,j < q→Nat.testBit tm j=false→B.getD j true=false→¬ aK A j s)→a.tmps[s]?=some v) →
   cQ (fen c.r) P A (gK c K) (A.toList.drop q) a w:=by
  intro B a w p Lv R hall hN hsame hmem hp hT hgt hI
  have h2:GT P c A tm kk (p+(q - p)) (((A.toList.take q).drop p).drop (q - p)) Lv M R:=GT.adv (q - p) p _ (fun j h1 h2=>by
   cases hb:Nat.testBit tm j with
   | false=>rfl
   | true=>
    have:=(hT j (by omega) hb).1 (hall j (by omega))
    omega) (by rw [List.length_drop,hlenq];exact Nat.le_refl _) hgt
  have e:((A.toList.take q).drop p).drop (q - p)=[]:=by rw [List.drop_drop,List.drop_eq_nil_iff,hlenq];omega
  rw [e] at h2
  refine hkk _ _ h2 a w ⟨⟨hN,fun s v hs=>hI s v hs fun j hj _ hb=>?_⟩,hsame,hmem⟩
  rw [hall j hj] at hb;cases hb
 intro n
 induction n with
 | zero=>
  intro t B a w p Lv R hBs cl hcnt htail hN hsame hmem hp hT hgt hI1 hI2 hI3 hI4
  have hall:∀ i,i < A.size→B.getD i true=true:=by
   intro i hi
   rw [List.countP_eq_zero] at hcnt
   simpa using hcnt i (by simpa using hi)
  have hqs:q=A.size:=by
   by_cases h:q < A.size
   ·have h1:=hall q h;have h2:=htail q (by omega) h;rw [h1] at h2;cases h2
   ·omega
  have hd:=done B a w p Lv R (fun i hi=>hall i (by omega)) hN hsame hmem hp hT hgt hI4
  have hdrop:A.toList.drop q=[]:=by rw [hqs];simp
  rw [hdrop] at hd
  simp only [lin]
  exact hd
 | succ n ih=>
  intro t B a w p Lv R hBs cl hcnt htail hN hsame hmem hp hT hgt hI1 hI2 hI3 hI4
  by_cases hquiet:∀ i,i < q→B.getD i true=true
  ·
   have hB:∀ i,i < A.size→B.getD i true=decide (i < q):=by
    intro i hi
    by_cases h:i < q
    ·simp [h,hquiet i h]
    ·simp [h,htail i (by omega) hi]
   have hcn:n+1=A.size - q:=by
    rw [← hcnt,← kG q A.size hq]
    apply List.countP_congr
    intro x hx
    rw [hB x (by simpa using hx)]
   rw [lN ok (n+1) q t B (by omega) (Nat.le_refl q) hBs cl hB]
   refine dh (ji c.r) _ (A.toList.drop q) a w ?_ (done B a w p Lv R hquiet hN hsame hmem hp hT hgt hI4)
   apply List.ext_getElem?
   intro i
   simp only [List.getElem?_map,List.getElem?_range',List.getElem?_drop]
   by_cases h:i < n+1
   ·have h':q+i < A.size:=by omega
    simp [h,h']
   ·have h':¬ q+i < A.size:=by omega
    have e1:A.toList[q+i]?=none:=by rw [List.getElem?_eq_none];simpa using h'
    simp [h,e1]
  ·
   have hex:∃ i,i < A.size∧B.getD i true=false:=by
    apply Classical.byContradiction
    intro h
    apply hquiet
    intro i hi
    cases e:B.getD i true with
    | true=>rfl
    | false=>exact absurd ⟨i,by omega,e⟩ h
   obtain ⟨i0,hi0,hc0⟩:=kg hBs _ 0 tp (fun i h=>by simp at h) hex
   have hne:0 < ((List.range A.size).filter (eM m A B)).length:=by
    apply List.length_pos_of_mem (a:=i0)
    rw [List.mem_filter];exact ⟨by simpa using hi0,hc0⟩
   have hlt:=Nat.mod_lt t hne
   have hget:=List.getElem?_eq_getElem hlt
   generalize hidef:((List.range A.size).filter (eM m A B))[t % ((List.range A.size).filter (eM m A B)).length]=i at hget
   have himem:i∈(List.range A.size).filter (eM m A B):=by rw [← hidef];exact List.getElem_mem hlt
   rw [List.mem_filter] at himem
   obtain ⟨hir,hci⟩:=himem
   have hi:i < A.size:=by simpa using hir
   have hBi:B.getD i true=false:=pO hci
   have hiA:A[i]?=some A[i]:=by simp [hi]
   have pred:∀ j,bit RR i j=true→B.getD j true=true:=by
    intro j hj
    have h2:=eR hci hiA (hop i hi) cl hBs hj
    rw [Array.getD_eq_getD_getElem?] at h2 ⊢
    cases hb:B[j]? with
    | none=>simp
    | some b=>simp [hb] at h2 ⊢;exact h2
   have hiq:i < q:=by
    apply Classical.byContradiction
    intro hnq
    apply hquiet
    intro j hj
    have h:=hop i hi
    unfold kJ at h
    have hb:Nat.blt i q=false:=by
     cases e:Nat.blt i q with
     | false=>rfl
     | true=>
      have:i < q:=by simpa using e
      omega
    simp only [hb,cond_false,Bool.and_eq_true,List.all_eq_true,List.mem_range] at h
    exact pred j (h.2.1 j (by omega))
   obtain ⟨hqk,hdst,hops,hgd⟩:=hqop i hi hiq
   obtain ⟨xops,xgd,xth⟩:=xop i hi hiq
   obtain ⟨ds,hdef,hdr,hsat⟩:=hmem
   have hlin:lin m A (n+1) t B=i::lin m A n (t / ((List.range A.size).filter (eM m A B)).length) (B.setIfInBounds i true):=by
    simp only [lin,hget]
   have hgd2:∀ j,(B.setIfInBounds i true).getD j true=if j=i then true else B.getD j true:=by
    intro j
    rw [Array.getD_eq_getD_getElem?,Array.getD_eq_getD_getElem?]
    by_cases h:i=j
    ·subst h
     have:i < B.size:=by omega
     simp [this]
    ·rw [Array.getElem?_setIfInBounds_ne h];simp [Ne.symm h]
   have hcl2:lu A RR (B.setIfInBounds i true):=by
    intro i' j hi' hb hj
    rw [hgd2] at hb
    have h1:B.getD j false=true:=by
     by_cases h:i'=i
     ·subst h;exact eR hci hiA (hop i' hi) cl hBs hj
     ·rw [if_neg h] at hb;exact cl i' j hi' hb hj
    rw [Array.getD_eq_getD_getElem?] at h1 ⊢
    by_cases h:i=j
    ·subst h
     have:i < B.size:=by omega
     simp [this]
    ·rw [Array.getElem?_setIfInBounds_ne h];exact h1
   have hcnt2:(List.range A.size).countP (fun j=>!(B.setIfInBounds i true).getD j true)=n:=by
    have:=fx (f:=fun j=>!B.getD j true) (g:=fun j=>!(B.setIfInBounds i true).getD j true) (i:=i) (by simp [hBi]) (by simp [hgd2]) (fun j hj=>by simp [hgd2,hj]) (List.range A.size) List.nodup_range (by simpa using hi)
    omega
   have htail2:∀ j,q≤j→j < A.size→(B.setIfInBounds i true).getD j true=false:=by
    intro j hj hja
    rw [hgd2,if_neg (by omega)];exact htail j hj hja
   have hsee:∀ s,(.tmp s∈A[i].op.operands.toList∨∃ j b,A[i].guard=some (j,b)∧aK A j s)→∀ j,j < q→Nat.testBit tm j=false→B.getD j true=false→¬ aK A j s:=by
    intro s hs j hj _ hb hd
    have hE:bit RR i j=true:=by
     rcases hs with hs | ⟨j',b,hg,hd'⟩
     ·exact (hops s hs j hj hd).1
     ·obtain ⟨hj',hE⟩:=hgd j' b hg
      have:j'=j:=ssa j' j s hj' hj hd' hd
      subst this;exact hE.1
    rw [pred j hE] at hb;cases hb
   rw [hlin]
   cases hti:Nat.testBit tm i with
   | false=>
    obtain ⟨l1,l2⟩:=iz (V:=V) (L:=L) (tm:=tm) hq ssa i (by omega)
    let a2:Act:={ tmps:=Array.ofFn (n:=c.N) fun s=>(aR (cY A tm V L i) s.1).getD (a.tmps.getD s.1 undef),defers:=a.defers }
    have ha2:∀ s,s < c.N→a2.tmps[s]?=some ((aR (cY A tm V L i) s).getD (a.tmps.getD s undef)):=by
     intro s hs;simp [a2,Array.getElem?_ofFn,hs]
    have hLv:∀ s v,aR (cY A tm V L i) s=some v→(∃ j,j < i∧Nat.testBit tm j=false∧aK A j s∧v=V j)∨((∀ j,j < i→Nat.testBit tm j=false→¬ aK A j s)∧aR L s=some v):=by
     intro s v hs
     by_cases h:∃ j,j < i∧Nat.testBit tm j=false∧aK A j s
     ·obtain ⟨j,hj,hjb,hd⟩:=h
      rw [l1 j s hj hjb hd] at hs
      exact .inl ⟨j,hj,hjb,hd,by simpa using hs.symm⟩
     ·have hn:∀ j,j < i→Nat.testBit tm j=false→¬ aK A j s:=fun j hj hjb hd=>h ⟨j,hj,hjb,hd⟩
      rw [l2 s hn] at hs
      exact .inr ⟨hn,hs⟩
    have hdN:∀ j s,j < q→aK A j s→s < c.N:=by
     intro j s hj hd
     obtain ⟨o,ho1,ho2⟩:=hd
     have hj':j < A.size:=by omega
     simp [hj'] at ho1
     exact ((hqop j hj' hj).2.1 s (by rw [ho1];exact ho2)).1
    have hLN:∀ s v,aR (cY A tm V L i) s=some v→s < c.N:=by
     intro s v hs
     rcases hLv s v hs with ⟨j,hj,_,hd,_⟩ | ⟨_,hl⟩
     ·exact hdN j s (by omega) hd
     ·by_cases h':∃ j,j < q∧aK A j s
      ·obtain ⟨j,hj,hd⟩:=h';exact hdN j s hj hd
      ·exact hI3 s v (by rw [hI2 s fun j hj hd=>h' ⟨j,hj,hd⟩];exact hl)
    have hst2:St c (cY A tm V L i) (M++R) a2 w:=⟨⟨by simp [a2],fun s v hs=>by rw [ha2 s (hLN s v hs),hs];rfl⟩,hsame,ds,hdef,hdr,hsat⟩
    have hone:=hV i hiq hti A[i] hiA R a2 w hst2
    have hone1:=jF (F:=fen c.r) (P:=P) (A:=A) (o:=A[i]) (a:=a2) (w:=w) (fun e a w h=>by obtain ⟨_,_,_,h,_⟩:=h;exact h) hone
    have hslot:∀ s,(.tmp s∈A[i].op.operands.toList∨∃ j b,A[i].guard=some (j,b)∧aK A j s)→a.tmps[s]?=a2.tmps[s]?:=by
     intro s hs
     by_cases hsN:s < c.N
     ·rw [ha2 s hsN]
      cases hl:aR (cY A tm V L i) s with
      | none=>
       simp only [Option.getD_none]
       rw [Array.getD_eq_getD_getElem?]
       have hh:s < a.tmps.size:=by omega
       simp [hh]
      | some v=>
       rw [Option.getD_some]
       refine hI4 s v ?_ (hsee s hs)
       rcases hLv s v hl with ⟨j,hj,hjb,hd,rfl⟩ | ⟨hn,hl'⟩
       ·exact hI1 j s (by omega) hjb hd
       ·rw [hI2 s]
        ·exact hl'
        ·intro j hj hd
         rcases hs with hs | ⟨j',b,hg,hd'⟩
         ·obtain ⟨_,hji⟩:=hops s hs j hj hd
          rcases xops s hs j hj hd with h | h
          ·rw [hti] at h;cases h
          ·exact hn j hji h hd
         ·obtain ⟨hj',_,hji⟩:=hgd j' b hg
          have:j'=j:=ssa j' j s hj' hj hd' hd
          subst this
          rcases xgd j' b hg with h | h
          ·rw [hti] at h;cases h
          ·exact hn j' hji h hd
     ·have h1:a.tmps[s]?=none:=by rw [Array.getElem?_eq_none];omega
      have h2:a2.tmps[s]?=none:=by rw [Array.getElem?_eq_none];simp [a2];omega
      rw [h1,h2]
    have hone2:=kr (A:=A) hqk (fun s hs=>hslot s (.inl hs)) (fun j b hg s hd=>hslot s (.inr ⟨j,b,hg,hd⟩)) hone1
    refine iv (ji c.r) hiA (gq hone2 ?_)
    rintro D v w' ⟨L',H',⟨hat,hs',ds',hdef',hdr',hsat'⟩,_,rfl,hsb⟩
    have hv:∀ d,A[i].dst=some d→v=V i:=by
     intro d hd
     have h1:=hat.2 d (V i) (by rw [hd];simp [ext,aR])
     rw [hd,dI (by simp [a2];exact (hdst d hd).1)] at h1
     simpa using h1
    refine ih _ _ _ w' p Lv R (by simpa using hBs) hcl2 hcnt2 htail2 ?_ hs' ?_ hp ?_ hgt hI1 hI2 hI3 ?_
    ·cases hd:A[i].dst <;> simp only [Act.putD,Act.put,Array.size_setIfInBounds,hN]
    ·refine ⟨ds',?_,hdr',(Sb.app hsb).sat hsat'⟩
     have:(Act.putD a2 D A[i].dst v).defers=D++a.defers:=by cases A[i].dst <;> rfl
     rw [this] at hdef'
     cases A[i].dst <;> exact hdef'
    ·intro j hj hjt
     rw [hgd2,if_neg (by intro e;subst e;rw [hti] at hjt;cases hjt)]
     exact hT j hj hjt
    ·intro s u hs hnone
     by_cases hd:A[i].dst=some s
     ·rw [hd,hv s hd]
      rw [hI1 i s hiq hti ⟨A[i],hiA,hd⟩] at hs
      simp only [Option.some.injEq] at hs
      rw [← hs]
      exact dI (Nat.lt_of_lt_of_eq (hdst s hd).1 hN.symm)
     ·rw [ko (fun d' hd' e=>hd (by rw [hd',e]))]
      refine hI4 s u hs fun j hj hjt hb hdj=>?_
      by_cases hji:j=i
      ·subst hji
       obtain ⟨o,ho1,ho2⟩:=hdj
       rw [hiA] at ho1
       simp only [Option.some.injEq] at ho1
       exact hd (by rw [ho1];exact ho2)
      ·exact hnone j hj hjt (by rw [hgd2,if_neg hji];exact hb) hdj
   | true=>
    have hpi:p≤i:=by
     apply Classical.byContradiction
     intro h
     have:=(hT i hiq hti).2 (by omega)
     rw [hBi] at this;cases this
    have hbet:∀ j,p≤j→j < p+(i - p)→Nat.testBit tm j=false:=by
     intro j h1 h2
     cases hb:Nat.testBit tm j with
     | false=>rfl
     | true=>
      have:=(hT j (by omega) hb).1 (pred j (xth hti j (by omega) hb))
      omega
    have hgt2:GT P c A tm kk (p+(i - p)) (((A.toList.take q).drop p).drop (i - p)) Lv M R:=GT.adv (i - p) p _ hbet (by rw [List.length_drop,hlenq];omega) hgt
    have e1:p+(i - p)=i:=by omega
    have e2:((A.toList.take q).drop p).drop (i - p)=A[i]::(A.toList.take q).drop (i+1):=by
     rw [List.drop_drop,e1,List.drop_eq_getElem_cons (by omega)]
     simp
    rw [e2,e1] at hgt2
    unfold GT at hgt2
    rw [hti,cond_true] at hgt2
    let a2:Act:={ tmps:=Array.ofFn (n:=c.N) fun s=>(aR Lv s.1).getD (a.tmps.getD s.1 undef),defers:=a.defers }
    have ha2:∀ s,s < c.N→a2.tmps[s]?=some ((aR Lv s).getD (a.tmps.getD s undef)):=by
     intro s hs;simp [a2,Array.getElem?_ofFn,hs]
    have hst2:St c Lv (M++R) a2 w:=⟨⟨by simp [a2],fun s v hs=>by rw [ha2 s (hI3 s v hs),hs];rfl⟩,hsame,ds,hdef,hdr,hsat⟩
    have hone:=hgt2 a2 w hst2
    have hone1:=jF (F:=fen c.r) (P:=P) (A:=A) (o:=A[i]) (a:=a2) (w:=w) (fun e a w h=>by obtain ⟨_,_,_,h,_⟩:=h;exact h) hone
    have hslot:∀ s,(.tmp s∈A[i].op.operands.toList∨∃ j b,A[i].guard=some (j,b)∧aK A j s)→a.tmps[s]?=a2.tmps[s]?:=by
     intro s hs
     by_cases hsN:s < c.N
     ·rw [ha2 s hsN]
      cases hl:aR Lv s with
      | none=>
       simp only [Option.getD_none]
       rw [Array.getD_eq_getD_getElem?]
       have hh:s < a.tmps.size:=by omega
       simp [hh]
      | some v=>
       rw [Option.getD_some]
       exact hI4 s v hl (hsee s hs)
     ·have h1:a.tmps[s]?=none:=by rw [Array.getElem?_eq_none];omega
      have h2:a2.tmps[s]?=none:=by rw [Array.getElem?_eq_none];simp [a2];omega
      rw [h1,h2]
    have hone2:=kr (A:=A) hqk (fun s hs=>hslot s (.inl hs)) (fun j b hg s hd=>hslot s (.inr ⟨j,b,hg,hd⟩)) hone1
    refine iv (ji c.r) hiA (gq hone2 ?_)
    rintro D v w' ⟨L',H',⟨hat,hs',ds',hdef',hdr',hsat'⟩,_,v',R',rfl,hsb,hgt3⟩
    have hv:∀ d,A[i].dst=some d→v=v':=by
     intro d hd
     have h1:=hat.2 d v' (by rw [hd];simp [ext,aR])
     rw [hd,dI (by simp [a2];exact (hdst d hd).1)] at h1
     simpa using h1
    have hnd:∀ s,A[i].dst=some s→∀ j,j < q→j≠i→¬ aK A j s:=fun s hs j hj hji=>(hdst s hs).2 j hj hji
    refine ih _ _ _ w' (i+1) (ext A[i].dst v' Lv) R' (by simpa using hBs) hcl2 hcnt2 htail2 ?_ hs' ?_ (by omega) ?_ hgt3 ?_ ?_ ?_ ?_
    ·cases hd:A[i].dst <;> simp only [Act.putD,Act.put,Array.size_setIfInBounds,hN]
    ·refine ⟨ds',?_,hdr',hsb _ _ hsat'⟩
     have:(Act.putD a2 D A[i].dst v).defers=D++a.defers:=by cases A[i].dst <;> rfl
     rw [this] at hdef'
     cases A[i].dst <;> exact hdef'
    ·intro j hj hjt
     rw [hgd2]
     by_cases hji:j=i
     ·subst hji;simp
     ·rw [if_neg hji,hT j hj hjt]
      constructor
      ·intro h;omega
      ·intro h
       apply Classical.byContradiction
       intro h'
       have:=hbet j (by omega) (by omega)
       rw [hjt] at this;cases this
    ·intro j d hj hjt hd
     rw [dE,if_neg (fun e=>hnd d e j hj (by intro e';subst e';rw [hti] at hjt;cases hjt) hd)]
     exact hI1 j d hj hjt hd
    ·intro s hs
     rw [dE,if_neg (fun e=>hs i hiq ⟨A[i],hiA,e⟩)]
     exact hI2 s hs
    ·intro s u hs
     rw [dE] at hs
     by_cases hd:A[i].dst=some s
     ·exact (hdst s hd).1
     ·rw [if_neg hd] at hs;exact hI3 s u hs
    ·intro s u hs hnone
     rw [dE] at hs
     by_cases hd:A[i].dst=some s
     ·rw [if_pos hd] at hs
      simp only [Option.some.injEq] at hs
      rw [hd,hv s hd,hs]
      exact dI (Nat.lt_of_lt_of_eq (hdst s hd).1 hN.symm)
     ·rw [if_neg hd] at hs
      rw [ko (fun d' hd' e=>hd (by rw [hd',e]))]
      refine hI4 s u hs fun j hj hjt hb hdj=>?_
      have hji:j≠i:=by intro e;subst e;rw [hti] at hjt;cases hjt
      exact hnone j hj hjt (by rw [hgd2,if_neg hji];exact hb) hdj
theorem G.drawT {id:Nat} (q tm:Nat) (M R:List HP) (ok:tA c.N q tm A=true) (hL:∀ s v,aR L s=some v→s < c.N) (tk:ImpS H (M++R))
  (h:GR P c A tm 0 (A.toList.take q) (fun L'=>GT P c A tm (fun L' H'=>GO P c A (A.toList.drop q) K L' H') 0 (A.toList.take q) L' M R) L M):G P c (.region id A true) K L H:=by
 intro a w hs
 refine wpIn_region_draw fun t=>?_
 unfold tA jW at ok
 simp only [Bool.and_eq_true] at ok
 obtain ⟨⟨ok1,ok2,ok3,ok4⟩,xok⟩:=ok
 have hq:q≤A.size:=by
  unfold chk at ok1
  simp only [Bool.and_eq_true] at ok1
  simpa using ok1.1
 have hlen:(A.toList.take q).length=q:=by simp;omega
 have hAt:∀ j o,(A.toList.take q)[j]?=some o→A[0+j]?=some o:=fun j o hj=>by
  have:=(List.getElem?_eq_some_iff.1 hj).1
  rw [hlen] at this
  rw [List.getElem?_take_of_lt this] at hj
  simpa using hj
 obtain ⟨V,_,hV,hk⟩:=GR.get (A.toList.take q) 0 (fun _=>undef) hAt (by simpa [cY] using h)
 rw [hlen,Nat.zero_add] at hV hk
 have hok:=ok1
 unfold chk at hok
 simp only [Bool.and_eq_true,List.all_eq_true,List.mem_range] at hok
 have hdd:∀ i d,i < q→aK A i d→d < c.N∧∀ j,j < q→j≠i→¬ aK A j d:=by
  intro i d hi hd
  have hi':i < A.size:=by omega
  have h:=hok.2 i hi'
  simp only [hi',getElem?_pos] at h
  obtain ⟨o,ho1,ho2⟩:=hd
  simp [hi'] at ho1
  rw [ho1] at h
  unfold kJ at h
  have hb:Nat.blt i q=true:=by simpa using hi
  simp only [hb,cond_true,Bool.and_eq_true] at h
  obtain ⟨_,⟨⟨_,h2⟩,_⟩,_⟩:=h
  rw [ho2] at h2
  simp only [Bool.and_eq_true,List.all_eq_true,List.mem_range] at h2
  refine ⟨by simpa using h2.1,fun j hj hne hdj=>?_⟩
  have:=h2.2 j hj
  rw [eE hdj,lH hne] at this
  simp at this
 have ssa:∀ i j s,i < q→j < q→aK A i s→aK A j s→i=j:=by
  intro i j s hi hj h1 h2
  by_cases hij:i=j
  ·exact hij
  ·exact absurd h2 ((hdd i s hi h1).2 j hj (Ne.symm hij))
 obtain ⟨l1,l2⟩:=iz (V:=V) (L:=L) (tm:=tm) hq ssa q (Nat.le_refl q)
 have run:∀ m t,mh m A (lG m A) 0=true→wpOpsIn (fen c.r) 0 P A (gK c K) (Region.linearise m A t) a { w with drawn:=w.drawn+1 }:=by
  intro m t tp
  unfold Region.linearise
  rw [tc]
  simp only [List.reverse_nil,List.nil_append]
  obtain ⟨h1,h2,ds,h3,h4,h5⟩:=hs
  have hrep:∀ i,i < A.size→(Array.replicate A.size false).getD i true=false:=by
   intro i hi;rw [Array.getD_eq_getD_getElem?];simp [hi]
  refine zL (RR:=qH A A.size) ok1 xok tp (fun i hi hb o ho Z=>hV i (Nat.zero_le _) hi hb o ho Z) (fun _ _ h=>h) _ _ _ a _ 0 (cY A tm V L q) R (by simp) (fun i j hi hb=>by rw [hrep i hi] at hb;cases hb) ?_ (fun i _ hi=>hrep i hi) h1.1 (h2.trans (Same.drawn _ (Nat.le_add_right _ _))) ⟨ds,h3,h4,?_⟩ (Nat.zero_le _) ?_ hk (fun j d hj hb hd=>l1 j d hj hb hd) (fun s hs=>l2 s fun j hj _=>hs j hj) ?_ ?_
  ·rw [List.countP_eq_length.2]
   ·simp
   ·intro i hi;rw [hrep i (by simpa using hi)];rfl
  ·exact fD (tk _ _ h5) rfl
  ·intro j hj _
   rw [hrep j (by omega)]
   constructor
   ·intro h;cases h
   ·intro h;omega
  ·intro s v hs
   by_cases h:∃ j,j < q∧aK A j s
   ·obtain ⟨j,hj,hd⟩:=h;exact (hdd j s hj hd).1
   ·rw [l2 s fun j hj _ hd=>h ⟨j,hj,hd⟩] at hs
    exact hL s v hs
  ·intro s v hs hno
   have hn:∀ j,j < q→Nat.testBit tm j=false→¬ aK A j s:=fun j hj hb=>hno j hj hb (hrep j (by omega))
   rw [l2 s hn] at hs
   exact h1.2 s v hs
 unfold Region.schedule
 split
 ·exact run _ _ ok2
 ·split
  ·exact run _ _ ok3
  ·exact run _ _ ok4
def wH (N:Nat):Env→Bool
 | []=>true
 | (k,_)::L=>Nat.blt k N && wH N L
theorem nM {N:Nat}:∀ {L:Env},wH N L=true→∀ s v,aR L s=some v→s < N
 | [],_,s,v,h=>by simp [aR] at h
 | (k,u)::L,h,s,v,hs=>by
  simp only [wH,Bool.and_eq_true] at h
  simp only [aR] at hs
  by_cases e:k=s
  ·subst e;simpa using h.1
  ·rw [lH e] at hs;exact nM h.2 s v hs
def PVals (L:Env):List (Nat × Operand)→List (Nat × Value)→Prop
 | [],[]=>True
 | (i,x)::ps,(j,v)::vs=>i=j∧evl L x=some v∧PVals L ps vs
 | _,_=>False
theorem PVals.map {N:Nat} {a:Act} (h:At N L a):∀ {ps:List (Nat × Operand)} {vs:List (Nat × Value)},PVals L ps vs→ps.map (fun (y:Nat × Operand)=>(y.1,a.eval y.2))=vs
 | [],[],_=>rfl
 | (i,x)::ps,(j,v)::vs,⟨h1,h2,h3⟩=>by
  subst h1
  simp only [List.map_cons,h.eval h2,PVals.map h h3]
 | [],_::_,h=>h.elim
 | _::_,[],h=>h.elim
theorem GO.buildPart {rest:List Oper} {t ty:TypeId} {p:String} {e:Array Edge} {d:Nat} {ps:List (Nat × Operand)} {vs:List (Nat × Value)} {l:List Value} (hb:P.built ty vs=some l.toArray) (hN:Nat.blt d c.N=true) (hv:PVals L ps vs)
  (k:GO P c A rest K ((d,.agg l.toArray)::L) H):GO P c A (⟨some d,.build ty ps.toArray,t,p,e,none⟩::rest) K L H:=
 GO.val hN rfl (fun a w Y h _=>by
  simp only [execOp]
  have e1:(ps.toArray.map fun (y:Nat × Operand)=>(y.1,a.eval y.2)).toList=vs:=by
   rw [Array.toList_map];exact PVals.map h hv
  have:=run_build (P:=P) w ty (ps.toArray.map fun (y:Nat × Operand)=>(y.1,a.eval y.2)) l.toArray (by rw [e1];exact hb)
  rw [Sem.run_bind,this];rfl) k
theorem GO.buildPart1 {rest:List Oper} {t ty:TypeId} {p:String} {e:Array Edge} {d i1:Nat} {x1:Operand} {v1:Value} {l:List Value} (hb:P.built ty [(i1,v1)]=some l.toArray) (hN:Nat.blt d c.N=true) (h1:evl L x1=some v1)
  (k:GO P c A rest K ((d,.agg l.toArray)::L) H):GO P c A (⟨some d,.build ty #[(i1,x1)],t,p,e,none⟩::rest) K L H:=
 GO.buildPart (ps:=[(i1,x1)]) hb hN ⟨rfl,h1,trivial⟩ k
theorem GO.ownOne {el:TypeId} {sz n:Nat} {v:Value} {xs:List Value} {F:List HP} {os:List Oper} (tk:Tk (own el sz n v xs) H F) (k:v.oneCell'=true→GO P c A os K L H):GO P c A os K L H:=by
 rintro a w ⟨h1,h2,ds,h3,h4,h5⟩
 have s1:=ai (List.Perm.append_right _ tk) h5
 refine k ?_ a w ⟨h1,h2,ds,h3,h4,h5⟩
 rcases bK s1 with ⟨rfl,_⟩ | ⟨_,_,_,rfl,_⟩ <;> rfl
theorem G.ownOne {el:TypeId} {sz n:Nat} {v:Value} {xs:List Value} {F:List HP} {C:Code} (tk:Tk (own el sz n v xs) H F) (k:v.oneCell'=true→G P c C K L H):G P c C K L H:=by
 rintro a w ⟨h1,h2,ds,h3,h4,h5⟩
 have s1:=ai (List.Perm.append_right _ tk) h5
 refine k ?_ a w ⟨h1,h2,ds,h3,h4,h5⟩
 rcases bK s1 with ⟨rfl,_⟩ | ⟨_,_,_,rfl,_⟩ <;> rfl
theorem GO.load2 {rest:List Oper} {t ty:TypeId} {p:String} {e:Array Edge} {d b o:Nat} {x:Operand} {ds:TypeDesc} {q:HP} {u1 u2:Value} {F:List HP} [hu:UL P ty ds] [hs:SZ P ty 2] (hd:ds.isRow=true) (hN:Nat.blt d c.N=true) (hx:evl L x=some (.pointer (some ⟨b,o,none⟩))) (tk:Tk q H F)
  (r1:Rd q ⟨b,o,none⟩ u1) (r2:Rd q ⟨b,o+1,none⟩ u2) (k:GO P c A rest K ((d,.agg [u1,u2].toArray)::L) H):GO P c A (⟨some d,.load ty x,t,p,e,none⟩::rest) K L H:=
 GO.loadM (vs:=[u1,u2]) hd hN hx tk rfl (fun j u hj=>by
  match j,hj with
  | 0,hj=>simp at hj;subst hj;exact r1
  | 1,hj=>simp at hj;subst hj;exact r2) k
def del (s:Nat):Env→Env
 | []=>[]
 | (k,v)::l=>bif Nat.beq k s then del s l else (k,v)::del s l
theorem p9 {s t:Nat} (h:t≠s):∀ L:Env,aR (del s L) t=aR L t
 | []=>rfl
 | (k,v)::l=>by
  by_cases e:k=s
  ·subst e
   have:Nat.beq k k=true:=by simp
   simp only [del,this,cond_true,aR,lH (Ne.symm h),cond_false]
   exact p9 h l
  ·simp only [del,lH e,cond_false,aR]
   rw [p9 h l]
theorem SubE.undel {s:Nat} {v:Value} {L L':Env} (h:SubE ((s,v)::del s L) L'):SubE ((s,v)::L) L':=fun t u hu=>by
 refine h t u ?_
 simp only [aR] at hu ⊢
 by_cases e:s=t
 ·subst e;simpa using hu
 ·rw [lH e] at hu ⊢
  simp only [cond_false] at hu ⊢
  rw [p9 (Ne.symm e)];exact hu
theorem GO.cutN (s:Nat) (v:Value) (hx:GO P c A os (cF (fun L' H'=>SubE ((s,v)::del s L) L'∧ImpS H' H) K) L H) (hK:∀ L' H',SubE ((s,v)::L) L'→ImpS H' H→K .normal L' H'):GO P c A os K L H:=by
 intro a w h
 have mono:∀ e L' H',cF (fun L' H'=>SubE ((s,v)::del s L) L'∧ImpS H' H) K e L' H'→K e L' H':=fun e L' H' h=>by
  cases e with
  | normal=>exact hK _ _ h.1.undel h.2
  | _=>exact h
 have:=hx a w h
 have key:∀ (os:List Oper) (a:Act) (w:World),cQ (fen c.r) P A (gK c (cF (fun L' H'=>SubE ((s,v)::del s L) L'∧ImpS H' H) K)) os a w→cQ (fen c.r) P A (gK c K) os a w:=by
  intro os
  induction os with
  | nil=>intro a w h;obtain ⟨L',H',h1,h2⟩:=h;exact ⟨L',H',h1,mono _ _ _ h2⟩
  | cons o os ih=>
   intro a w h
   simp only [cQ] at h ⊢
   split
   ·rename_i hw
    rw [if_pos hw] at h
    generalize (o.semAt (fen c.r).round a.eval).run P w=r at h ⊢
    cases r with
    | halt x w'=>
     cases x with
     | panic v=>obtain ⟨L',H',h1,h2⟩:=h;exact ⟨L',H',h1,mono _ _ _ h2⟩
     | _=>exact h
    | ok x w'=>
     cases x with
     | value v=>exact ih _ _ h
     | skip=>exact ih _ _ h
     | defer d=>exact ih _ _ h
     | enter f args=>exact ⟨h.1,h.2.mono fun e w'' he=>by
       cases e with
       | returned v=>exact ih _ _ he
       | panicked c=>obtain ⟨L',H',h1,h2⟩:=he;exact ⟨L',H',h1,mono _ _ _ h2⟩
       | outgrown=>obtain ⟨x,y,L',H',h1,h2⟩:=he;exact ⟨x,y,L',H',h1,mono _ _ _ h2⟩⟩
     | row r args=>exact ⟨h.1,h.2.mono fun v w'' he=>ih _ _ he⟩
     | round l f t x y=>exact ⟨h.1,h.2.mono fun e w'' he=>by
       cases e with
       | returned v=>exact ih _ _ he
       | panicked c=>obtain ⟨L',H',h1,h2⟩:=he;exact ⟨L',H',h1,mono _ _ _ h2⟩
       | outgrown=>obtain ⟨x,y,L',H',h1,h2⟩:=he;exact ⟨x,y,L',H',h1,mono _ _ _ h2⟩⟩
     | _=>exact h
   ·rename_i hw
    rw [if_neg hw] at h
    exact ih _ _ h
 exact key os a w this
theorem uY {n m:Env→List HP→Prop}:cF n (cF m K)=cF n K:=by
 funext e L H
 cases e <;> rfl
theorem GO.cut1 {y:Code} (s:Nat) (v:Value) (hx:GO P c A os (cF (fun L' H'=>SubE ((s,v)::del s L) L'∧ImpS H' H) K) L H) (hy:G P c y K ((s,v)::L) H):GO P c A os (cF (fun L H=>G P c y K L H) K) L H:=
 GO.cutN s v (by rw [uY];exact hx) (fun L' H' h1 h2=>G.subI h1 h2 hy)
theorem qr {L:Env} {a:Act} {j s:Nat} (h:At c.N L a) (hj:lT A j=some s) (hl:aR L s=some undef):yielded A a.tmps j=none:=by
 unfold lT at hj
 simp [yielded,hj,h.2 s _ hl,undef]
theorem GO.gU {rest:List Oper} {t:TypeId} {p:String} {e:Array Edge} {d:Nat} {op:Op} {j s:Nat} {want:Bool} (hN:Nat.blt d c.N=true) (hj:lT A j=some s) (hl:aR L s=some undef)
  (k:GO P c A rest K ((d,undef)::L) H):GO P c A (⟨some d,op,t,p,e,some (j,want)⟩::rest) K L H:=by
 rintro a w h
 have hw:((none:Option Bool) == some want)=false:=rfl
 simp only [cQ,Region.wanted,qr h.at_ hj hl,hw,Bool.false_eq_true,if_false]
 obtain ⟨h1,h2,h3⟩:=h
 exact k _ w ⟨h1.put hN,h2,h3⟩
end
end
section
def BL (q tm:Nat) (A:Array Oper) (R:List Nat):Bool:=(List.range q).all fun i=>match A[i]? with
 | some o=>(jE o).all (fun t=>(List.range q).all fun j=>!sg A j t || ((bit R i j && Nat.blt j i) && (Nat.testBit tm i || !Nat.testBit tm j))) &&
   (match o.guard with | some (j,_)=>Nat.testBit tm i || !Nat.testBit tm j | none=>true)
 | none=>false
def tz (N q tm:Nat) (A:Array Oper):Bool:=jW N q A && BL q tm A (qH A A.size)
def oU (R:List Nat) (q tm:Nat) (D:List Nat):List Nat:=(List.range q).filter fun i=>Nat.testBit tm i && !D.contains i && (List.range q).all fun j=>!bit R i j || !Nat.testBit tm j || D.contains j
def n8 (q tm:Nat) (D:List Nat):Nat:=(List.range q).countP fun j=>Nat.testBit tm j && !D.contains j
def GW (P:Program) (c:Cx) (A:Array Oper) (RR:List Nat) (q tm:Nat) (k:Env→List HP→Prop):Nat→List Nat→Env→List HP→List HP→Prop
 | 0,_,L,M,R=>k L (M++R)
 | n+1,D,L,M,R=>∀ i,i∈oU RR q tm D→∀ o,A[i]?=some o→GO P c A [o] (fun e L' H'=>e=.normal∧∃ v R',L'=ext o.dst v L∧ImpS H' (M++R')∧GW P c A RR q tm k n (i::D) (ext o.dst v L) M R') L (M++R)
section
variable {P:Program} {c:Cx} {A:Array Oper} {os:List Oper} {tm i:Nat} {k:Env→Prop} {kk:Env→List HP→Prop} {K:aY} {L:Env} {H M R:List HP}
abbrev WK (P:Program) (c:Cx) (A:Array Oper) (RR:List Nat) (q tm:Nat) (k:Env→List HP→Prop) (n:Nat) (D:List Nat) (o:Oper) (L:Env) (M:List HP):aY:=fun e L' H'=>e=.normal∧∃ v R',L'=ext o.dst v L∧ImpS H' (M++R')∧GW P c A RR q tm k n D (ext o.dst v L) M R'
theorem GW.nil {RR:List Nat} {q:Nat} {D:List Nat} (h:kk L (M++R)):GW P c A RR q tm kk 0 D L M R:=h
theorem GW.one {RR:List Nat} {q n:Nat} {D:List Nat} {i:Nat} {o:Oper} (h:oU RR q tm D=[i]) (ho:A[i]?=some o) (g:GO P c A [o] (WK P c A RR q tm kk n (i::D) o L M) L (M++R)):GW P c A RR q tm kk (n+1) D L M R:=by
 unfold GW
 intro j hj o' ho'
 rw [h] at hj
 obtain rfl:=List.mem_singleton.1 hj
 rw [ho] at ho'
 obtain rfl:=Option.some.inj ho'
 exact g
theorem GW.two {RR:List Nat} {q n:Nat} {D:List Nat} {i1 i2:Nat} {o1 o2:Oper} (h:oU RR q tm D=[i1,i2]) (h1:A[i1]?=some o1) (h2:A[i2]?=some o2) (g1:GO P c A [o1] (WK P c A RR q tm kk n (i1::D) o1 L M) L (M++R)) (g2:GO P c A [o2] (WK P c A RR q tm kk n (i2::D) o2 L M) L (M++R)):GW P c A RR q tm kk (n+1) D L M R:=by
 unfold GW
 intro j hj o' ho'
 rw [h] at hj
 rcases List.mem_cons.1 hj with rfl | hj
 ·rw [h1] at ho'
  obtain rfl:=Option.some.inj ho'
  exact g1
 ·obtain rfl:=List.mem_singleton.1 hj
  rw [h2] at ho'
  obtain rfl:=Option.some.inj ho'
  exact g2
theorem zK {q:Nat} {m:Region.Mode} {V:Nat→Value} {RR:List Nat} {kk:Env→List HP→Prop} (ok:chk c.N q A RR=true) (xok:BL q tm A RR=true) (tp:mh m A (lG m A) 0=true)
  (hV:∀ i,i < q→Nat.testBit tm i=false→∀ o,A[i]?=some o→∀ Z,GO P c A [o] (KQ (ext o.dst (V i) (cY A tm V L i)) (M++Z)) (cY A tm V L i) (M++Z))
  (hkk:∀ L' H',kk L' H'→GO P c A (A.toList.drop q) K L' H'):∀ (n t:Nat) (B:Array Bool) (a:Act) (w:World) (nT:Nat) (D:List Nat) (Lv:Env) (R:List HP),
  B.size=A.size→lu A RR B→(List.range A.size).countP (fun i=>!B.getD i true)=n→(∀ i,q≤i→i < A.size→B.getD i true=false) →
  a.tmps.size=c.N→Same c.w0 w→(∃ ds:List Nat,a.defers=ds.map dX++c.D∧((c.r.isSome || c.nd)=true→ds=[])∧sat ((M++R)++(c.X++ds.map cA)) w) →
  n8 q tm D=nT→(∀ j,j < q→Nat.testBit tm j=true→(B.getD j true=true↔j∈D))→GW P c A RR q tm kk nT D Lv M R →
  (∀ j d,j < q→Nat.testBit tm j=false→aK A j d→aR Lv d=some (V j))→(∀ s,(∀ j,j < q→¬ aK A j s)→aR Lv s=aR L s) →
  (∀ s v,aR Lv s=some v→s < c.N)→(∀ s v,aR Lv s=some v→(∀ j,j < q→Nat.testBit tm j=false→B.getD j true=false→¬ aK A j s)→a.tmps[s]?=some v) →
  wpOpsIn (fen c.r) 0 P A (gK c K) (lin m A n t B) a w:=by
 have hok:=ok
 unfold chk at hok
 simp only [Bool.and_eq_true,List.all_eq_true,List.mem_range] at hok
 obtain ⟨hqb,hok⟩:=hok
 have hq:q≤A.size:=by simpa using hqb
 have hop:∀ i (hi:i < A.size),kJ c.N q A RR i A[i]=true:=fun i hi=>by have:=hok i hi;simpa [hi] using this
 have hqop:∀ i (hi:i < A.size),i < q→lA A[i].op=true∧(∀ d,A[i].dst=some d→d < c.N∧∀ j,j < q→j≠i→¬ aK A j d) ∧
   (∀ t,.tmp t∈A[i].op.operands.toList→∀ j,j < q→aK A j t→bit RR i j=true∧j < i)∧(∀ j b,A[i].guard=some (j,b)→j < q∧bit RR i j=true∧j < i):=by
  intro i hi hiq
  have h:=hop i hi
  unfold kJ at h
  have hb:Nat.blt i q=true:=by simpa using hiq
  simp only [hb,cond_true,Bool.and_eq_true] at h
  obtain ⟨_,⟨⟨h1,h2⟩,h3⟩,h4⟩:=h
  refine ⟨h1,?_,?_,?_⟩
  ·intro d hd
   rw [hd] at h2
   simp only [Bool.and_eq_true,List.all_eq_true,List.mem_range] at h2
   refine ⟨by simpa using h2.1,fun j hj hne hdj=>?_⟩
   have:=h2.2 j hj
   rw [eE hdj,lH hne] at this
   simp at this
  ·intro t ht j hj hdj
   have hx:=xok
   unfold BL at hx
   simp only [List.all_eq_true,List.mem_range] at hx
   have hx:=hx i hiq
   simp only [hi,getElem?_pos,Bool.and_eq_true,List.all_eq_true,List.mem_range] at hx
   have:=hx.1 t (by unfold jE;rw [List.mem_filterMap];exact ⟨.tmp t,ht,rfl⟩) j hj
   rw [eE hdj] at this
   simp only [Bool.not_true,Bool.false_or,Bool.and_eq_true] at this
   exact ⟨this.1.1,by simpa using this.1.2⟩
  ·intro j b hg
   rw [hg] at h4
   simp only [Bool.and_eq_true] at h4
   exact ⟨by simpa using h4.1.1,h4.1.2,by simpa using h4.2⟩
 have xop:∀ i (hi:i < A.size),i < q→(∀ t,.tmp t∈A[i].op.operands.toList→∀ j,j < q→aK A j t→Nat.testBit tm i=true∨Nat.testBit tm j=false) ∧
   (∀ j b,A[i].guard=some (j,b)→Nat.testBit tm i=true∨Nat.testBit tm j=false):=by
  intro i hi hiq
  have h:=xok
  unfold BL at h
  simp only [List.all_eq_true,List.mem_range] at h
  have h:=h i hiq
  simp only [hi,getElem?_pos,Bool.and_eq_true,List.all_eq_true,List.mem_range] at h
  obtain ⟨h1,h2⟩:=h
  refine ⟨?_,?_⟩
  ·intro t ht j hj hd
   have:=h1 t (by unfold jE;rw [List.mem_filterMap];exact ⟨.tmp t,ht,rfl⟩) j hj
   rw [eE hd] at this
   simp only [Bool.not_true,Bool.false_or,Bool.and_eq_true] at this
   simpa using this.2
  ·intro j b hg
   rw [hg] at h2
   simpa using h2
 have ssa:∀ i j s,i < q→j < q→aK A i s→aK A j s→i=j:=by
  intro i j s hi hj h1 h2
  by_cases hij:i=j
  ·exact hij
  ·exfalso
   obtain ⟨o,ho,hd⟩:=h1
   have hi':i < A.size:=by omega
   simp [hi'] at ho
   have:=(hqop i hi' hi).2.1 s (by rw [ho];exact hd)
   exact this.2 j hj (Ne.symm hij) h2
 have hlenq:(A.toList.take q).length=q:=by simp;omega
 have done:∀ (B:Array Bool) (a:Act) (w:World) (nT:Nat) (D:List Nat) (Lv:Env) (R:List HP),(∀ i,i < q→B.getD i true=true)→a.tmps.size=c.N→Same c.w0 w→(∃ ds:List Nat,a.defers=ds.map dX++c.D∧((c.r.isSome || c.nd)=true→ds=[])∧sat ((M++R)++(c.X++ds.map cA)) w) →
   n8 q tm D=nT→(∀ j,j < q→Nat.testBit tm j=true→(B.getD j true=true↔j∈D))→GW P c A RR q tm kk nT D Lv M R→(∀ s v,aR Lv s=some v→(∀ j,j < q→Nat.testBit tm j=false→B.getD j true=false→¬ aK A j s)→a.tmps[s]?=some v) →
   cQ (fen c.r) P A (gK c K) (A.toList.drop q) a w:=by
  intro B a w nT D Lv R hall hN hsame hmem hp hT hgt hI
  have h0:nT=0:=by
   rw [← hp]
   unfold n8
   rw [List.countP_eq_zero]
   intro j hj
   cases hb:Nat.testBit tm j with
   | false=>simp
   | true=>
    have:=(hT j (List.mem_range.1 hj) hb).1 (hall j (List.mem_range.1 hj))
    simp [this]
  subst h0
  have h2:kk Lv (M++R):=hgt
  refine hkk _ _ h2 a w ⟨⟨hN,fun s v hs=>hI s v hs fun j hj _ hb=>?_⟩,hsame,hmem⟩
  rw [hall j hj] at hb;cases hb
 intro n
 induction n with
 | zero=>
  intro t B a w nT D Lv R hBs cl hcnt htail hN hsame hmem hp hT hgt hI1 hI2 hI3 hI4
  have hall:∀ i,i < A.size→B.getD i true=true:=by
   intro i hi
   rw [List.countP_eq_zero] at hcnt
   simpa using hcnt i (by simpa using hi)
  have hqs:q=A.size:=by
   by_cases h:q < A.size
   ·have h1:=hall q h;have h2:=htail q (by omega) h;rw [h1] at h2;cases h2
   ·omega
  have hd:=done B a w nT D Lv R (fun i hi=>hall i (by omega)) hN hsame hmem hp hT hgt hI4
  have hdrop:A.toList.drop q=[]:=by rw [hqs];simp
  rw [hdrop] at hd
  simp only [lin]
  exact hd
 | succ n ih=>
  intro t B a w nT D Lv R hBs cl hcnt htail hN hsame hmem hp hT hgt hI1 hI2 hI3 hI4
  by_cases hquiet:∀ i,i < q→B.getD i true=true
  ·
   have hB:∀ i,i < A.size→B.getD i true=decide (i < q):=by
    intro i hi
    by_cases h:i < q
    ·simp [h,hquiet i h]
    ·simp [h,htail i (by omega) hi]
   have hcn:n+1=A.size - q:=by
    rw [← hcnt,← kG q A.size hq]
    apply List.countP_congr
    intro x hx
    rw [hB x (by simpa using hx)]
   rw [lN ok (n+1) q t B (by omega) (Nat.le_refl q) hBs cl hB]
   refine dh (ji c.r) _ (A.toList.drop q) a w ?_ (done B a w nT D Lv R hquiet hN hsame hmem hp hT hgt hI4)
   apply List.ext_getElem?
   intro i
   simp only [List.getElem?_map,List.getElem?_range',List.getElem?_drop]
   by_cases h:i < n+1
   ·have h':q+i < A.size:=by omega
    simp [h,h']
   ·have h':¬ q+i < A.size:=by omega
    have e1:A.toList[q+i]?=none:=by rw [List.getElem?_eq_none];simpa using h'
    simp [h,e1]
  ·
   have hex:∃ i,i < A.size∧B.getD i true=false:=by
    apply Classical.byContradiction
    intro h
    apply hquiet
    intro i hi
    cases e:B.getD i true with
    | true=>rfl
    | false=>exact absurd ⟨i,by omega,e⟩ h
   obtain ⟨i0,hi0,hc0⟩:=kg hBs _ 0 tp (fun i h=>by simp at h) hex
   have hne:0 < ((List.range A.size).filter (eM m A B)).length:=by
    apply List.length_pos_of_mem (a:=i0)
    rw [List.mem_filter];exact ⟨by simpa using hi0,hc0⟩
   have hlt:=Nat.mod_lt t hne
   have hget:=List.getElem?_eq_getElem hlt
   generalize hidef:((List.range A.size).filter (eM m A B))[t % ((List.range A.size).filter (eM m A B)).length]=i at hget
   have himem:i∈(List.range A.size).filter (eM m A B):=by rw [← hidef];exact List.getElem_mem hlt
   rw [List.mem_filter] at himem
   obtain ⟨hir,hci⟩:=himem
   have hi:i < A.size:=by simpa using hir
   have hBi:B.getD i true=false:=pO hci
   have hiA:A[i]?=some A[i]:=by simp [hi]
   have pred:∀ j,bit RR i j=true→B.getD j true=true:=by
    intro j hj
    have h2:=eR hci hiA (hop i hi) cl hBs hj
    rw [Array.getD_eq_getD_getElem?] at h2 ⊢
    cases hb:B[j]? with
    | none=>simp
    | some b=>simp [hb] at h2 ⊢;exact h2
   have hiq:i < q:=by
    apply Classical.byContradiction
    intro hnq
    apply hquiet
    intro j hj
    have h:=hop i hi
    unfold kJ at h
    have hb:Nat.blt i q=false:=by
     cases e:Nat.blt i q with
     | false=>rfl
     | true=>
      have:i < q:=by simpa using e
      omega
    simp only [hb,cond_false,Bool.and_eq_true,List.all_eq_true,List.mem_range] at h
    exact pred j (h.2.1 j (by omega))
   obtain ⟨hqk,hdst,hops,hgd⟩:=hqop i hi hiq
   obtain ⟨xops,xgd⟩:=xop i hi hiq
   obtain ⟨ds,hdef,hdr,hsat⟩:=hmem
   have hlin:lin m A (n+1) t B=i::lin m A n (t / ((List.range A.size).filter (eM m A B)).length) (B.setIfInBounds i true):=by
    simp only [lin,hget]
   have hgd2:∀ j,(B.setIfInBounds i true).getD j true=if j=i then true else B.getD j true:=by
    intro j
    rw [Array.getD_eq_getD_getElem?,Array.getD_eq_getD_getElem?]
    by_cases h:i=j
    ·subst h
     have:i < B.size:=by omega
     simp [this]
    ·rw [Array.getElem?_setIfInBounds_ne h];simp [Ne.symm h]
   have hcl2:lu A RR (B.setIfInBounds i true):=by
    intro i' j hi' hb hj
    rw [hgd2] at hb
    have h1:B.getD j false=true:=by
     by_cases h:i'=i
     ·subst h;exact eR hci hiA (hop i' hi) cl hBs hj
     ·rw [if_neg h] at hb;exact cl i' j hi' hb hj
    rw [Array.getD_eq_getD_getElem?] at h1 ⊢
    by_cases h:i=j
    ·subst h
     have:i < B.size:=by omega
     simp [this]
    ·rw [Array.getElem?_setIfInBounds_ne h];exact h1
   have hcnt2:(List.range A.size).countP (fun j=>!(B.setIfInBounds i true).getD j true)=n:=by
    have:=fx (f:=fun j=>!B.getD j true) (g:=fun j=>!(B.setIfInBounds i true).getD j true) (i:=i) (by simp [hBi]) (by simp [hgd2]) (fun j hj=>by simp [hgd2,hj]) (List.range A.size) List.nodup_range (by simpa using hi)
    omega
   have htail2:∀ j,q≤j→j < A.size→(B.setIfInBounds i true).getD j true=false:=by
    intro j hj hja
    rw [hgd2,if_neg (by omega)];exact htail j hj hja
   have hsee:∀ s,(.tmp s∈A[i].op.operands.toList∨∃ j b,A[i].guard=some (j,b)∧aK A j s)→∀ j,j < q→Nat.testBit tm j=false→B.getD j true=false→¬ aK A j s:=by
    intro s hs j hj _ hb hd
    have hE:bit RR i j=true:=by
     rcases hs with hs | ⟨j',b,hg,hd'⟩
     ·exact (hops s hs j hj hd).1
     ·obtain ⟨hj',hE⟩:=hgd j' b hg
      have:j'=j:=ssa j' j s hj' hj hd' hd
      subst this;exact hE.1
    rw [pred j hE] at hb;cases hb
   rw [hlin]
   cases hti:Nat.testBit tm i with
   | false=>
    obtain ⟨l1,l2⟩:=iz (V:=V) (L:=L) (tm:=tm) hq ssa i (by omega)
    let a2:Act:={ tmps:=Array.ofFn (n:=c.N) fun s=>(aR (cY A tm V L i) s.1).getD (a.tmps.getD s.1 undef),defers:=a.defers }
    have ha2:∀ s,s < c.N→a2.tmps[s]?=some ((aR (cY A tm V L i) s).getD (a.tmps.getD s undef)):=by
     intro s hs;simp [a2,Array.getElem?_ofFn,hs]
    have hLv:∀ s v,aR (cY A tm V L i) s=some v→(∃ j,j < i∧Nat.testBit tm j=false∧aK A j s∧v=V j)∨((∀ j,j < i→Nat.testBit tm j=false→¬ aK A j s)∧aR L s=some v):=by
     intro s v hs
     by_cases h:∃ j,j < i∧Nat.testBit tm j=false∧aK A j s
     ·obtain ⟨j,hj,hjb,hd⟩:=h
      rw [l1 j s hj hjb hd] at hs
      exact .inl ⟨j,hj,hjb,hd,by simpa using hs.symm⟩
     ·have hn:∀ j,j < i→Nat.testBit tm j=false→¬ aK A j s:=fun j hj hjb hd=>h ⟨j,hj,hjb,hd⟩
      rw [l2 s hn] at hs
      exact .inr ⟨hn,hs⟩
    have hdN:∀ j s,j < q→aK A j s→s < c.N:=by
     intro j s hj hd
     obtain ⟨o,ho1,ho2⟩:=hd
     have hj':j < A.size:=by omega
     simp [hj'] at ho1
     exact ((hqop j hj' hj).2.1 s (by rw [ho1];exact ho2)).1
    have hLN:∀ s v,aR (cY A tm V L i) s=some v→s < c.N:=by
     intro s v hs
     rcases hLv s v hs with ⟨j,hj,_,hd,_⟩ | ⟨_,hl⟩
     ·exact hdN j s (by omega) hd
     ·by_cases h':∃ j,j < q∧aK A j s
      ·obtain ⟨j,hj,hd⟩:=h';exact hdN j s hj hd
      ·exact hI3 s v (by rw [hI2 s fun j hj hd=>h' ⟨j,hj,hd⟩];exact hl)
    have hst2:St c (cY A tm V L i) (M++R) a2 w:=⟨⟨by simp [a2],fun s v hs=>by rw [ha2 s (hLN s v hs),hs];rfl⟩,hsame,ds,hdef,hdr,hsat⟩
    have hone:=hV i hiq hti A[i] hiA R a2 w hst2
    have hone1:=jF (F:=fen c.r) (P:=P) (A:=A) (o:=A[i]) (a:=a2) (w:=w) (fun e a w h=>by obtain ⟨_,_,_,h,_⟩:=h;exact h) hone
    have hslot:∀ s,(.tmp s∈A[i].op.operands.toList∨∃ j b,A[i].guard=some (j,b)∧aK A j s)→a.tmps[s]?=a2.tmps[s]?:=by
     intro s hs
     by_cases hsN:s < c.N
     ·rw [ha2 s hsN]
      cases hl:aR (cY A tm V L i) s with
      | none=>
       simp only [Option.getD_none]
       rw [Array.getD_eq_getD_getElem?]
       have hh:s < a.tmps.size:=by omega
       simp [hh]
      | some v=>
       rw [Option.getD_some]
       refine hI4 s v ?_ (hsee s hs)
       rcases hLv s v hl with ⟨j,hj,hjb,hd,rfl⟩ | ⟨hn,hl'⟩
       ·exact hI1 j s (by omega) hjb hd
       ·rw [hI2 s]
        ·exact hl'
        ·intro j hj hd
         rcases hs with hs | ⟨j',b,hg,hd'⟩
         ·obtain ⟨_,hji⟩:=hops s hs j hj hd
          rcases xops s hs j hj hd with h | h
          ·rw [hti] at h;cases h
          ·exact hn j hji h hd
         ·obtain ⟨hj',_,hji⟩:=hgd j' b hg
          have:j'=j:=ssa j' j s hj' hj hd' hd
          subst this
          rcases xgd j' b hg with h | h
          ·rw [hti] at h;cases h
          ·exact hn j' hji h hd
     ·have h1:a.tmps[s]?=none:=by rw [Array.getElem?_eq_none];omega
      have h2:a2.tmps[s]?=none:=by rw [Array.getElem?_eq_none];simp [a2];omega
      rw [h1,h2]
    have hone2:=kr (A:=A) hqk (fun s hs=>hslot s (.inl hs)) (fun j b hg s hd=>hslot s (.inr ⟨j,b,hg,hd⟩)) hone1
    refine iv (ji c.r) hiA (gq hone2 ?_)
    rintro Dd v w' ⟨L',H',⟨hat,hs',ds',hdef',hdr',hsat'⟩,_,rfl,hsb⟩
    have hv:∀ d,A[i].dst=some d→v=V i:=by
     intro d hd
     have h1:=hat.2 d (V i) (by rw [hd];simp [ext,aR])
     rw [hd,dI (by simp [a2];exact (hdst d hd).1)] at h1
     simpa using h1
    refine ih _ _ _ w' nT D Lv R (by simpa using hBs) hcl2 hcnt2 htail2 ?_ hs' ?_ hp ?_ hgt hI1 hI2 hI3 ?_
    ·cases hd:A[i].dst <;> simp only [Act.putD,Act.put,Array.size_setIfInBounds,hN]
    ·refine ⟨ds',?_,hdr',(Sb.app hsb).sat hsat'⟩
     have:(Act.putD a2 Dd A[i].dst v).defers=Dd++a.defers:=by cases A[i].dst <;> rfl
     rw [this] at hdef'
     cases A[i].dst <;> exact hdef'
    ·intro j hj hjt
     rw [hgd2,if_neg (by intro e;subst e;rw [hti] at hjt;cases hjt)]
     exact hT j hj hjt
    ·intro s u hs hnone
     by_cases hd:A[i].dst=some s
     ·rw [hd,hv s hd]
      rw [hI1 i s hiq hti ⟨A[i],hiA,hd⟩] at hs
      simp only [Option.some.injEq] at hs
      rw [← hs]
      exact dI (Nat.lt_of_lt_of_eq (hdst s hd).1 hN.symm)
     ·rw [ko (fun d' hd' e=>hd (by rw [hd',e]))]
      refine hI4 s u hs fun j hj hjt hb hdj=>?_
      by_cases hji:j=i
      ·subst hji
       obtain ⟨o,ho1,ho2⟩:=hdj
       rw [hiA] at ho1
       simp only [Option.some.injEq] at ho1
       exact hd (by rw [ho1];exact ho2)
      ·exact hnone j hj hjt (by rw [hgd2,if_neg hji];exact hb) hdj
   | true=>
    have hiD:i ∉ D:=fun h=>by
     have:=(hT i hiq hti).2 h
     rw [hBi] at this;cases this
    have hnx:i∈oU RR q tm D:=by
     unfold oU
     refine List.mem_filter.2 ⟨List.mem_range.2 hiq,?_⟩
     rw [hti,Bool.true_and,Bool.and_eq_true]
     refine ⟨by simpa using hiD,List.all_eq_true.2 fun j hj=>?_⟩
     have hjq:=List.mem_range.1 hj
     cases hb1:bit RR i j with
     | false=>rfl
     | true=>
      cases hb2:Nat.testBit tm j with
      | false=>rfl
      | true=>
       have:=(hT j hjq hb2).1 (pred j hb1)
       simp [this]
    have hlft:n8 q tm D=n8 q tm (i::D)+1:=by
     unfold n8
     have:=fx (f:=fun j=>Nat.testBit tm j && !D.contains j) (g:=fun j=>Nat.testBit tm j && !(i::D).contains j) (i:=i) (by simp [hti,hiD]) (by simp) (fun j hj=>by simp [hj]) (List.range q) List.nodup_range (by simpa using hiq)
     omega
    obtain ⟨nT',rfl⟩:∃ m,nT=m+1:=⟨_,hp.symm.trans hlft⟩
    have hgt2:=hgt
    unfold GW at hgt2
    have hgt2:=hgt2 i hnx A[i] hiA
    let a2:Act:={ tmps:=Array.ofFn (n:=c.N) fun s=>(aR Lv s.1).getD (a.tmps.getD s.1 undef),defers:=a.defers }
    have ha2:∀ s,s < c.N→a2.tmps[s]?=some ((aR Lv s).getD (a.tmps.getD s undef)):=by
     intro s hs;simp [a2,Array.getElem?_ofFn,hs]
    have hst2:St c Lv (M++R) a2 w:=⟨⟨by simp [a2],fun s v hs=>by rw [ha2 s (hI3 s v hs),hs];rfl⟩,hsame,ds,hdef,hdr,hsat⟩
    have hone:=hgt2 a2 w hst2
    have hone1:=jF (F:=fen c.r) (P:=P) (A:=A) (o:=A[i]) (a:=a2) (w:=w) (fun e a w h=>by obtain ⟨_,_,_,h,_⟩:=h;exact h) hone
    have hslot:∀ s,(.tmp s∈A[i].op.operands.toList∨∃ j b,A[i].guard=some (j,b)∧aK A j s)→a.tmps[s]?=a2.tmps[s]?:=by
     intro s hs
     by_cases hsN:s < c.N
     ·rw [ha2 s hsN]
      cases hl:aR Lv s with
      | none=>
       simp only [Option.getD_none]
       rw [Array.getD_eq_getD_getElem?]
       have hh:s < a.tmps.size:=by omega
       simp [hh]
      | some v=>
       rw [Option.getD_some]
       exact hI4 s v hl (hsee s hs)
     ·have h1:a.tmps[s]?=none:=by rw [Array.getElem?_eq_none];omega
      have h2:a2.tmps[s]?=none:=by rw [Array.getElem?_eq_none];simp [a2];omega
      rw [h1,h2]
    have hone2:=kr (A:=A) hqk (fun s hs=>hslot s (.inl hs)) (fun j b hg s hd=>hslot s (.inr ⟨j,b,hg,hd⟩)) hone1
    refine iv (ji c.r) hiA (gq hone2 ?_)
    rintro Dd v w' ⟨L',H',⟨hat,hs',ds',hdef',hdr',hsat'⟩,_,v',R',rfl,hsb,hgt3⟩
    have hv:∀ d,A[i].dst=some d→v=v':=by
     intro d hd
     have h1:=hat.2 d v' (by rw [hd];simp [ext,aR])
     rw [hd,dI (by simp [a2];exact (hdst d hd).1)] at h1
     simpa using h1
    have hnd:∀ s,A[i].dst=some s→∀ j,j < q→j≠i→¬ aK A j s:=fun s hs j hj hji=>(hdst s hs).2 j hj hji
    refine ih _ _ _ w' nT' (i::D) (ext A[i].dst v' Lv) R' (by simpa using hBs) hcl2 hcnt2 htail2 ?_ hs' ?_ (by omega) ?_ hgt3 ?_ ?_ ?_ ?_
    ·cases hd:A[i].dst <;> simp only [Act.putD,Act.put,Array.size_setIfInBounds,hN]
    ·refine ⟨ds',?_,hdr',hsb _ _ hsat'⟩
     have:(Act.putD a2 Dd A[i].dst v).defers=Dd++a.defers:=by cases A[i].dst <;> rfl
     rw [this] at hdef'
     cases A[i].dst <;> exact hdef'
    ·intro j hj hjt
     rw [hgd2]
     by_cases hji:j=i
     ·subst hji;simp
     ·rw [if_neg hji,hT j hj hjt]
      simp [hji]
    ·intro j d hj hjt hd
     rw [dE,if_neg (fun e=>hnd d e j hj (by intro e';subst e';rw [hti] at hjt;cases hjt) hd)]
     exact hI1 j d hj hjt hd
    ·intro s hs
     rw [dE,if_neg (fun e=>hs i hiq ⟨A[i],hiA,e⟩)]
     exact hI2 s hs
    ·intro s u hs
     rw [dE] at hs
     by_cases hd:A[i].dst=some s
     ·exact (hdst s hd).1
     ·rw [if_neg hd] at hs;exact hI3 s u hs
    ·intro s u hs hnone
     rw [dE] at hs
     by_cases hd:A[i].dst=some s
     ·rw [if_pos hd] at hs
      simp only [Option.some.injEq] at hs
      rw [hd,hv s hd,hs]
      exact dI (Nat.lt_of_lt_of_eq (hdst s hd).1 hN.symm)
     ·rw [if_neg hd] at hs
      rw [ko (fun d' hd' e=>hd (by rw [hd',e]))]
      refine hI4 s u hs fun j hj hjt hb hdj=>?_
      have hji:j≠i:=by intro e;subst e;rw [hti] at hjt;cases hjt
      exact hnone j hj hjt (by rw [hgd2,if_neg hji];exact hb) hdj
theorem G.drawW {id:Nat} (q tm n:Nat) (M R:List HP) (kk:Env→List HP→Prop) (ok:tz c.N q tm A=true) (hn:n8 q tm []=n) (hL:∀ s v,aR L s=some v→s < c.N) (tk:ImpS H (M++R))
  (h:GR P c A tm 0 (A.toList.take q) (fun L'=>GW P c A (qH A A.size) q tm kk n [] L' M R) L M) (hkk:∀ L' H',kk L' H'→GO P c A (A.toList.drop q) K L' H'):G P c (.region id A true) K L H:=by
 intro a w hs
 refine wpIn_region_draw fun t=>?_
 unfold tz jW at ok
 simp only [Bool.and_eq_true] at ok
 obtain ⟨⟨ok1,ok2,ok3,ok4⟩,xok⟩:=ok
 have hq:q≤A.size:=by
  unfold chk at ok1
  simp only [Bool.and_eq_true] at ok1
  simpa using ok1.1
 have hlen:(A.toList.take q).length=q:=by simp;omega
 have hAt:∀ j o,(A.toList.take q)[j]?=some o→A[0+j]?=some o:=fun j o hj=>by
  have:=(List.getElem?_eq_some_iff.1 hj).1
  rw [hlen] at this
  rw [List.getElem?_take_of_lt this] at hj
  simpa using hj
 obtain ⟨V,_,hV,hk⟩:=GR.get (A.toList.take q) 0 (fun _=>undef) hAt (by simpa [cY] using h)
 rw [hlen,Nat.zero_add] at hV hk
 have hok:=ok1
 unfold chk at hok
 simp only [Bool.and_eq_true,List.all_eq_true,List.mem_range] at hok
 have hdd:∀ i d,i < q→aK A i d→d < c.N∧∀ j,j < q→j≠i→¬ aK A j d:=by
  intro i d hi hd
  have hi':i < A.size:=by omega
  have h:=hok.2 i hi'
  simp only [hi',getElem?_pos] at h
  obtain ⟨o,ho1,ho2⟩:=hd
  simp [hi'] at ho1
  rw [ho1] at h
  unfold kJ at h
  have hb:Nat.blt i q=true:=by simpa using hi
  simp only [hb,cond_true,Bool.and_eq_true] at h
  obtain ⟨_,⟨⟨_,h2⟩,_⟩,_⟩:=h
  rw [ho2] at h2
  simp only [Bool.and_eq_true,List.all_eq_true,List.mem_range] at h2
  refine ⟨by simpa using h2.1,fun j hj hne hdj=>?_⟩
  have:=h2.2 j hj
  rw [eE hdj,lH hne] at this
  simp at this
 have ssa:∀ i j s,i < q→j < q→aK A i s→aK A j s→i=j:=by
  intro i j s hi hj h1 h2
  by_cases hij:i=j
  ·exact hij
  ·exact absurd h2 ((hdd i s hi h1).2 j hj (Ne.symm hij))
 obtain ⟨l1,l2⟩:=iz (V:=V) (L:=L) (tm:=tm) hq ssa q (Nat.le_refl q)
 have run:∀ m t,mh m A (lG m A) 0=true→wpOpsIn (fen c.r) 0 P A (gK c K) (Region.linearise m A t) a { w with drawn:=w.drawn+1 }:=by
  intro m t tp
  unfold Region.linearise
  rw [tc]
  simp only [List.reverse_nil,List.nil_append]
  obtain ⟨h1,h2,ds,h3,h4,h5⟩:=hs
  have hrep:∀ i,i < A.size→(Array.replicate A.size false).getD i true=false:=by
   intro i hi;rw [Array.getD_eq_getD_getElem?];simp [hi]
  refine zK (RR:=qH A A.size) ok1 xok tp (fun i hi hb o ho Z=>hV i (Nat.zero_le _) hi hb o ho Z) hkk _ _ _ a _ n [] (cY A tm V L q) R (by simp) (fun i j hi hb=>by rw [hrep i hi] at hb;cases hb) ?_ (fun i _ hi=>hrep i hi) h1.1 (h2.trans (Same.drawn _ (Nat.le_add_right _ _))) ⟨ds,h3,h4,?_⟩ hn ?_ hk (fun j d hj hb hd=>l1 j d hj hb hd) (fun s hs=>l2 s fun j hj _=>hs j hj) ?_ ?_
  ·rw [List.countP_eq_length.2]
   ·simp
   ·intro i hi;rw [hrep i (by simpa using hi)];rfl
  ·exact fD (tk _ _ h5) rfl
  ·intro j hj _
   rw [hrep j (by omega)]
   simp
  ·intro s v hs
   by_cases h:∃ j,j < q∧aK A j s
   ·obtain ⟨j,hj,hd⟩:=h;exact (hdd j s hj hd).1
   ·rw [l2 s fun j hj _ hd=>h ⟨j,hj,hd⟩] at hs
    exact hL s v hs
  ·intro s v hs hno
   have hn:∀ j,j < q→Nat.testBit tm j=false→¬ aK A j s:=fun j hj hb=>hno j hj hb (hrep j (by omega))
   rw [l2 s hn] at hs
   exact h1.2 s v hs
 unfold Region.schedule
 split
 ·exact run _ _ ok2
 ·split
  ·exact run _ _ ok3
  ·exact run _ _ ok4
end
end
section
attribute [local irreducible] pt init exs pur own
section
variable {P:Program} {c:Cx} {A:Array Oper} {rest:List Oper} {K:aY} {L:Env} {H:List HP} {t:TypeId} {p:String} {e:Array Edge} {d:Nat}
theorem qD {zc:Array Value} {z:Value} (h:zc.toList=[z]) (n:Nat):madeCells zc n=(List.replicate n z).toArray:=by
 have hz:zc=#[z]:=by
  apply Array.ext';simpa using h
 subst hz
 unfold madeCells
 apply Array.ext'
 apply List.ext_getElem?
 intro i
 simp only [Array.toList_map,Array.toList_range,List.getElem?_map,List.toList_toArray,List.getElem?_replicate]
 by_cases hi:i < n
 ·simp [hi,Nat.mod_one]
 ·simp [hi]
theorem GO.make1 {ty el:TypeId} {by_ n:Nat} {z:Value} {x y:Operand} {kx ky:IntKind} {m1 m2:Int} [hu:UL P ty (.slice el)] [hs:SZ P el 1] [hb:BY P el by_] [hz:ZC P el [z]] (hN:Nat.blt d c.N=true) (hx:evl L x=some (.int kx m1)) (hy:evl L y=some (.int ky m2)) (hm:m1=(n:Int)∧m2=(n:Int))
  (hbytes:n * by_≤281474976710656∧n≤9223372036854775807) (k:∀ b,GO P c A rest K ((d,.slice (some ⟨b,0,none⟩) n n)::L) (pt b (row (List.replicate n z) el)::H)):GO P c A (⟨some d,.makeSlice ty x y,t,p,e,none⟩::rest) K L H:=
 GO.gen hN rfl (fun v H'=>∃ b,v=.slice (some ⟨b,0,none⟩) n n∧H'=pt b (row (List.replicate n z) el)::H)
  (fun a w Y h s=>by
   obtain ⟨rfl,rfl⟩:=hm
   have hso:=hs.out
   have hzo:=hz.out
   have hbo:=hb.out
   cases hq:P.info? el with
   | none=>simp [hq] at hso
   | some ie=>
    cases hzz:ie.zero with
    | none=>simp [hq,hzz] at hzo
    | some zz=>
     have hsz2:ie.size=1:=by simpa [hq] using hso
     have hby:ie.bytes=by_:=by simpa [hq] using hbo
     have hzl:zz.cells.toList=[z]:=by simpa [hq,hzz] using hzo
     have hr:=run_make (P:=P) w ty el ie zz hu.out hq hzz kx ky (n:Int) (n:Int) (by omega) (by omega) (by rw [hby];have h9:=Int.ofNat_le.2 hbytes.1;rw [Int.natCast_mul,Int.mul_comm] at h9;exact h9) (by have:=hbytes.2;omega)
     rw [hsz2,Nat.mul_one,Int.toNat_natCast,qD hzl] at hr
     refine ⟨_,_,_,?_,Same.alloc w _,⟨w.heap.size,rfl,rfl⟩,bh s _⟩
     simp only [execOp,h.eval hx,h.eval hy]
     rw [Sem.run_bind,hr];rfl)
  (by rintro _ _ ⟨b,rfl,rfl⟩;exact k b)
theorem GO.sliceLo {ty el:TypeId} {sz n cap l b o:Nat} {kk:IntKind} {i:Int} {x y:Operand} [hu:UL P ty (.slice el)] [hs:SZ P el sz] (hN:Nat.blt d c.N=true) (hx:evl L x=some (.slice (some ⟨b,o,none⟩) n cap)) (hy:evl L y=some (.int kk i)) (hi:i=(l:Int)∧l≤n∧l < cap)
  (k:GO P c A rest K ((d,.slice (some ⟨b,o+l * sz,none⟩) (n - l) (cap - l))::L) H):GO P c A (⟨some d,.slice ty x (some y) none none,t,p,e,none⟩::rest) K L H:=
 GO.val hN rfl (fun a w Y h _=>by
  obtain ⟨rfl,h1,h2⟩:=hi
  have hle:(l:Int)≤n:=by omega
  have hne:¬ cap=l:=by omega
  simp only [execOp,h.eval hx,Option.map_none,Option.map_some,h.eval hy]
  simp [Instr.sliceAt,Instr.slice,Sem.run_bind,run_underlying hu.out,Instr.sliceBounds,run_sliceBound w _ _ _ _ (Int.natCast_nonneg l) hle,bJ,Result.andThen,hne,cL]) k
theorem GO.sliceHi {ty el:TypeId} {sz n cap l b o:Nat} {kk:IntKind} {i:Int} {x y:Operand} [hu:UL P ty (.slice el)] [hs:SZ P el sz] (hN:Nat.blt d c.N=true) (hx:evl L x=some (.slice (some ⟨b,o,none⟩) n cap)) (hy:evl L y=some (.int kk i)) (hi:i=(l:Int)∧l≤cap)
  (k:GO P c A rest K ((d,.slice (some ⟨b,o,none⟩) l cap)::L) H):GO P c A (⟨some d,.slice ty x none (some y) none,t,p,e,none⟩::rest) K L H:=
 GO.val hN rfl (fun a w Y h _=>by
  obtain ⟨rfl,h1⟩:=hi
  have hle:(l:Int)≤cap:=by omega
  have e0:(⟨b,o,none⟩:Addr).add 0=⟨b,o,none⟩:=cL b o 0
  simp only [execOp,h.eval hx,Option.map_none,Option.map_some,h.eval hy]
  simp [Instr.sliceAt,Instr.slice,Sem.run_bind,run_underlying hu.out,Instr.sliceBounds,run_sliceBound w _ _ _ _ (Int.natCast_nonneg l) hle,bJ,Result.andThen,e0]) k
end
def upd {α:Type} (o:Nat→α) (j:Nat) (b:α):Nat→α:=fun i=>if i=j then b else o i
def fG {α:Type} (f:α→Value) (o:Nat→α) (n:Nat):List Value:=(List.range n).map fun i=>f (o i)
section
variable {α:Type} {f:α→Value} {o:Nat→α} {n j:Nat}
theorem oH:(fG f o n).length=n:=by simp [fG]
theorem AI (h:j < n):(fG f o n)[j]?=some (f (o j)):=by simp [fG,h]
theorem eo (h:j < n):(fG f o n)[0+j * 1]?=some (f (o j)):=by rw [Nat.zero_add,Nat.mul_one];exact AI h
theorem oG {b:α}:(fG f o n).set (0+j * 1) (f b)=fG f (upd o j b) n:=by
 rw [Nat.zero_add,Nat.mul_one]
 apply List.ext_getElem?
 intro i
 rw [List.getElem?_set]
 simp only [fG,List.length_map,List.length_range,List.getElem?_map]
 by_cases hi:i < n
 ·by_cases e:j=i
  ·subst e;simp [hi,upd]
  ·simp [hi,e,upd,Ne.symm e]
 ·by_cases e:j=i
  ·subst e;simp [hi]
  ·simp [hi,e]
theorem oI {a:α}:List.replicate n (f a)=fG f (fun _=>a) n:=by
 apply List.ext_getElem?
 intro i
 simp only [fG,List.getElem?_map,List.getElem?_replicate]
 by_cases hi:i < n <;> simp [hi]
end
abbrev jk (o:Nat→Bool) (n:Nat):List Value:=fG Value.bool o n
end
section
attribute [local irreducible] pt init exs pur own
section
variable {P:Program} {c:Cx} {A:Array Oper} {os:List Oper} {K:aY} {L:Env} {H:List HP} {C:Code} {d:Nat} {u v:Value}
end
section
variable {P:Program} {c:Cx} {A:Array Oper} {rest:List Oper} {K:aY} {L:Env} {H:List HP} {t:TypeId} {p:String} {e:Array Edge}
variable {d:Nat} {ty ty':TypeId} {x y:Operand}
theorem GO.neqF {b b':Bool} [hu:UL P ty .bool] (hN:Nat.blt d c.N=true) (hx:evl L x=some (.bool b)) (hy:evl L y=some (.bool b')) (h:b=b')
  (k:GO P c A rest K ((d,.bool false)::L) H):GO P c A (⟨some d,.binOp .neq ty x y ty',t,p,e,none⟩::rest) K L H:=
 GO.neqB hN hx hy (by rw [h,beq_self_eq_true];exact k)
theorem GO.pickTa {x y z:Operand} {v:Value} {b:Bool} (hN:Nat.blt d c.N=true) (hx:evl L x=some (.bool b)) (hb:b=true) (hy:evl L y=some v) (k:GO P c A rest K ((d,v)::L) H):GO P c A (⟨some d,.pick x y z,t,p,e,none⟩::rest) K L H:=by
 subst hb;exact GO.pickT hN hx hy k
theorem GO.pickFa {x y z:Operand} {v:Value} {b:Bool} (hN:Nat.blt d c.N=true) (hx:evl L x=some (.bool b)) (hb:b=false) (hz:evl L z=some v) (k:GO P c A rest K ((d,v)::L) H):GO P c A (⟨some d,.pick x y z,t,p,e,none⟩::rest) K L H:=by
 subst hb;exact GO.pickF hN hx hz k
end
end
section
attribute [local irreducible] pt init exs pur own
section
variable {P:Program} {c:Cx} {A:Array Oper} {rest os:List Oper} {K:aY} {L:Env} {H F:List HP} {t:TypeId} {p:String} {e:Array Edge} {d:Nat} {C:Code}
theorem qo (z:Array Value) (n:Nat):(Builtin.zeroCells z n).toList.length=n * z.size:=by simp [Builtin.zeroCells]
theorem qm {z:Array Value} {n:Nat} (h:∀ u∈z.toList,u.oneCell'=true):∀ u∈(Builtin.zeroCells z n).toList,u.oneCell'=true:=by
 intro u hu
 simp only [Builtin.zeroCells,Array.toList_map,Array.toList_range,List.mem_map,List.mem_range] at hu
 obtain ⟨i,hi,rfl⟩:=hu
 have hz:0 < z.size:=by
  apply Nat.pos_of_ne_zero
  intro h0
  rw [h0] at hi;simp at hi
 have hlt:i % z.size < z.size:=Nat.mod_lt _ hz
 rw [getElem!_pos z _ hlt]
 exact h _ (by simp)
theorem GO.clear {dT el T:TypeId} {b o n cap:Nat} {l zl:List Value} {x:Operand} [hu:UL P dT (.slice el)] [hz:ZC P el zl] (hx:evl L x=some (.slice (some ⟨b,o,none⟩) n cap)) (tk:Tk (pt b (row l T)) H F)
  (hn:0 < n) (ho:o+n * zl.length≤l.length) (h1:∀ u∈zl,u.oneCell'=true)
  (k:∀ vs:List Value,vs.length=n * zl.length→GO P c A rest K L (pt b (row (l.take o++vs++l.drop (o+vs.length)) T)::F)):GO P c A (⟨none,.call ⟨.builtin .clear,#[x],#[dT]⟩,t,p,e,none⟩::rest) K L H:=
 GO.gen0 rfl (fun _ H'=>∃ vs:List Value,vs.length=n * zl.length∧H'=pt b (row (l.take o++vs++l.drop (o+vs.length)) T)::F)
  (fun a w Y h s=>by
   obtain ⟨z,hz1,hz2⟩:=mU (P:=P) (t:=el) w
   have hzl:z.cells.toList=zl:=by rw [hz2]
   have hzs:z.cells.size=zl.length:=by rw [← hzl,Array.length_toList]
   have hlen:=qo z.cells n
   rw [hzs] at hlen
   have s1:=ai (List.Perm.append_right Y tk) s
   obtain ⟨w',hr,hs',s'⟩:=rh (P:=P) (vs:=(Builtin.zeroCells z.cells n).toList) s1 (by rw [hlen];exact ho) (qm (by rw [hzl];exact h1))
   refine ⟨.tuple #[],w',_,?_,hs',⟨_,hlen,rfl⟩,s'⟩
   obtain ⟨m,rfl⟩:∃ m,n=m+1:=⟨n - 1,by omega⟩
   simp only [execOp,resolve,invoke,builtin]
   simp only [List.map_toArray,List.map_cons,List.map_nil,Sem.run_bind,Result.andThen,Sem.run_pure,h.eval hx]
   simp [Builtin.clear_,run_underlying hu.out,hz1,Result.andThen,hr,Sem.run_bind])
  (by rintro _ _ ⟨vs,hvs,rfl⟩;exact k vs hvs)
theorem EqR.slNil {ty e:TypeId} {a:Option Addr} {m cap:Nat} [hu:UL P ty (.slice e)] {n:Nat}:EqR P (n+1) ty (.slice a m cap) (.slice none 0 0) a.isNone:=fun w=>by
 cases a <;> simp [Op.equalIn,Sem.run_bind,run_underlying hu.out,Result.andThen]
theorem GO.eqNilS {ty ty' e':TypeId} {x:Operand} {a:Option Addr} {m cap:Nat} [hu:UL P ty (.slice e')] (hN:Nat.blt d c.N=true) (hx:evl L x=some (.slice a m cap))
  (k:GO P c A rest K ((d,.bool a.isNone)::L) H):GO P c A (⟨some d,.binOp .eql ty x (.const (.slice none 0 0)) ty',t,p,e,none⟩::rest) K L H:=
 GO.val hN rfl (fun s w Y h _=>by
  have hc:s.eval (.const (.slice none 0 0))=.slice none 0 0:=rfl
  simp only [execOp,h.eval hx,hc]
  have:=(EqR.slNil:EqR P 10000 ty (.slice a m cap) (.slice none 0 0) a.isNone) w
  simp [Sem.run_bind,eqGuard,binOp,Op.equal,Op.maxDepth,this,Result.andThen]) k
theorem CS {el:TypeId} {sz n:Nat} {v:Value} {xs:List Value} {l:List HP} {w:World} (s:sat (own el sz n v xs::l) w):Sl (own el sz n v xs) v n sz xs:=by
 rcases bK s with ⟨rfl,rfl,rfl,_⟩ | ⟨b,cap,rest',rfl,g1,_,_,_,_⟩
 ·exact ⟨none,0,rfl,by simp,fun h=>absurd h (by omega)⟩
 ·refine ⟨_,_,rfl,g1,fun _=>⟨b,0,rfl,fun j u hj l' w' s'=>?_⟩⟩
  rcases bK s' with ⟨h,_⟩ | ⟨b2,cap2,rest2,h,_,_,_,_,s2⟩
  ·cases h
  ·injection h with h _ _
   injection h with h
   injection h with h _ _
   subst h
   rw [Nat.zero_add]
   have hj2:(xs++rest2)[j]?=some u:=by rw [List.getElem?_append_left (List.getElem?_eq_some_iff.1 hj).1];exact hj
   exact Rd.row hj2 l' w' s2
theorem GO.ownSl {el:TypeId} {sz n:Nat} {v:Value} {xs:List Value} (tk:Tk (own el sz n v xs) H F) (k:Sl (own el sz n v xs) v n sz xs→GO P c A os K L H):GO P c A os K L H:=by
 rintro a w ⟨h1,h2,ds,h3,h4,h5⟩
 exact k (CS (ai (List.Perm.append_right _ tk) h5)) a w ⟨h1,h2,ds,h3,h4,h5⟩
theorem G.own_open {el:TypeId} {sz n:Nat} {v:Value} {xs:List Value} (tk:Tk (own el sz n v xs) H F)
  (k0:v=.slice none 0 0→n=0→xs=[]→G P c C K L F)
  (k:∀ b cap rest,v=.slice (some ⟨b,0,none⟩) n cap→xs.length=n * sz→n≤cap→cap≤maxLen→(xs++rest).length=cap * sz→G P c C K L (pt b (row (xs++rest) el)::F)):G P c C K L H:=by
 rintro a w ⟨h1,h2,ds,h3,h4,h5⟩
 rcases bK (ai (List.Perm.append_right _ tk) h5) with ⟨g1,g2,g3,s2⟩ | ⟨b,cap,rest',g1,g2,g3,g4,g5,s2⟩
 ·exact k0 g1 g2 g3 a w ⟨h1,h2,ds,h3,h4,s2⟩
 ·exact k b cap rest' g1 g2 g3 g4 g5 a w ⟨h1,h2,ds,h3,h4,s2⟩
end
def duo {α β:Type} (f:α→Value) (g:β→Value) (xs:List (α × β)):List Value:=xs.flatMap fun x=>[f x.1,g x.2]
section
variable {α β:Type} {f:α→Value} {g:β→Value}
theorem kF (xs:List (α × β)):(duo f g xs).length=xs.length * 2:=by
 induction xs with
 | nil=>rfl
 | cons s ss ih=>simp only [duo,List.flatMap_cons,List.length_append,List.length_cons,List.length_nil] at ih ⊢;omega
theorem ei (xs ys:List (α × β)):duo f g (xs++ys)=duo f g xs++duo f g ys:=by simp [duo]
theorem tw:∀ {xs:List (α × β)} {k:Nat} {s:α × β},xs[k]?=some s→(duo f g xs)[k * 2]?=some (f s.1)∧(duo f g xs)[k * 2+1]?=some (g s.2)
 | [],_,_,h=>by simp at h
 | t::ss,0,s,h=>by simp at h;subst h;simp [duo]
 | t::ss,k+1,s,h=>by
  have:=tw (xs:=ss) (k:=k) (s:=s) (by simpa using h)
  have e:duo f g (t::ss)=f t.1::g t.2::duo f g ss:=rfl
  rw [e,show (k+1) * 2=k * 2+2 by omega]
  simpa using this
theorem pI (xs:List (α × β)) (k:Nat):duo f g (xs.take k)=(duo f g xs).take (k * 2):=by
 induction xs generalizing k with
 | nil=>simp [duo]
 | cons x xs ih=>
  cases k with
  | zero=>simp [duo]
  | succ k=>
   have e:duo f g (x::xs)=f x.1::g x.2::duo f g xs:=rfl
   have e2:duo f g (x::xs.take k)=f x.1::g x.2::duo f g (xs.take k):=rfl
   rw [List.take_succ_cons,e,e2,ih,show (k+1) * 2=k * 2+2 by omega]
   rfl
theorem Bv (xs:List (α × β)) (k:Nat):duo f g (xs.drop k)=(duo f g xs).drop (k * 2):=by
 have h:=ei (f:=f) (g:=g) (xs.take k) (xs.drop k)
 rw [List.take_append_drop,pI] at h
 have h2:(duo f g xs).take (k * 2)++(duo f g xs).drop (k * 2)=(duo f g xs).take (k * 2)++duo f g (xs.drop k):=by rw [List.take_append_drop];exact h
 exact (List.append_cancel_left h2).symm
theorem Cn {xs:List (α × β)} {k:Nat} {s:α × β} (h:k < xs.length):(duo f g xs).take (k * 2)++[f s.1,g s.2]++(duo f g xs).drop (k * 2+2)=duo f g (xs.set k s):=by
 have e:xs.set k s=xs.take k++[s]++xs.drop (k+1):=by
  rw [List.set_eq_take_append_cons_drop,if_pos h];simp
 rw [e,ei,ei,pI,Bv,show (k+1) * 2=k * 2+2 by omega]
 rfl
theorem Bu {xs:List (α × β)} {k:Nat} {s:α × β} {r:List Value} (h:k < xs.length):(duo f g xs++r).take (0+k * 2)++[f s.1,g s.2]++(duo f g xs++r).drop (0+k * 2+2)=duo f g (xs.set k s)++r:=by
 have hl:=kF (f:=f) (g:=g) xs
 rw [← Cn h,Nat.zero_add,List.take_append_of_le_length (by omega),List.drop_append_of_le_length (by omega)]
 simp only [List.append_assoc]
end
end
section
attribute [local irreducible] pt init exs pur own
section
variable {P:Program} {c:Cx} {A:Array Oper} {rest:List Oper} {K:aY} {L:Env} {H F:List HP} {t:TypeId} {p:String} {e:Array Edge} {d:Nat} {ty ty':TypeId} {x y:Operand} {m n:Int}
theorem GO.nilCheck {a:Addr} (hN:Nat.blt d c.N=true) (hx:evl L x=some (.pointer (some a)))
  (k:GO P c A rest K ((d,.pointer (some a))::L) H):GO P c A (⟨some d,.nilCheck x,t,p,e,none⟩::rest) K L H:=
 GO.val hN rfl (fun s w Y h _=>by simp [execOp,h.eval hx]) k
theorem EqR.ptrNil {el:TypeId} {q:Option Addr} [hu:UL P ty (.pointer el)] {n:Nat}:EqR P (n+1) ty (.pointer q) (.pointer none) q.isNone:=fun w=>by
 cases q <;> simp [Op.equalIn,Sem.run_bind,run_underlying hu.out,Result.andThen]
theorem GO.eqNilP {el:TypeId} {q:Option Addr} [hu:UL P ty (.pointer el)] (hN:Nat.blt d c.N=true) (hx:evl L x=some (.pointer q))
  (k:GO P c A rest K ((d,.bool q.isNone)::L) H):GO P c A (⟨some d,.binOp .eql ty x (.const (.pointer none)) ty',t,p,e,none⟩::rest) K L H:=
 GO.val hN rfl (fun s w Y h _=>by
  have hc:s.eval (.const (.pointer none))=.pointer none:=rfl
  simp only [execOp,h.eval hx,hc]
  have:=(EqR.ptrNil:EqR P 10000 ty (.pointer q) (.pointer none) q.isNone) w
  simp [Sem.run_bind,eqGuard,binOp,Op.equal,Op.maxDepth,this,Result.andThen]) k
theorem GO.neqNilP {el:TypeId} {q:Option Addr} [hu:UL P ty (.pointer el)] (hN:Nat.blt d c.N=true) (hx:evl L x=some (.pointer q))
  (k:GO P c A rest K ((d,.bool q.isSome)::L) H):GO P c A (⟨some d,.binOp .neq ty x (.const (.pointer none)) ty',t,p,e,none⟩::rest) K L H:=
 GO.val hN rfl (fun s w Y h _=>by
  have hc:s.eval (.const (.pointer none))=.pointer none:=rfl
  simp only [execOp,h.eval hx,hc]
  have:=(EqR.ptrNil:EqR P 10000 ty (.pointer q) (.pointer none) q.isNone) w
  cases q <;> simp [Sem.run_bind,eqGuard,binOp,Op.equal,Op.maxDepth,this,Result.andThen]) k
theorem GO.buildPart3 {i1 i2 i3:Nat} {x1 x2 x3:Operand} {v1 v2 v3:Value} {l:List Value} (hb:P.built ty [(i1,v1),(i2,v2),(i3,v3)]=some l.toArray) (hN:Nat.blt d c.N=true) (h1:evl L x1=some v1) (h2:evl L x2=some v2) (h3:evl L x3=some v3)
  (k:GO P c A rest K ((d,.agg l.toArray)::L) H):GO P c A (⟨some d,.build ty #[(i1,x1),(i2,x2),(i3,x3)],t,p,e,none⟩::rest) K L H:=
 GO.buildPart (ps:=[(i1,x1),(i2,x2),(i3,x3)]) hb hN ⟨rfl,h1,rfl,h2,rfl,h3,trivial⟩ k
theorem Rd.own {el:TypeId} {sz n' b cap j:Nat} {xs:List Value} {u:Value} (h:xs[j]?=some u):Rd (own el sz n' (.slice (some ⟨b,0,none⟩) n' cap) xs) ⟨b,j,none⟩ u:=fun l w s=>by
 rcases bK s with ⟨h0,_⟩ | ⟨b2,cap2,rest2,h0,_,_,_,_,s2⟩
 ·cases h0
 ·injection h0 with h0 _ _
  injection h0 with h0
  injection h0 with h0 _ _
  subst h0
  have hj2:(xs++rest2)[j]?=some u:=by rw [List.getElem?_append_left (List.getElem?_eq_some_iff.1 h).1];exact h
  exact Rd.row hj2 l w s2
theorem ux {el:TypeId} {sz n':Nat} {v:Value} {xs:List Value} {l:List HP} {w:World} (hn:0 < n') (s:sat (own el sz n' v xs::l) w):∃ b cap,v=.slice (some ⟨b,0,none⟩) n' cap∧n'≤cap∧cap≤maxLen∧xs.length=n' * sz:=by
 rcases bK s with ⟨_,h0,_,_⟩ | ⟨b,cap,rest',rfl,g1,g2,g3,_,_⟩
 ·omega
 ·exact ⟨b,cap,rfl,g2,g3,g1⟩
theorem GO.ownForm {el:TypeId} {sz n':Nat} {v:Value} {xs:List Value} {os:List Oper} (hn:0 < n') (tk:Tk (own el sz n' v xs) H F) (k:∀ b cap,v=.slice (some ⟨b,0,none⟩) n' cap→n'≤cap→cap≤maxLen→xs.length=n' * sz→GO P c A os K L H):GO P c A os K L H:=by
 rintro a w ⟨h1,h2,ds,h3,h4,h5⟩
 obtain ⟨b,cap,e1,e2,e3,e4⟩:=ux hn (ai (List.Perm.append_right _ tk) h5)
 exact k b cap e1 e2 e3 e4 a w ⟨h1,h2,ds,h3,h4,h5⟩
theorem G.ownForm {el:TypeId} {sz n':Nat} {v:Value} {xs:List Value} {C:Code} (hn:0 < n') (tk:Tk (own el sz n' v xs) H F) (k:∀ b cap,v=.slice (some ⟨b,0,none⟩) n' cap→n'≤cap→cap≤maxLen→xs.length=n' * sz→G P c C K L H):G P c C K L H:=by
 rintro a w ⟨h1,h2,ds,h3,h4,h5⟩
 obtain ⟨b,cap,e1,e2,e3,e4⟩:=ux hn (ai (List.Perm.append_right _ tk) h5)
 exact k b cap e1 e2 e3 e4 a w ⟨h1,h2,ds,h3,h4,h5⟩
theorem GO.storeOwn {el:TypeId} {sz w0 n' b cap o:Nat} {v:Value} {xs vs:List Value} [hs:SZ P ty w0] (hx:evl L x=some (.pointer (some ⟨b,o,none⟩))) (hy:evl L y=some v) (hv:v.cells=vs.toArray) (hw:vs.length=w0)
  (tk:Tk (own el sz n' (.slice (some ⟨b,0,none⟩) n' cap) xs) H F) (ho:o+w0≤xs.length) (h1:∀ u∈vs,u.oneCell'=true)
  (k:GO P c A rest K L (own el sz n' (.slice (some ⟨b,0,none⟩) n' cap) (xs.take o++vs++xs.drop (o+w0))::F)):GO P c A (⟨none,.store ty x y,t,p,e,none⟩::rest) K L H:=
 GO.own_open tk (fun h _ _=>by cases h) (fun b' cap' rst hv' g1 g2 g3 g4=>by
  injection hv' with h0 _ h2
  injection h0 with h0
  injection h0 with h0 _ _
  subst h0 h2
  refine GO.storeG hx hy hv hw Tk.h (by rw [List.length_append];omega) h1 ?_
  have e1:(xs++rst).take o++vs++(xs++rst).drop (o+w0)=(xs.take o++vs++xs.drop (o+w0))++rst:=by
   rw [List.take_append_of_le_length (by omega),List.drop_append_of_le_length ho]
   simp only [List.append_assoc]
  have e2:(xs.take o++vs++xs.drop (o+w0)).length=xs.length:=by simp only [List.length_append,List.length_take,List.length_drop];omega
  rw [e1]
  exact GO.ownShut rfl (by rw [e2,g1]) g2 g3 (by rw [List.length_append,e2,← List.length_append];exact g4) k)
end
def KF2 (P:Program) (fn:Func) (R:Value→List HP→Prop) (F:List HP):aY
 | .normal,L,H=>∃ v Q,Res P fn.ntmps fn L H v∧R v Q∧ImpS H (Q++F)
 | .ret,L,H=>∃ v Q,Res P fn.ntmps fn L H v∧R v Q∧ImpS H (Q++F)
 | _,_,_=>False
theorem Fn.mk2 {P:Program} {f:FuncId} {args:Array Value} {Pre:List HP} {R:Value→List HP→Prop} {fn:Func} {x:Code} {L:Env} [pv:PV args L] (hf:P.funcs[f]?=some fn) {N a6 a13:Nat} {a1 a2 a12:String} {a3 a4 a5:Array TypeId} {a8:Array ResultVar} {a10 a11:Bool} {a14:Option Nat} {a15:List Departure} {a16:Array String} (hb:fn=⟨a1,a2,a3,a4,a5,a6,N,a8,some x,a10,a11,a12,a13,a14,a15,a16⟩) (hN:Nat.ble args.size N=true)
  {H:List HP→List HP} [ap:∀ F,AppL Pre F (H F)] (h:∀ w0 F,G P ⟨none,N,w0,[],[],false⟩ x (KF2 P fn R F) L (H F)):Fn P f args Pre R:=by
 obtain rfl:(fun F=>Pre++F)=H:=funext fun F=>(ap F).e
 obtain rfl:=pv.e
 obtain rfl:fn.ntmps=N:=congrArg Func.ntmps hb
 replace hb:fn.body=some x:=congrArg Func.body hb
 intro F w s
 have hN':args.size≤fn.ntmps:=by simpa using hN
 refine callsIn_of_wp_marks (fn:=fn) (c:=x) hf hb trivial ?_ rfl
 refine wpIn_mono (h w F _ w ⟨⟨?_,?_⟩,Same.refl w,[],rfl,fun _=>rfl,by simpa using s⟩) ?_
 ·simp;omega
 ·intro t v e
  obtain ⟨_,h2⟩:=gi _ _ _ _ e
  simp at h2
  have hlt:t < args.size:=by
   have:=(Array.getElem?_eq_some_iff.1 h2).1;exact this
  rw [Array.getElem?_append_left hlt];exact h2
 ·rintro e a' w' ⟨L',H',⟨h1,h2,ds,h3,_,h5⟩,q⟩
  have fin:(∃ v Q,Res P fn.ntmps fn L' H' v∧R v Q∧ImpS H' (Q++F))→LeavesInM Fence.wide 0 P fn a'.tmps (Ret w F R) a'.defers .returning w':=by
   rintro ⟨v,Q,hr,hR,hsb⟩
   rw [show a'.defers=ds.map dX by simpa using h3]
   refine fb (l:=H') (v:=v) ds w' (by simpa using h5) fun w2 sm sl=>⟨?_,v,Q,rfl,h2.trans sm,hR,?_⟩
   ·exact hr a' w2 [] h1 (by simpa using sl)
   ·have:=hsb [] w2 (by simpa using sl)
    simpa using this
  cases e with
  | normal=>exact fin q
  | ret=>exact fin q
  | _=>exact q.elim
section
variable {P:Program} {L:Env} {H F:List HP} {fn:Func} {R:Value→List HP→Prop} {Q:List HP} {q1 q2 q3 q4:ResultVar} {v1 v2 v3 v4:Value}
theorem KF2.n0 (hr:fn.results=#[]) (h:R (.tuple #[]) Q) (sb:ImpS H (Q++F)):KF2 P fn R F .normal L H:=⟨_,Q,RVs.res (rs:=[]) (vs:=[]) hr trivial,h,sb⟩
theorem KF2.r0 (hr:fn.results=#[]) (h:R (.tuple #[]) Q) (sb:ImpS H (Q++F)):KF2 P fn R F .ret L H:=⟨_,Q,RVs.res (rs:=[]) (vs:=[]) hr trivial,h,sb⟩
theorem KF2.r1 (hr:fn.results=#[q1]) (h1:RV P L H q1 v1) (h:R v1 Q) (sb:ImpS H (Q++F)):KF2 P fn R F .ret L H:=⟨_,Q,RVs.res (rs:=[q1]) (vs:=[v1]) hr ⟨h1,trivial⟩,h,sb⟩
theorem KF2.r2 (hr:fn.results=#[q1,q2]) (h1:RV P L H q1 v1) (h2:RV P L H q2 v2) (h:R (.tuple #[v1,v2]) Q) (sb:ImpS H (Q++F)):KF2 P fn R F .ret L H:=⟨_,Q,RVs.res (rs:=[q1,q2]) (vs:=[v1,v2]) hr ⟨h1,h2,trivial⟩,h,sb⟩
theorem KF2.r3 (hr:fn.results=#[q1,q2,q3]) (h1:RV P L H q1 v1) (h2:RV P L H q2 v2) (h3:RV P L H q3 v3) (h:R (.tuple #[v1,v2,v3]) Q) (sb:ImpS H (Q++F)):KF2 P fn R F .ret L H:=⟨_,Q,RVs.res (rs:=[q1,q2,q3]) (vs:=[v1,v2,v3]) hr ⟨h1,h2,h3,trivial⟩,h,sb⟩
end
end
section
attribute [local irreducible] pt init exs pur own
abbrev chn (v:Value):List PanicEntry:=[{ v:=v,recovered:=false }]
def BI (w:World) (F:List HP) (R E:Value→List HP→Prop):Ending→World→Prop:=fun e w'=>
 (∃ v Q,e=.returned v∧Same w w'∧R v Q∧sat (Q++F) w')∨(∃ v Q,e=.panicked (chn v)∧Same w w'∧E v Q∧sat (Q++F) w')
def FnX (P:Program) (f:FuncId) (args:Array Value) (Pre:List HP) (R E:Value→List HP→Prop):Prop:=∀ F w,sat (Pre++F) w→CallsIn Fence.wide 0 P f args w (BI w F R E)
theorem aV {n:Env→List HP→Prop} {K:aY} {L:Env} {H:List HP} {ch:List PanicEntry} (k:K (.panic ch) L H):cF n K (.panic ch) L H:=k
theorem aM {id:Nat} {K:aY} {L:Env} {H:List HP} {ch:List PanicEntry} (k:K (.panic ch) L H):cB id K (.panic ch) L H:=k
def KFX (P:Program) (fn:Func) (R E:Value→List HP→Prop) (F:List HP):aY
 | .normal,L,H=>∃ v Q,Res P fn.ntmps fn L H v∧R v Q∧ImpS H (Q++F)
 | .ret,L,H=>∃ v Q,Res P fn.ntmps fn L H v∧R v Q∧ImpS H (Q++F)
 | .panic ch,_,H=>∃ v Q,ch=chn v∧E v Q∧ImpS H (Q++F)
 | _,_,_=>False
theorem lP {P:Program} {fn:Func} {tmps:Array Value} {R:Ending→World→Prop} {ch:List PanicEntry} {l:List HP}:∀ (ds:List Nat) (w:World),sat (l++ds.map cA) w →
  (∀ w',Same w w'→sat l w'→R (.panicked ch) w')→LeavesInM Fence.wide 0 P fn tmps R (ds.map dX) (.panicking ch) w
 | [],w,s,h=>by
  simp at s
  exact h w (Same.refl w) s
 | d::ds,w,s,h=>by
  simp only [List.map_cons] at s
  have s':sat (cA d::(l++ds.map cA)) w:=ai List.perm_middle s
  have hb:=aT s'
  refine ⟨by simp,.inl ⟨d,_,rfl,run_takeDeferred hb,?_⟩⟩
  refine lP ds _ ?_ (fun w' sm sl=>h w' ((Same.putObj _ _ _).trans sm) sl)
  have:=bE (o':=.deferred none) (w':=w.putObj d (.deferred none)) s' (World.putObj_heap_same (Array.getElem?_eq_some_iff.1 hb).1) (fun k hk=>World.putObj_heap_other hk)
  exact cx (l:=[pt d (.deferred none)]) this
theorem FnX.mk {P:Program} {f:FuncId} {args:Array Value} {Pre:List HP} {R E:Value→List HP→Prop} {fn:Func} {x:Code} {L:Env} [pv:PV args L] (hf:P.funcs[f]?=some fn) {N a6 a13:Nat} {a1 a2 a12:String} {a3 a4 a5:Array TypeId} {a8:Array ResultVar} {a10 a11:Bool} {a14:Option Nat} {a15:List Departure} {a16:Array String} (hb:fn=⟨a1,a2,a3,a4,a5,a6,N,a8,some x,a10,a11,a12,a13,a14,a15,a16⟩) (hN:Nat.ble args.size N=true)
  {H:List HP→List HP} [ap:∀ F,AppL Pre F (H F)] (h:∀ w0 F,G P ⟨none,N,w0,[],[],false⟩ x (KFX P fn R E F) L (H F)):FnX P f args Pre R E:=by
 obtain rfl:(fun F=>Pre++F)=H:=funext fun F=>(ap F).e
 obtain rfl:=pv.e
 obtain rfl:fn.ntmps=N:=congrArg Func.ntmps hb
 replace hb:fn.body=some x:=congrArg Func.body hb
 intro F w s
 have hN':args.size≤fn.ntmps:=by simpa using hN
 refine callsIn_of_wp_marks (fn:=fn) (c:=x) hf hb trivial ?_ rfl
 refine wpIn_mono (h w F _ w ⟨⟨?_,?_⟩,Same.refl w,[],rfl,fun _=>rfl,by simpa using s⟩) ?_
 ·simp;omega
 ·intro t v e
  obtain ⟨_,h2⟩:=gi _ _ _ _ e
  simp at h2
  have hlt:t < args.size:=by
   have:=(Array.getElem?_eq_some_iff.1 h2).1;exact this
  rw [Array.getElem?_append_left hlt];exact h2
 ·rintro e a' w' ⟨L',H',⟨h1,h2,ds,h3,_,h5⟩,q⟩
  have hd:a'.defers=ds.map dX:=by simpa using h3
  have fin:(∃ v Q,Res P fn.ntmps fn L' H' v∧R v Q∧ImpS H' (Q++F))→LeavesInM Fence.wide 0 P fn a'.tmps (BI w F R E) a'.defers .returning w':=by
   rintro ⟨v,Q,hr,hR,hsb⟩
   rw [hd]
   refine fb (l:=H') (v:=v) ds w' (by simpa using h5) fun w2 sm sl=>⟨?_,.inl ⟨v,Q,rfl,h2.trans sm,hR,?_⟩⟩
   ·exact hr a' w2 [] h1 (by simpa using sl)
   ·have:=hsb [] w2 (by simpa using sl)
    simpa using this
  cases e with
  | normal=>exact fin q
  | ret=>exact fin q
  | panic ch=>
   obtain ⟨v,Q,rfl,hE,hsb⟩:=q
   show LeavesInM Fence.wide 0 P fn a'.tmps (BI w F R E) a'.defers (.panicking (chn v)) w'
   rw [hd]
   refine lP (l:=H') ds w' (by simpa using h5) fun w2 sm sl=>.inr ⟨v,Q,rfl,h2.trans sm,hE,?_⟩
   have:=hsb [] w2 (by simpa using sl)
   simpa using this
  | _=>exact q.elim
section
variable {P:Program} {L:Env} {H F:List HP} {fn:Func} {R E:Value→List HP→Prop} {Q:List HP} {q1 q2 q3:ResultVar} {v1 v2 v3:Value}
theorem KFX.r1 (hr:fn.results=#[q1]) (h1:RV P L H q1 v1) (h:R v1 Q) (sb:ImpS H (Q++F)):KFX P fn R E F .ret L H:=⟨_,Q,RVs.res (rs:=[q1]) (vs:=[v1]) hr ⟨h1,trivial⟩,h,sb⟩
theorem KFX.r2 (hr:fn.results=#[q1,q2]) (h1:RV P L H q1 v1) (h2:RV P L H q2 v2) (h:R (.tuple #[v1,v2]) Q) (sb:ImpS H (Q++F)):KFX P fn R E F .ret L H:=⟨_,Q,RVs.res (rs:=[q1,q2]) (vs:=[v1,v2]) hr ⟨h1,h2,trivial⟩,h,sb⟩
theorem KFX.p {v:Value} (h:E v Q) (sb:ImpS H (Q++F)):KFX P fn R E F (.panic (chn v)) L H:=⟨v,Q,rfl,h,sb⟩
end
def FnXV (P:Program) (v:Value) (args:List Value) (Pre:List HP) (R E:Value→List HP→Prop):Prop:=
 ∃ fn caps,v=.func fn #[] caps∧∀ F w,sat (Pre++F) w→∃ nx,(invoke (.fn fn caps) args.toArray).run P w=.ok nx w∧NxOk P nx w (BI w F R E)
theorem FnXV.of {P:Program} {f:FuncId} [hc:Cal P f] {args caps:List Value} {Pre:List HP} {R E:Value→List HP→Prop} (h:FnX P f (args++caps).toArray Pre R E):FnXV P (.func (.func f) #[] caps.toArray) args Pre R E:=
 ⟨_,_,rfl,fun F w s=>⟨.enter f (args++caps).toArray,by simp [invoke,hc.out],h F w s⟩⟩
section rules
variable {P:Program} {c:Cx} {A:Array Oper} {rest:List Oper} {K:aY} {L:Env} {H F:List HP} {t:TypeId} {p:String} {e:Array Edge} {vs:List Value} {d:Nat}
theorem GO.callXG {dst:Option Nat} {f:FuncId} [hc:Cal P f] {xs:List Operand} {ats:Array TypeId} {Pre:List HP} {R E:Value→List HP→Prop} (hN:(match dst with | some d=>Nat.blt d c.N | none=>true)=true)
  (hv:Vals L xs vs) (spec:FnX P f vs.toArray Pre R E) (tk:Tks Pre H F) (kp:∀ v Q,E v Q→K (.panic (chn v)) L (Q++F))
  (k:∀ v Q,R v Q→GO P c A rest K (match dst with | some d=>(d,v)::L | none=>L) (Q++F)):GO P c A (⟨dst,.call ⟨.value (.func f),xs.toArray,ats⟩,t,p,e,none⟩::rest) K L H:=by
 rintro a w ⟨h1,h2,D,h3,h4,h5⟩
 simp only [cQ,Region.wanted,if_true]
 rw [df _ _ _ rfl,uc]
 refine ⟨fun h=>by simp [fen,Fence.wide] at h,dA ?_⟩
 have hargs:xs.toArray.map a.eval=vs.toArray:=by simp [Vals.map h1 hv]
 rw [hargs]
 have s1:sat (Pre++(F++(c.X++D.map cA))) w:=by
  rw [← List.append_assoc];exact ai (List.Perm.append_right _ tk) h5
 refine (spec _ w s1).mono ?_
 rintro en w' (⟨v,Q,rfl,hs,hR,hq⟩ | ⟨v,Q,rfl,hs,hR,hq⟩)
 ·refine k v Q hR _ w' ⟨?_,h2.trans hs,D,?_,h4,?_⟩
  ·cases dst with
   | none=>simpa [Act.put] using h1
   | some d=>exact h1.put hN
  ·cases dst <;> simpa [Act.put] using h3
  ·rw [List.append_assoc];exact hq
 ·exact ⟨L,Q++F,⟨h1,h2.trans hs,D,h3,h4,by rw [List.append_assoc];exact hq⟩,kp v Q hR⟩
theorem GO.callXVG {dst:Option Nat} {x:Operand} {v0:Value} {xs:List Operand} {ats:Array TypeId} {Pre:List HP} {R E:Value→List HP→Prop} (hN:(match dst with | some d=>Nat.blt d c.N | none=>true)=true)
  (hx:evl L x=some v0) (hv:Vals L xs vs) (spec:FnXV P v0 vs Pre R E) (tk:Tks Pre H F) (kp:∀ v Q,E v Q→K (.panic (chn v)) L (Q++F))
  (k:∀ v Q,R v Q→GO P c A rest K (match dst with | some d=>(d,v)::L | none=>L) (Q++F)):GO P c A (⟨dst,.call ⟨.value x,xs.toArray,ats⟩,t,p,e,none⟩::rest) K L H:=by
 rintro a w ⟨h1,h2,D,h3,h4,h5⟩
 obtain ⟨fn,caps,rfl,spec⟩:=spec
 have s1:sat (Pre++(F++(c.X++D.map cA))) w:=by
  rw [← List.append_assoc];exact ai (List.Perm.append_right _ tk) h5
 obtain ⟨nx,hrun,hnx⟩:=spec _ w s1
 have hargs:xs.toArray.map a.eval=vs.toArray:=by simp [Vals.map h1 hv]
 have hex:(execOp a.eval ⟨dst,.call ⟨.value x,xs.toArray,ats⟩,t,p,e,none⟩).run P w=.ok nx w:=by
  have he:=h1.eval hx
  have hf:(#[]:Array Value)++vs.toArray=vs.toArray:=by simp
  simp only [execOp,resolve,hargs,he,Deferred.ofValue,Sem.run_bind,Sem.run_pure,Result.andThen_ok,hf,hrun]
 simp only [cQ,Region.wanted,if_true]
 rw [df _ _ _ rfl,hex]
 have fin:∀ en w',BI w (F++(c.X++D.map cA)) R E en w'→(∃ v,en=.returned v∧cQ (fen c.r) P A (gK c K) rest (a.put dst v) w')∨(∃ v,en=.panicked (chn v)∧gK c K (.panic (chn v)) a w'):=by
  rintro en w' (⟨v,Q,rfl,hs,hR,hq⟩ | ⟨v,Q,rfl,hs,hR,hq⟩)
  ·refine .inl ⟨v,rfl,k v Q hR _ w' ⟨?_,h2.trans hs,D,?_,h4,?_⟩⟩
   ·cases dst with
    | none=>simpa [Act.put] using h1
    | some d=>exact h1.put hN
   ·cases dst <;> simpa [Act.put] using h3
   ·rw [List.append_assoc];exact hq
  ·exact .inr ⟨v,rfl,L,Q++F,⟨h1,h2.trans hs,D,h3,h4,by rw [List.append_assoc];exact hq⟩,kp v Q hR⟩
 cases nx with
 | enter f ar=>
  refine ⟨fun h=>by simp [fen,Fence.wide] at h,dA ?_⟩
  refine CallsIn.mono hnx fun en w' hr=>?_
  rcases fin en w' hr with ⟨v,rfl,h⟩ | ⟨v,rfl,h⟩ <;> exact h
 | round l f t x y=>
  refine ⟨fun h=>by simp [fen,Fence.wide] at h,iM ?_⟩
  refine RoundIn.mono hnx fun en w' hr=>?_
  rcases fin en w' hr with ⟨v,rfl,h⟩ | ⟨v,rfl,h⟩ <;> exact h
 | _=>exact hnx.elim
theorem GO.panic {x:Operand} {T:TypeId} {v:Value} (hx:evl L x=some (.iface T v)) (k:K (.panic (chn (.iface T v))) L H):GO P c A (⟨none,.panic x,t,p,e,none⟩::rest) K L H:=by
 rintro a w h
 simp only [cQ,Region.wanted,if_true]
 have hr:(execOp a.eval ⟨none,.panic x,t,p,e,none⟩).run P w=.halt (.panic (.iface T v)) w:=by
  simp only [execOp,h.at_.eval hx,Instr.panic]
  rfl
 rw [df _ _ _ rfl,hr]
 exact ⟨L,H,h,k⟩
theorem GO.mkIface {x:Operand} {T:TypeId} {ds:TypeDesc} {v:Value} [hu:UL P T ds] (hi:(match ds with | .interface _=>false | _=>true)=true) (hN:Nat.blt d c.N=true) (hx:evl L x=some v) (k:GO P c A rest K ((d,.iface T v)::L) H):GO P c A (⟨some d,.makeInterface T x,t,p,e,none⟩::rest) K L H:=
 GO.val hN rfl (fun a w Y h _=>by
  simp only [execOp,h.eval hx,Instr.makeInterface]
  simp only [Sem.run_bind,run_underlying hu.out,Result.andThen]
  cases ds <;> first | rfl | (simp at hi)) k
theorem GO.callX1 {f:FuncId} [hc:Cal P f] {x1:Operand} {v1:Value} {ats:Array TypeId} {Pre:List HP} {R E:Value→List HP→Prop} (hN:Nat.blt d c.N=true) (h1:evl L x1=some v1) (spec:FnX P f #[v1] Pre R E) (tk:Tks Pre H F) (kp:∀ v Q,E v Q→K (.panic (chn v)) L (Q++F))
  (k:∀ v Q,R v Q→GO P c A rest K ((d,v)::L) (Q++F)):GO P c A (⟨some d,.call ⟨.value (.func f),#[x1],ats⟩,t,p,e,none⟩::rest) K L H:=
 GO.callXG (dst:=some d) (xs:=[x1]) (vs:=[v1]) hN ⟨h1,trivial⟩ spec tk kp k
theorem GO.callXV0 {x:Operand} {v0:Value} {ats:Array TypeId} {Pre:List HP} {R E:Value→List HP→Prop} (hN:Nat.blt d c.N=true) (hx:evl L x=some v0)  (spec:FnXV P v0 [] Pre R E) (tk:Tks Pre H F) (kp:∀ v Q,E v Q→K (.panic (chn v)) L (Q++F))
  (k:∀ v Q,R v Q→GO P c A rest K ((d,v)::L) (Q++F)):GO P c A (⟨some d,.call ⟨.value x,#[],ats⟩,t,p,e,none⟩::rest) K L H:=
 GO.callXVG (dst:=some d) (xs:=[]) (vs:=[]) hN hx trivial spec tk kp k
end rules
end
end Go.Proofs.YtkeialpeabhaaaaGreat
