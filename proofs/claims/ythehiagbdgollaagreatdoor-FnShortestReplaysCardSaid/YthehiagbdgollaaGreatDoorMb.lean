/- What functions of the program come to, and what that says in plain words: part 2. -/
import Derived.Test.YthehiagbdgollaaGreatDoorMa
import Derived.Test.YthehiagbdgollaaGreatDoorTXh
import Derived.Test.YthehiagbdgollaaGreatDoorProg
import Derived.Test.YthehiagbdgollaaGreatDoorTXx
set_option linter.unusedSimpArgs false
set_option linter.unusedVariables false
open Bool renaming and_eq_true → q8
open Int renaming toNat_natCast → q9
open List renaming length_append → w3
open List renaming length_take → w4
open List renaming length_cons → w5
open List renaming length_nil → w6
open Bool renaming or_true → w7
open List renaming length_replicate → w8
open List renaming getElem?_eq_some_iff → w9
open Int renaming toNat → z6
open List renaming length → z7
open Option renaming getD → z8
open Go.IntKind renaming wrap → j6
open List renaming replicate → j7
open List renaming mem_singleton → j8
namespace Go.SX
open Go.Proofs Go.Proofs.Tryz
set_option maxRecDepth 100000
variable{X C:Type}
theorem Lp.gath(p:Lp X)(st:Nat→List C→X)(pr:X→List C)(g:Nat→List C)(e n m:Nat)(acc:List C)(hn:n≤999)
  (hg: ∀ i,i < n→(g i).length≤m)
  (hs: ∀ i a,i < n→a.length≤acc.length + i * m→(p.lt (st i a)).nds=true∧(p.lt (st i a)).each (fun y=>y=st (i + 1) (pr y))∧(p.lt (st i a)).fn pr= .inr (a++g i))
  (he: ∀ a,(p.lt (st n a)).out=some (.inl e)):
  p.fin (st 0 acc)=true∧p.res (st 0 acc)=(e,st n (acc++(List.range n).flatMap g)):=by
 have key:=p.run (OZ st (fun(i:Nat) (a:List C)=>(.inr (a++g i):Nat ⊕ List C)) e (fun i a=>a.length≤acc.length + i * m) (List.range n) (fun i b a hb hI=>by
  obtain⟨rfl,gm⟩:=OY hb
  obtain⟨h1,h2,h3⟩:=hs b a gm hI
  refine⟨by rw [LT.out_of h1 h2,h3],fun a' ha=> ?_⟩
  cases ha
  have:=hg b gm
  rw [w3,Nat.succ_mul];omega) (fun a _=>by rw [List.length_range];exact he a) (List.range n) 0 acc rfl (by simp) (by simp)) (acb (by rw [List.length_range];omega))
 rw [yW (g:=fun a i=>a++g i) (fun _ _=>rfl)]at key
 have hf: ∀ (l:List Nat) (a:List C),l.foldl (fun a i=>a++g i) a=a++l.flatMap g:=by
  intro l
  induction l with
  |nil=>intro a;simp
  |cons i l ih=>intro a;rw [List.foldl_cons,ih,List.flatMap_cons,List.append_assoc]
 rw [hf,List.length_range,Nat.zero_add]at key
 exact key
theorem FN{a b m:Nat}(h:a≤m)(hb:b≤999)(hm:m≤100000):leN (a + b) 9223372036854775807=true:=iJ (by omega)
theorem Sf{a b m:Nat}(h:a≤m)(hb:b≤999)(hm:m≤100000):leN ((a + b) * 24) 140737488355328=true:=iJ (by omega)
theorem ae5{a b m:Nat}(h:a≤m)(hb:b≤999)(hm:m≤100000):leN ((a + b) * 88) 140737488355328=true:=iJ (by omega)
theorem ale(i b:Int)(s:Bool)(acc:al1)(hl:acc.length≤1000):
  dj.fin ((0:Int),s,i,b,acc)=true∧dj.res ((0:Int),s,i,b,acc)=(0,((4:Nat):Int),s,i,b,acc++trK s i b):=by
 have key:=dj.gath (fun k a=>((k:Int),s,i,b,a)) (fun x=>x.2.2.2.2) (fun(k:Nat)=>bif((k:Int)!=2||s)then [((k:Int),i,b)]else []) 0 4 1 acc (by decide)
  (fun k _=>by cases ((k:Int)!=2||s) <;> simp) (fun k a hk ha=> ?_) (fun a=>by rfl)
 ·have e:trK s i b=(List.range 4).flatMap (fun(k:Nat)=>bif((k:Int)!=2||s)then [((k:Int),i,b)]else []):=by cases s <;> rfl
  rw [e];exact key
 ·have hw:IntKind.i64.wrap ((k:Int) + 1)=((k + 1:Nat):Int):=jv hk (by decide)
  have h3:leI (k:Int) 3=true:=cw (by omega)
  have l1:=FN (b:=1) (show a.length≤1004 by omega) (by decide) (by decide)
  have l2:=Sf (b:=1) (show a.length≤1004 by omega) (by decide) (by decide)
  refine⟨?_,?_,?_⟩
  ·simp [nU,nV,wS,wT,wU,wV,sU,wW,vX,dj,LT.nds,allT,h3,l1,l2]
  ·simp [nU,nV,wS,wT,wU,wV,sU,wW,vX,dj,LT.each,h3,hw]
  ·cases hk2:(k:Int)==2 <;> cases s <;> simp [nU,nV,wS,wT,wU,wV,sU,wW,vX,dj,LT.fn,h3,hk2,bne]
theorem abE(s:Bool)(i b:Int):(trK s i b).length≤4:=by cases s <;> simp [trK]
theorem abu(s:Bool)(b k:Int):(ftK s b k).length≤3:=by cases s <;> simp [ftK]
theorem abD(s:Bool)(B i:Nat):(tkL s B i).length≤B * 4:=Fe _ 4 (fun(b:Nat)=>abE s i b) B
theorem agZ(s:Bool)(d b:Nat):(fkL s d b).length≤d * 3:=Fe _ 3 (fun(j:Nat)=>abu s b _) d
theorem alf(i n:Int)(s:Bool)(ps:al4)(acc:al1)(hn:0≤n∧n≤8)(hl:acc.length≤400):
  dN.fin ((0:Int),s,i,n,acc,ps)=true∧dN.res ((0:Int),s,i,n,acc,ps)=(0,(n,s,i,n,acc++(List.range n.toNat).flatMap fun(b:Nat)=>trK s i b,ps)):=by
 obtain⟨m,rfl⟩:=Int.eq_ofNat_of_zero_le hn.1
 simp only [q9]
 have key:=dN.gath (fun k a=>((k:Int),s,i,(m:Int),a,ps)) (fun x=>x.2.2.2.2.1) (fun(b:Nat)=>trK s i b) 0 m 4 acc (by omega)
  (fun b _=>abE s i b) (fun b a hb ha=> ?_) (fun a=> ?_)
 ·exact key
 ·have hw:IntKind.i64.wrap ((b:Int) + 1)=((b + 1:Nat):Int):=jv hb (by omega)
  have h3:ltI (b:Int) (m:Int)=true:=cK (by omega)
  obtain⟨w1,w2⟩:=ale i (b:Int) s a (by omega)
  refine⟨?_,?_,?_⟩
  ·simp [se,wn,wo,wq,ws,uO,dN,LT.nds,allT,h3,w1]
  ·simp [se,wn,wo,wq,ws,uO,dN,LT.each,h3,hw]
  ·simp [se,wn,wo,wq,ws,uO,dN,LT.fn,h3,w2]
 ·have h3:ltI (m:Int) (m:Int)=false:=nA (by omega)
  simp [se,wn,wo,wq,ws,uO,dN,LT.out,h3]
theorem alg(n:Int)(s:Bool)(ps:al4)(hT:isT n ps=true):
  gP.fin ((0:Int),s,n,[],ps)=true∧gP.res ((0:Int),s,n,[],ps)=(0,((ps.length:Int),s,n,(List.range ps.length).flatMap (tkL s n.toNat),ps)):=by
 obtain⟨h1,h2,_⟩:=gB.1 hT
 have key:=gP.gath (fun k a=>((k:Int),s,n,a,ps)) (fun x=>x.2.2.2.1) (tkL s n.toNat) 0 ps.length 32 [] (by omega)
  (fun i _=>Nat.le_trans (abD s n.toNat i) (by omega)) (fun i a hi ha=> ?_) (fun a=> ?_)
 ·exact key
 ·simp only [w6]at ha
  have hw:IntKind.i64.wrap ((i:Int) + 1)=((i + 1:Nat):Int):=jv hi (by omega)
  have h3:ltI (i:Int) (ps.length:Int)=true:=cK (by omega)
  obtain⟨w1,w2⟩:=alf (i:Int) n s ps a (by omega) (by omega)
  refine⟨?_,?_,?_⟩
  ·simp [vl,Am,An,Ao,Ap,yD,gP,LT.nds,allT,h3,w1]
  ·simp [vl,Am,An,Ao,Ap,yD,gP,LT.each,h3,hw]
  ·simp [vl,Am,An,Ao,Ap,yD,gP,LT.fn,h3,w2,tkL]
 ·have h3:ltI (ps.length:Int) (ps.length:Int)=false:=nA (by omega)
  simp [vl,Am,An,Ao,Ap,yD,gP,LT.out,h3]
theorem alh(b k:Int)(s:Bool)(acc:al1)(hl:acc.length≤1000):
  dk.fin ((4:Int),s,b,k,acc)=true∧dk.res ((4:Int),s,b,k,acc)=(0,((7:Int),s,b,k,acc++ftK s b k)):=by
 have key:=dk.gath (fun j a=>(((j + 4:Nat):Int),s,b,k,a)) (fun x=>x.2.2.2.2) (fun(j:Nat)=>bif(((j + 4:Nat):Int)!=6||s)then [(((j + 4:Nat):Int),b,k)]else []) 0 3 1 acc (by decide)
  (fun j _=>by cases (((j + 4:Nat):Int)!=6||s) <;> simp) (fun j a hj ha=> ?_) (fun a=>by rfl)
 ·have e:ftK s b k=(List.range 3).flatMap (fun(j:Nat)=>bif(((j + 4:Nat):Int)!=6||s)then [(((j + 4:Nat):Int),b,k)]else []):=by cases s <;> rfl
  rw [e];exact key
 ·have hw:IntKind.i64.wrap (((j + 4:Nat):Int) + 1)=((j + 1 + 4:Nat):Int):=by rw [aB (by omega) (by omega)];omega
  have h3:leI ((j + 4:Nat):Int) 6=true:=cw (by omega)
  have l1:=FN (b:=1) (show a.length≤1003 by omega) (by decide) (by decide)
  have l2:=Sf (b:=1) (show a.length≤1003 by omega) (by decide) (by decide)
  generalize ((j + 4:Nat):Int)=q at hw h3
  refine⟨?_,?_,?_⟩
  ·simp [nW,nX,wX,wY,wZ,xa,sV,xc,vY,dk,LT.nds,allT,h3,l1,l2]
  ·simp [nW,nX,wX,wY,wZ,xa,sV,xc,vY,dk,LT.each,h3,hw]
  ·cases hk2:q==6 <;> cases s <;> simp [nW,nX,wX,wY,wZ,xa,sV,xc,vY,dk,LT.fn,h3,hk2,bne]
theorem ali(b d:Int)(s:Bool)(acc:al1)(hd:0≤d∧d≤2)(hl:acc.length≤400):
  dO.fin (d,s,b,acc)=true∧dO.res (d,s,b,acc)=(0,((0:Int),s,b,acc++(List.range d.toNat).flatMap fun(j:Nat)=>ftK s b ((d.toNat:Int) - (j:Int)))):=by
 obtain⟨m,rfl⟩:=Int.eq_ofNat_of_zero_le hd.1
 simp only [q9]
 have key:=dO.gath (fun j a=>(((m:Int) - (j:Int)),s,b,a)) (fun x=>x.2.2.2) (fun(j:Nat)=>ftK s b ((m:Int) - (j:Int))) 0 m 3 acc (by omega)
  (fun j _=>abu s b _) (fun j a hj ha=> ?_) (fun a=> ?_)
 ·have e1:(m:Int) - ((0:Nat):Int)=(m:Int):=by omega
  have e2:(m:Int) - ((m:Nat):Int)=0:=by omega
  simp only [e1,e2]at key
  exact key
 ·have hw:IntKind.i64.wrap ((m:Int) - (j:Int) - 1)=(m:Int) - ((j + 1:Nat):Int):=by rw [aB (by omega) (by omega)];omega
  have h3:ltI 0 ((m:Int) - (j:Int))=true:=cK (by omega)
  obtain⟨w1,w2⟩:=alh b ((m:Int) - (j:Int)) s a (by omega)
  refine⟨?_,?_,?_⟩
  ·simp [sf,wt,wu,wv,ww,uP,dO,LT.nds,allT,h3,w1]
  ·simp [sf,wt,wu,wv,ww,uP,dO,LT.each,h3,hw]
  ·simp [sf,wt,wu,wv,ww,uP,dO,LT.fn,h3,w2]
 ·have h3:ltI 0 ((m:Int) - ((m:Nat):Int))=false:=nA (by omega)
  simp [sf,wt,wu,wv,ww,uP,dO,LT.out,h3]
theorem alj(n d:Int)(s:Bool)(ps:al4)(acc:al1)(hn:0≤n∧n≤8)(hd:0≤d∧d≤2)(hl:acc.length≤200):
  gQ.fin ((0:Int),d,s,n,acc,ps)=true∧gQ.res ((0:Int),d,s,n,acc,ps)=(0,(n,d,s,n,acc++(List.range n.toNat).flatMap (fkL s d.toNat),ps)):=by
 obtain⟨m,rfl⟩:=Int.eq_ofNat_of_zero_le hn.1
 simp only [q9]
 have key:=gQ.gath (fun k a=>((k:Int),d,s,(m:Int),a,ps)) (fun x=>x.2.2.2.2.1) (fkL s d.toNat) 0 m 6 acc (by omega)
  (fun b _=>Nat.le_trans (agZ s d.toNat b) (by omega)) (fun b a hb ha=> ?_) (fun a=> ?_)
 ·exact key
 ·have hw:IntKind.i64.wrap ((b:Int) + 1)=((b + 1:Nat):Int):=jv hb (by omega)
  have h3:ltI (b:Int) (m:Int)=true:=cK (by omega)
  obtain⟨w1,w2⟩:=ali (b:Int) d s a hd (by omega)
  refine⟨?_,?_,?_⟩
  ·simp [vm,Aq,Ar,As,At,yE,gQ,LT.nds,allT,h3,w1]
  ·simp [vm,Aq,Ar,As,At,yE,gQ,LT.each,h3,hw]
  ·simp [vm,Aq,Ar,As,At,yE,gQ,LT.fn,h3,w2,fkL]
 ·have h3:ltI (m:Int) (m:Int)=false:=nA (by omega)
  simp [vm,Aq,Ar,As,At,yE,gQ,LT.out,h3]
def isR(n d:Int)(ps:al4):Bool:=isT n ps&&inR d 0 2
theorem LO{n d:Int}{ps:al4}:isR n d ps=true↔isT n ps=true∧0≤d∧d≤2:=by rw [isR,q8,sC]
theorem aiF(n d:Int)(s:Bool)(ps:al4)(h:isR n d ps=true):Ot n d s ps=kL ps.length n.toNat d.toNat s∧Ou n d s ps=true:=by
 obtain⟨hT,hd⟩:=LO.1 h
 obtain⟨h1,h2,_⟩:=gB.1 hT
 obtain⟨a1,a2⟩:=alg n s ps hT
 have hl:((List.range ps.length).flatMap (tkL s n.toNat)).length≤128:=by
  have:=Fe (tkL s n.toNat) 32 (fun i=>Nat.le_trans (abD s n.toNat i) (by omega)) ps.length
  omega
 obtain⟨b1,b2⟩:=alj n d s ps ((List.range ps.length).flatMap (tkL s n.toNat)) (by omega) hd (by omega)
 simp [Nl,Nn,Ot,Ou,a1,a2,b1,b2,kL,allT]
def TO:al6
 | [.one ⟨true,[.val (.int .i64 a),.ref 0]⟩,.one ⟨false,[.val (.int .i64 b)]⟩,.one ⟨false,[.val (.bool c)]⟩],[.row false 2 (.int .i64) d]=>some ⟨al8 (.ref 1),[ama d],[amh (kL d.length a.toNat b.toNat c)],[isR a b d]⟩
 |_,_=>none
def eB:PF prog:=PF.alt abm TO (by
 intro args es o h dq;unfold TO at h;split at h
 ·rename_i a b c d
  cases h
  have dq:=zR dq
  have hh:=aiF a b c d dq
  obtain⟨e0,en⟩:=hh
  exact uJ rfl (pM en) rfl rfl (by simp only [e0] <;> rfl)
 ·cases h)
def nmK(x:Int×Int×Int):al5:=km x.1 x.2.1 x.2.2
abbrev agQ:=(al5×((List (Int×(Int×Bool)))×(List (Int×Int))))×(Int×(Int×Int))
def ruK(T:Nat)(n:Int)(x:Int×Int×Int):al5×((agb)×(al3)):=(nmK x,gK T n x,eK T n x)
def rrK(T:Nat)(n:Int)(x:Int×Int×Int):agQ:=(ruK T n x,x)
theorem ai2{a:Int}(ha:0≤a∧a≤100):Hf a=true∧(oi a).size≤21:=by
 have h1:leI (-9223372036854775808) a=true:=cw (by omega)
 have h2:leI a 9223372036854775807=true:=cw (by omega)
 refine⟨by simp [Hf,allT,h1,h2],?_⟩
 exact Ti ha.1 (by omega)
theorem Yp{k a b:Int}(hk:0≤k∧k≤6)(ha:0≤a∧a≤100)(hb:0≤b∧b≤100):nZ k a b=true:=by
 obtain⟨a1,a2⟩:=ai2 ha
 obtain⟨b1,b2⟩:=ai2 hb
 have h0:leI 0 k=true:=cw hk.1
 have h1:ltI k (afx.length:Int)=true:=cK (by have:afx.length=7:=rfl;omega)
 have h2:ltN k.toNat afx.length=true:=ip (by have:afx.length=7:=rfl;omega)
 have hs:(ve k).size≤8:=by
  have hc:k=0∨k=1∨k=2∨k=3∨k=4∨k=5∨k=6:=by omega
  rcases hc with rfl | rfl | rfl | rfl | rfl | rfl | rfl <;> decide
 have h5:(ByteArray.mk #[95]).size=1:=rfl
 have s1:(mP k).size≤9:=by rw [mP,ByteArray.size_append,h5];omega
 have s2:(mP k++oi a).size≤30:=by rw [ByteArray.size_append];omega
 have s3:(vf k a).size≤31:=by rw [vf,ByteArray.size_append,h5];omega
 have t1:leN ((ve k).size + (ByteArray.mk #[95]).size) 9223372036854775807=true:=iJ (by omega)
 have t2:leN ((mP k).size + (oi a).size) 9223372036854775807=true:=iJ (by omega)
 have t3:leN ((mP k++oi a).size + (ByteArray.mk #[95]).size) 9223372036854775807=true:=iJ (by omega)
 have t4:leN ((vf k a).size + (oi b).size) 9223372036854775807=true:=iJ (by omega)
 simp only [nZ,allT,h0,h1,h2,t1,a1,t2,t3,b1,t4,cond_true]
theorem alo(T:Nat)(a b c:Int)(acc:al0)(hT:T≤4)(hb:0≤b∧b≤8)(hc:0≤c∧c≤8)(hl:acc.length≤3):
  ar.fin ((0:Int),(T:Int),a,b,c,acc)=true∧ar.res ((0:Int),(T:Int),a,b,c,acc)=(0,((T:Int),(T:Int),a,b,c,acc++Zx T a b c)):=by
 have key:=ar.gath (fun k l=>((k:Int),(T:Int),a,b,c,l)) (fun x=>x.2.2.2.2.2) (fun(o:Nat)=>bif(o:Int)==a then []else oth b c (o:Int)) 0 T 4 acc (by omega)
  (fun o _=>by cases (o:Int)==a <;> simp [oth]) (fun o l ho hL=> ?_) (fun l=> ?_)
 ·exact key
 ·have hw:IntKind.i64.wrap ((o:Int) + 1)=((o + 1:Nat):Int):=jv ho (by omega)
  have h3:ltI (o:Int) (T:Int)=true:=cK (by omega)
  have q1:IntKind.i64.wrap (3 * b)=3 * b:=aB (by omega) (by omega)
  have q2:IntKind.i64.wrap (3 * b + 2)=3 * b + 2:=aB (by omega) (by omega)
  have q3:IntKind.i64.wrap (3 * c)=3 * c:=aB (by omega) (by omega)
  have q4:IntKind.i64.wrap (3 * c + 1)=3 * c + 1:=aB (by omega) (by omega)
  have q5:IntKind.i64.wrap (3 * c + 2)=3 * c + 2:=aB (by omega) (by omega)
  have l1:=FN (b:=4) (show l.length≤23 by omega) (by decide) (by decide)
  have l2:=Sf (b:=4) (show l.length≤23 by omega) (by decide) (by decide)
  refine⟨?_,?_,?_⟩
  ·cases ho2:(o:Int)==a <;> simp [bO,bP,dX,dY,dZ,ea,cT,eb,dL,ar,LT.nds,allT,h3,ho2,bne,l1,l2]
  ·cases ho2:(o:Int)==a <;> simp [bO,bP,dX,dY,dZ,ea,cT,eb,dL,ar,LT.each,h3,hw,ho2,bne]
  ·cases ho2:(o:Int)==a <;> simp [bO,bP,dX,dY,dZ,ea,cT,eb,dL,ar,LT.fn,h3,ho2,bne,oth,q1,q2,q3,q4,q5]
 ·have h3:ltI (T:Int) (T:Int)=false:=nA (by omega)
  simp [bO,bP,dX,dY,dZ,ea,cT,eb,dL,ar,LT.out,h3]
theorem Sg(ps:al4)(h:ps.length≤1000000):aL ps=(ps.length:Int):=by
 first
  |rfl
  |(simp only [aL];rw [aB (by omega) (by omega)])
theorem ai5{n:Int}{s:Bool}{i b:Int}{ps:al4}(hT:isT n ps=true)(hi:0≤i∧i < ps.length)(hb:0≤b∧b < n):
  cA n s i b ps=(trK s i b).map (rrK ps.length n)∧fu n s i b ps=true:=by
 obtain⟨h1,h2,_⟩:=gB.1 hT
 have hc:0≤Int.tmod (b + 1) n∧Int.tmod (b + 1) n < n:=by
  rcases NJ h1.1 hb with⟨h1,h2⟩ | ⟨h1,h2⟩ <;> rw [h1] <;> omega
 have q1:IntKind.i64.wrap (3 * b)=3 * b:=aB (by omega) (by omega)
 have q2:IntKind.i64.wrap (3 * b + 1)=3 * b + 1:=aB (by omega) (by omega)
 have q3:IntKind.i64.wrap (3 * b + 2)=3 * b + 2:=aB (by omega) (by omega)
 have q4:IntKind.i64.wrap (b + 1)=b + 1:=aB (by omega) (by omega)
 have q5:IntKind.i64.wrap ((ps.length:Int) + Int.tmod (b + 1) n)=(ps.length:Int) + Int.tmod (b + 1) n:=aB (by omega) (by omega)
 have q6:IntKind.i64.wrap (3 * Int.tmod (b + 1) n)=3 * Int.tmod (b + 1) n:=aB (by omega) (by omega)
 have hln:=Sg ps (by omega)
 obtain⟨w1,w2⟩:=alo ps.length i b (Int.tmod (b + 1) n) [(i,3 * b + 1,true),((ps.length:Int) + Int.tmod (b + 1) n,2,false),((ps.length:Int) + Int.tmod (b + 1) n,3,false)] (by omega) (by omega) (by omega) (by simp)
 have Oc:neI n 0=true:=by simp;omega
 have r0:=Yp (k:=0) (a:=i) (b:=b) (by omega) (by omega) (by omega)
 have r1:=Yp (k:=1) (a:=i) (b:=b) (by omega) (by omega) (by omega)
 have r2:=Yp (k:=2) (a:=i) (b:=b) (by omega) (by omega) (by omega)
 have r3:=Yp (k:=3) (a:=i) (b:=b) (by omega) (by omega) (by omega)
 constructor
 ·cases s <;> simp [eS,eT,eU,eV,iP,iQ,iR,bI,eW,eX,bw,cA,fu,hln,q1,q2,q3,q4,q5,q6,w2,trK,rrK,ruK,nmK,gK,eK]
 ·cases s <;> simp [eS,eT,eU,eV,iP,iQ,iR,bI,eW,eX,bw,cA,fu,allT,hln,q1,q2,q3,q4,q5,q6,w1,Oc,r0,r1,r2,r3,leN]
theorem aiq{n:Int}{s:Bool}{b k:Int}{ps:al4}(hT:isT n ps=true)(hb:0≤b∧b < n)(hk:1≤k∧k≤2):
  cz n s b k ps=(ftK s b k).map (rrK ps.length n)∧ft n s b k ps=true:=by
 obtain⟨h1,h2,_⟩:=gB.1 hT
 have q1:IntKind.i64.wrap ((ps.length:Int) + b)=(ps.length:Int) + b:=aB (by omega) (by omega)
 have q2:IntKind.i64.wrap ((ps.length:Int) + n)=(ps.length:Int) + n:=aB (by omega) (by omega)
 have q3:IntKind.i64.wrap (k - 1)=k - 1:=aB (by omega) (by omega)
 have hln:=Sg ps (by omega)
 have r4:=Yp (k:=4) (a:=b) (b:=k) (by omega) (by omega) (by omega)
 have r5:=Yp (k:=5) (a:=b) (b:=k) (by omega) (by omega) (by omega)
 have r6:=Yp (k:=6) (a:=b) (b:=k) (by omega) (by omega) (by omega)
 constructor
 ·cases s <;> simp [iO,df,eE,cz,ft,ci,dc,cj,ck,hln,q1,q2,q3,ftK,rrK,ruK,nmK,gK,eK]
 ·cases s <;> simp [iO,df,eE,cz,ft,ci,dc,cj,ck,allT,hln,r4,r5,r6,leN]
theorem Zo{A B C:Type}(f:A→List B)(h:B→C)(l:List A):(l.flatMap f).map h=l.flatMap fun a=>(f a).map h:=by
 induction l with
 |nil=>rfl
 |cons a l ih=>rw [List.flatMap_cons,List.flatMap_cons,List.map_append,ih]
theorem alp(i:Nat)(n d:Int)(s:Bool)(ps:al4)(acc:List agQ)(hT:isT n ps=true)(hi:i < ps.length)(hl:acc.length≤400):
  ax.fin ((0:Int),n,(i:Int),acc,n,d,s,ps)=true∧ax.res ((0:Int),n,(i:Int),acc,n,d,s,ps)=(0,(n,n,(i:Int),acc++(tkL s n.toNat i).map (rrK ps.length n),n,d,s,ps)):=by
 obtain⟨h1,h2,_⟩:=gB.1 hT
 obtain⟨m,rfl⟩:=Int.eq_ofNat_of_zero_le (show 0≤n by omega)
 simp only [q9]
 have key:=ax.gath (fun k a=>((k:Int),(m:Int),(i:Int),a,(m:Int),d,s,ps)) (fun x=>x.2.2.2.1) (fun(b:Nat)=>(trK s i b).map (rrK ps.length m)) 0 m 4 acc (by omega)
  (fun b _=>by rw [List.length_map];exact abE s i b) (fun b a hb ha=> ?_) (fun a=> ?_)
 ·rw [tkL,Zo];exact key
 ·have hw:IntKind.i64.wrap ((b:Int) + 1)=((b + 1:Nat):Int):=jv hb (by omega)
  have h3:ltI (b:Int) (m:Int)=true:=cK (by omega)
  obtain⟨w1,w2⟩:=ai5 (s:=s) (i:=(i:Int)) (b:=(b:Int)) hT (by omega) (by omega)
  have hb4:=abE s (i:Int) (b:Int)
  have l1:=FN (b:=((trK s (i:Int) (b:Int)).map (rrK ps.length m)).length) (show a.length≤500 by omega) (by rw [List.length_map];omega) (by decide)
  have l2:=ae5 (b:=((trK s (i:Int) (b:Int)).map (rrK ps.length m)).length) (show a.length≤500 by omega) (by rw [List.length_map];omega) (by decide)
  refine⟨?_,?_,?_⟩
  ·simp only [eF,eG,eH,eI,eJ,eL,eq,ax,LT.nds,allT,h3,w1,w2,l1,l2,cond_true,Bool.and_self,Bool.true_and]
  ·simp [eF,eG,eH,eI,eJ,eL,eq,ax,LT.each,h3,hw]
  ·simp only [eF,eG,eH,eI,eJ,eL,eq,ax,LT.fn,h3,w1,cond_true]
 ·have h3:ltI (m:Int) (m:Int)=false:=nA (by omega)
  simp [eF,eG,eH,eI,eJ,eL,eq,ax,LT.out,h3]
theorem alq(n d:Int)(s:Bool)(ps:al4)(hT:isT n ps=true):
  aD.fin ((0:Int),(ps.length:Int),n,d,s,[],ps)=true∧aD.res ((0:Int),(ps.length:Int),n,d,s,[],ps)=(0,((ps.length:Int),(ps.length:Int),n,d,s,((List.range ps.length).flatMap (tkL s n.toNat)).map (rrK ps.length n),ps)):=by
 obtain⟨h1,h2,_⟩:=gB.1 hT
 have key:=aD.gath (fun k a=>((k:Int),(ps.length:Int),n,d,s,a,ps)) (fun x=>x.2.2.2.2.2.1) (fun i=>(tkL s n.toNat i).map (rrK ps.length n)) 0 ps.length 32 [] (by omega)
  (fun i _=>by rw [List.length_map];exact Nat.le_trans (abD s n.toNat i) (by omega)) (fun i a hi ha=> ?_) (fun a=> ?_)
 ·rw [Zo];exact key
 ·simp only [w6]at ha
  have hw:IntKind.i64.wrap ((i:Int) + 1)=((i + 1:Nat):Int):=jv hi (by omega)
  have h3:ltI (i:Int) (ps.length:Int)=true:=cK (by omega)
  obtain⟨w1,w2⟩:=alp i n d s ps a hT hi (by omega)
  refine⟨?_,?_,?_⟩
  ·simp only [dv,gr,gt,gu,gv,fN,aD,LT.nds,allT,h3,w1,cond_true,Bool.and_self,Bool.true_and]
  ·simp [dv,gr,gt,gu,gv,fN,aD,LT.each,h3,hw]
  ·simp only [dv,gr,gt,gu,gv,fN,aD,LT.fn,h3,w2,cond_true]
 ·have h3:ltI (ps.length:Int) (ps.length:Int)=false:=nA (by omega)
  simp [dv,gr,gt,gu,gv,fN,aD,LT.out,h3]
theorem alr(b:Nat)(n d:Int)(s:Bool)(ps:al4)(acc:List agQ)(hT:isT n ps=true)(hb:(b:Int) < n)(hd:0≤d∧d≤2)(hl:acc.length≤400):
  ay.fin (d,(b:Int),acc,n,d,s,ps)=true∧ay.res (d,(b:Int),acc,n,d,s,ps)=(0,((0:Int),(b:Int),acc++(fkL s d.toNat b).map (rrK ps.length n),n,d,s,ps)):=by
 obtain⟨h1,h2,_⟩:=gB.1 hT
 obtain⟨m,rfl⟩:=Int.eq_ofNat_of_zero_le hd.1
 simp only [q9]
 have key:=ay.gath (fun j a=>((m:Int) - (j:Int),(b:Int),a,n,(m:Int),s,ps)) (fun x=>x.2.2.1) (fun(j:Nat)=>(ftK s b ((m:Int) - (j:Int))).map (rrK ps.length n)) 0 m 3 acc (by omega)
  (fun j _=>by rw [List.length_map];exact abu s b _) (fun j a hj ha=> ?_) (fun a=> ?_)
 ·have e1:(m:Int) - ((0:Nat):Int)=m:=by omega
  have e2:(m:Int) - (m:Int)=0:=by omega
  simp only [e1,e2]at key
  rw [fkL,Zo];exact key
 ·have hw:IntKind.i64.wrap ((m:Int) - (j:Int) - 1)=(m:Int) - ((j + 1:Nat):Int):=by rw [aB (by omega) (by omega)];omega
  have h3:ltI 0 ((m:Int) - (j:Int))=true:=cK (by omega)
  obtain⟨w1,w2⟩:=aiq (s:=s) (b:=(b:Int)) (k:=(m:Int) - (j:Int)) hT (by omega) (by omega)
  have hb4:=abu s (b:Int) ((m:Int) - (j:Int))
  have l1:=FN (b:=((ftK s (b:Int) ((m:Int) - (j:Int))).map (rrK ps.length n)).length) (show a.length≤500 by omega) (by rw [List.length_map];omega) (by decide)
  have l2:=ae5 (b:=((ftK s (b:Int) ((m:Int) - (j:Int))).map (rrK ps.length n)).length) (show a.length≤500 by omega) (by rw [List.length_map];omega) (by decide)
  refine⟨?_,?_,?_⟩
  ·simp only [eM,eN,eO,eP,eQ,eR,er,ay,LT.nds,allT,h3,w1,w2,l1,l2,cond_true,Bool.and_self,Bool.true_and]
  ·simp [eM,eN,eO,eP,eQ,eR,er,ay,LT.each,h3,hw]
  ·simp only [eM,eN,eO,eP,eQ,eR,er,ay,LT.fn,h3,w1,cond_true]
 ·have h3:ltI 0 ((m:Int) - (m:Int))=false:=nA (by omega)
  simp [eM,eN,eO,eP,eQ,eR,er,ay,LT.out,h3]
theorem als(n d:Int)(s:Bool)(ps:al4)(acc:List agQ)(hT:isT n ps=true)(hd:0≤d∧d≤2)(hl:acc.length≤200):
  aE.fin ((0:Int),n,n,d,s,acc,ps)=true∧aE.res ((0:Int),n,n,d,s,acc,ps)=(0,(n,n,n,d,s,acc++((List.range n.toNat).flatMap (fkL s d.toNat)).map (rrK ps.length n),ps)):=by
 obtain⟨h1,h2,_⟩:=gB.1 hT
 obtain⟨m,rfl⟩:=Int.eq_ofNat_of_zero_le (show 0≤n by omega)
 simp only [q9]
 have key:=aE.gath (fun k a=>((k:Int),(m:Int),(m:Int),d,s,a,ps)) (fun x=>x.2.2.2.2.2.1) (fun b=>(fkL s d.toNat b).map (rrK ps.length m)) 0 m 6 acc (by omega)
  (fun b _=>by rw [List.length_map];exact Nat.le_trans (agZ s d.toNat b) (by omega)) (fun b a hb ha=> ?_) (fun a=> ?_)
 ·rw [Zo];exact key
 ·have hw:IntKind.i64.wrap ((b:Int) + 1)=((b + 1:Nat):Int):=jv hb (by omega)
  have h3:ltI (b:Int) (m:Int)=true:=cK (by omega)
  obtain⟨w1,w2⟩:=alr b m d s ps a hT (by omega) hd (by omega)
  refine⟨?_,?_,?_⟩
  ·simp only [dw,gw,gx,gy,gz,fO,aE,LT.nds,allT,h3,w1,cond_true,Bool.and_self,Bool.true_and]
  ·simp [dw,gw,gx,gy,gz,fO,aE,LT.each,h3,hw]
  ·simp only [dw,gw,gx,gy,gz,fO,aE,LT.fn,h3,w2,cond_true]
 ·have h3:ltI (m:Int) (m:Int)=false:=nA (by omega)
  simp [dw,gw,gx,gy,gz,fO,aE,LT.out,h3]
theorem aiX(n d:Int)(s:Bool)(ps:al4)(h:isR n d ps=true):rt n d s ps=(kL ps.length n.toNat d.toNat s).map (rrK ps.length n)∧ru n d s ps=true:=by
 obtain⟨hT,hd⟩:=LO.1 h
 obtain⟨h1,h2,_⟩:=gB.1 hT
 have hln:=Sg ps (by omega)
 obtain⟨a1,a2⟩:=alq n d s ps hT
 have hl:(((List.range ps.length).flatMap (tkL s n.toNat)).map (rrK ps.length n)).length≤128:=by
  have:=Fe (tkL s n.toNat) 32 (fun i=>Nat.le_trans (abD s n.toNat i) (by omega)) ps.length
  rw [List.length_map];omega
 obtain⟨b1,b2⟩:=als n d s ps _ hT hd (by omega:(((List.range ps.length).flatMap (tkL s n.toNat)).map (rrK ps.length n)).length≤200)
 simp [qP,qQ,rt,ru,hln,a1,a2,b1,b2,kL,allT]
def xN:al6
 | [.one ⟨true,[.val (.int .i64 a),.ref 0,.val (.int .i64 b),.val (.bool c)]⟩],[.row false 2 (.int .i64) d]=>some ⟨al8 (.ref 1),[ama d],[amg ((kL d.length a.toNat b.toNat c).map (rrK d.length a))],[isR a b d]⟩
 |_,_=>none
def ai:PF prog:=PF.alt HP xN (by
 intro args es o h dq;unfold xN at h;split at h
 ·rename_i a b c d
  cases h
  have dq:=zR dq
  have hh:=aiX a b c d dq
  obtain⟨e0,en⟩:=hh
  exact uJ rfl (pM en) rfl rfl (by simp only [e0] <;> rfl)
 ·cases h)
def aaf(a:Int):Bool:= !bg a 1 32
def RJ:al6
 | [.one ⟨false,[.val (.int .i64 a)]⟩],[]=>some ⟨al8 (.val (.bool (aaf a))),[],[],[]⟩
 |_,_=>none
def aaq:PF prog:=PF.ofG prog [oQ] [] aS 88 f88 func88 (fun c _=>LOk.nil c) RJ (by
 intro _ _ _ h;unfold RJ at h;split at h<;>cases h;kernel_rfl)
section
variable (a b:Int)(c:al4)
def il:Bool:=bg a 0 (j6 .i64 (aL c - (1:Int)))
def cO:Bool:=bif il a c then bg b 0 (j6 .i64 (z8 c[z6 a]? 0 - (1:Int)))else false
def cP:Bool:=allT [!(il a c&&true)||leI 0 a,!(il a c&&true)||ltI a (↑c.length:Int),!(il a c&&true)||ltN a.toNat c.length]
end
def yj:al6
 | [.one ⟨true,[.ref 0,.ref 1,.ref 2]⟩,.one ⟨false,[.val (.int .i64 a)]⟩,.one ⟨false,[.val (.int .i64 b)]⟩],[.row false 2 (.int .i64) c,.row false 2 (.int .i64) d,.row false 70 (.pair (.str) (.pair (.sl 125 (.pair (.int .i64) (.pair (.int .i64) (.bool)))) (.sl 129 (.pair (.int .i64) (.int .i64))))) e]=>some ⟨al8 (.val (.bool (cO a b c))),[ama c,ama d,aml e],[],[cP a c]⟩
 |_,_=>none
def ae:PF prog:=PF.ofG prog (T3z [oQ,af]) [] aS 95 f95 func95 (fun c _=>LOk.nil c) yj (by
 intro _ _ _ h;unfold yj at h;split at h<;>cases h;kernel_rfl)
abbrev bF:=Int×Int×List Int×List Int×List Int×List (al5×((List (Int×(Int×Bool)))×(List (Int×Int))))
section
variable (a b:Int)(c d:al4)
def DH:Bool:=ltI a b
def DI:Bool:=leI 0 a
def DJ:Bool:=ltI a (↑c.length:Int)
def DK:Bool:=ltN a.toNat c.length
def DL:Bool:=cP a d
def DM:Bool:= !cO a (z8 c[z6 a]? 0) d
def DN:Int:=j6 .i64 (a + (1:Int))
end
def CW:bF→List (Nat×SV)
 |(a,b,_,_,_,_)=> [(15,(al9 a)),(14,(al9 b)),(13,(al8 (.ref 0))),(2,(al8 (.ptr 1 0)))]
def CR:bF→List (Nat×Entry)
 |(_,_,a,b,c,d)=> [(0,(ama a)),(1,(.box 94 [.ref 2,.ref 3,.ref 4])),(2,(ama b)),(3,(ama c)),(4,(amc d))]
def Dg:Nat→bF→List (Nat×SV)
 |0,(_,_,_,_,_,_)=> [(4,(al8 (.val (.bool false))))]
 |_,_=>[]
def Do:bF→LT bF
 |(a,b,c,d,e,f)=> .ite (DH a b) (.need [DI a,DJ a c,DK a c] (.need [DL a d] (.ite (DM a c d) (.ext 0 [(0,0),(1,1),(2,2),(3,3),(4,4)]) (.nrm ((DN a),b,c,d,e,f) [(0,0),(1,1),(2,2),(3,3),(4,4)])))) (.ext 1 [(0,0),(1,1),(2,2),(3,3),(4,4)])
def nq(s:St):Option bF:=do
 let some ⟨none,.one ⟨false,[.val (.int .i64 a)]⟩⟩:=s.look 15|none
 let some ⟨none,.one ⟨false,[.val (.int .i64 b)]⟩⟩:=s.look 14|none
 let some ⟨none,.one ⟨false,[.ref 3]⟩⟩:=s.look 13|none
 let some ⟨none,.one ⟨false,[.ptr 320 0]⟩⟩:=s.look 2|none
 let some (.row false 2 (.int .i64) c):=s.ent 3|none
 let some (.box 94 [.ref 0,.ref 1,.ref 2]):=s.ent 320|none
 let some (.row false 2 (.int .i64) d):=s.ent 0|none
 let some (.row false 2 (.int .i64) e):=s.ent 1|none
 let some (.row false 70 (.pair .str (.pair (.sl 125 (.pair (.int .i64) (.pair (.int .i64) .bool))) (.sl 129 (.pair (.int .i64) (.int .i64))))) f):=s.ent 2|none
 some (a,b,c,d,e,f)
def cY:Lp bF where
 h:=⟨[16,17,18,19,5,6,20,21,22,23,24,4,25,15],[0,1,2,3,4],[],[]⟩
 JL:=CW
 JE:=CR
 XL:=Dg
 XE:=fun _=>CR
 q:=fun j=>match j with | 0=> .ret | _=> .exit 0
 tags:= [0,1]
 lt:=Do
 fuel:=fun(a,b,c,d,e,f)=>a.natAbs + b.natAbs + c.length + d.length + e.length + f.length
 fix:=fun(_,b,c,d,e,f) (a,_,_,_,_,_)=>(a,b,c,d,e,f)
 σ:= [(0,3),(1,320),(2,0),(3,1),(4,2)]
 rd:=nq
theorem Ca:LoopOk prog (fun k=>Nat.blt k Tryz.f89.ntmps) cY.F (aI f89 0):=by
 refine Lp.ok (tbl:= (T3z [ae])) (lf:= []) aS cY (by kernel_rfl) (LOk.nil _) (fun _=>rfl) (fun j _=>by unfold cY;match j with | 0=>rfl | _ + 1=>rfl) ?_ ?_ ?_ ?_ (fun _=>rfl) ?_
 ·intro _;kernel_rfl
 ·intro _;kernel_rfl
 ·intro s x h
  have h:nq s=some x:=h
  unfold nq at h
  repeat' split at h
  all_goals cases h
  constructor<;>repeat(first|refine aa ‹_› rfl ?_|refine ab rfl ‹_› rfl ?_|rfl)
 ·intro _;kernel_rfl
 ·intro _ _;exact(And.intro (And.intro trivial rfl) trivial)
section
variable (a b:al4)(c:aeT)(d:al4)
def vE:Bool:=(↑d.length:Int)!=(↑a.length:Int)
def vF:Int×Int×al4×al4×al4×aeT:=((0:Int),(↑d.length:Int),d,a,b,c)
def FO:Bool:=bif vE a d then false else bif Nat.beq ((Lp.res cY (vF a b c d)).1) 0 then false else true
def FP:Bool:=allT [vE a d||Lp.fin cY (vF a b c d)]
end
def wd:al6
 | [.one ⟨true,[.ref 0,.ref 1,.ref 2]⟩,.one ⟨false,[.ref 3]⟩],[.row false 2 (.int .i64) a,.row false 2 (.int .i64) b,.row false 70 (.pair (.str) (.pair (.sl 125 (.pair (.int .i64) (.pair (.int .i64) (.bool)))) (.sl 129 (.pair (.int .i64) (.int .i64))))) c,.row false 2 (.int .i64) d]=>some ⟨al8 (.val (.bool (FO a b c d))),[ama a,ama b,aml c,ama d],[],[FP a b c d]⟩
 |_,_=>none
def pO:PF prog:=PF.ofG prog (T3z [ae]) [cY.F] aS 89 f89 func89 (LOk.fnT (l:= [aI f89 0]) (by kernel_rfl) (.cons Ca (.nil _))) wd (by
 intro _ _ _ h;unfold wd at h;split at h<;>cases h;kernel_rfl)
def DY(a:Int):Bool:= !bg a 1 32
def Lr:al6
 | [.one ⟨false,[.val (.int .i64 a)]⟩],[]=>some ⟨al8 (.val (.bool (DY a))),[],[],[]⟩
 |_,_=>none
def LW:PF prog:=PF.ofG prog [oQ] [] aS 88 f88 func88 (fun c _=>LOk.nil c) Lr (by
 intro _ _ _ h;unfold Lr at h;split at h<;>cases h;kernel_rfl)
abbrev cm:=Int×Int×List Int
section
variable (a b:Int)(c:al4)
def qh:Bool:=ltI a b
def qi:Bool:=leI 0 a
def qj:Bool:=ltI a (↑c.length:Int)
def qk:Bool:=ltN a.toNat c.length
def ql:Bool:=DY (z8 c[z6 a]? 0)
def qm:Int:=j6 .i64 (a + (1:Int))
end
def FA:cm→List (Nat×SV)
 |(a,b,_)=> [(8,(al9 a)),(7,(al9 b)),(1,(al8 (.val (.func (.func 88) ⟨[]⟩ ⟨[]⟩)))),(0,(al8 (.ref 0)))]
def Fz:cm→List (Nat×Entry)
 |(_,_,a)=> [(0,(ama a))]
def FC:Nat→cm→List (Nat×SV)
 |0,(a,_,_)=> [(4,(al9 a))]
 |_,_=>[]
def pL:cm→LT cm
 |(a,b,c)=> .ite (qh a b) (.need [qi a,qj a c,qk a c] (.ite (ql a c) (.ext 0 [(0,0)]) (.nrm ((qm a),b,c) [(0,0)]))) (.ext 1 [(0,0)])
def pP(s:St):Option cm:=do
 let some ⟨none,.one ⟨false,[.val (.int .i64 a)]⟩⟩:=s.look 8|none
 let some ⟨none,.one ⟨false,[.val (.int .i64 b)]⟩⟩:=s.look 7|none
 let some ⟨none,.one ⟨false,[.val (.func (.func 88) ⟨[]⟩ ⟨[]⟩)]⟩⟩:=s.look 1|none
 let some ⟨none,.one ⟨false,[.ref 0]⟩⟩:=s.look 0|none
 let some (.row false 2 (.int .i64) c):=s.ent 0|none
 some (a,b,c)
def aG:Lp cm where
 h:=⟨[9,10,5,11,12,13,14,15,16,17,4,18,8],[0],[],[]⟩
 JL:=FA
 JE:=Fz
 XL:=FC
 XE:=fun _=>Fz
 q:=fun j=>match j with | 0=> .ret | _=> .exit 0
 tags:= [0,1]
 lt:=pL
 fuel:=fun(a,b,c)=>a.natAbs + b.natAbs + c.length
 fix:=fun(_,b,c) (a,_,_)=>(a,b,c)
 σ:= [(0,0)]
 rd:=pP
theorem Ef:LoopOk prog (fun k=>Nat.blt k Tryz.f99.ntmps) aG.F (aI f99 0):=by
 refine Lp.ok (tbl:= [LW]) (lf:= []) aS aG (by kernel_rfl) (LOk.nil _) (fun _=>rfl) (fun j _=>by unfold aG;match j with | 0=>rfl | _ + 1=>rfl) ?_ ?_ ?_ ?_ (fun _=>rfl) ?_
 ·intro _;kernel_rfl
 ·intro _;kernel_rfl
 ·intro s x h
  have h:pP s=some x:=h
  unfold pP at h
  repeat' split at h
  all_goals cases h
  constructor<;>repeat(first|refine aa ‹_› rfl ?_|refine ab rfl ‹_› rfl ?_|rfl)
 ·intro _;kernel_rfl
 ·intro _ _;exact(And.intro (And.intro trivial rfl) trivial)
section
variable (a:al4)
def mB:Int×Int×al4:=((0:Int),(↑a.length:Int),a)
def sr:Int:=bif Nat.beq ((Lp.res aG (mB a)).1) 0 then ((Lp.res aG (mB a)).2).1else(-1:Int)
def su:Bool:=allT [Lp.fin aG (mB a)]
end
def ym:al6
 | [.one ⟨false,[.ref 0]⟩,.one ⟨false,[.val (.func (.func 88) ⟨[]⟩ ⟨[]⟩)]⟩],[.row false 2 (.int .i64) a]=>some ⟨al9 (sr a),[ama a],[],[su a]⟩
 |_,_=>none
def sq:PF prog:=PF.ofG prog [LW] [aG.F] aS 99 f99 func99 (LOk.fnT (l:= [aI f99 0]) (by kernel_rfl) (.cons Ef (.nil _))) ym (by
 intro _ _ _ h;unfold ym at h;split at h<;>cases h;kernel_rfl)
def gM(a:al4):Bool:=leI 0 (sr a)
def qg(a:al4):Bool:=allT [su a]
def wN:al6
 | [.one ⟨false,[.ref 0]⟩,.one ⟨false,[.val (.func (.func 88) ⟨[]⟩ ⟨[]⟩)]⟩],[.row false 2 (.int .i64) a]=>some ⟨al8 (.val (.bool (gM a))),[ama a],[],[qg a]⟩
 |_,_=>none
def qf:PF prog:=PF.ofG prog (T3z [sq]) [] aS 72 f72 func72 (fun c _=>LOk.nil c) wN (by
 intro _ _ _ h;unfold wN at h;split at h<;>cases h;kernel_rfl)
abbrev ba:=Int×Int×List Int×List Int×List (al5×((List (Int×(Int×Bool)))×(List (Int×Int))))
section
variable (a b:Int)(c d:al4)
def kX:Bool:=ltI a b
def kY:Bool:=leI 0 a
def kZ:Bool:=ltI a (↑c.length:Int)
def lc:Bool:=ltN a.toNat c.length
def ld:Bool:=cP a d
def lg:Bool:= !cO a (z8 c[z6 a]? 0) d
def lh:Int:=j6 .i64 (a + (1:Int))
end
def zl:ba→List (Nat×SV)
 |(a,b,_,_,_)=> [(15,(al9 a)),(14,(al9 b)),(13,(al8 (.ref 0))),(2,(al8 (.ptr 1 0)))]
def zk:ba→List (Nat×Entry)
 |(_,_,a,b,c)=> [(0,(ama a)),(1,(.box 94 [.ref 2,.ref 0,.ref 3])),(2,(ama b)),(3,(amc c))]
def zn:Nat→ba→List (Nat×SV)
 |0,(_,_,_,_,_)=> [(4,(al8 (.val (.bool false))))]
 |_,_=>[]
def ko:ba→LT ba
 |(a,b,c,d,e)=> .ite (kX a b) (.need [kY a,kZ a c,lc a c] (.need [ld a d] (.ite (lg a c d) (.ext 0 [(0,0),(1,1),(2,2),(3,3)]) (.nrm ((lh a),b,c,d,e) [(0,0),(1,1),(2,2),(3,3)])))) (.ext 1 [(0,0),(1,1),(2,2),(3,3)])
def kr(s:St):Option ba:=do
 let some ⟨none,.one ⟨false,[.val (.int .i64 a)]⟩⟩:=s.look 15|none
 let some ⟨none,.one ⟨false,[.val (.int .i64 b)]⟩⟩:=s.look 14|none
 let some ⟨none,.one ⟨false,[.ref 1]⟩⟩:=s.look 13|none
 let some ⟨none,.one ⟨false,[.ptr 256 0]⟩⟩:=s.look 2|none
 let some (.row false 2 (.int .i64) c):=s.ent 1|none
 let some (.box 94 [.ref 0,.ref 1,.ref 2]):=s.ent 256|none
 let some (.row false 2 (.int .i64) d):=s.ent 0|none
 let some (.row false 70 (.pair .str (.pair (.sl 125 (.pair (.int .i64) (.pair (.int .i64) .bool))) (.sl 129 (.pair (.int .i64) (.int .i64))))) e):=s.ent 2|none
 some (a,b,c,d,e)
def ao:Lp ba where
 h:=⟨[16,17,18,19,5,6,20,21,22,23,24,4,25,15],[0,1,2,3],[],[]⟩
 JL:=zl
 JE:=zk
 XL:=zn
 XE:=fun _=>zk
 q:=fun j=>match j with | 0=> .ret | _=> .exit 0
 tags:= [0,1]
 lt:=ko
 fuel:=fun(a,b,c,d,e)=>a.natAbs + b.natAbs + c.length + d.length + e.length
 fix:=fun(_,b,c,d,e) (a,_,_,_,_)=>(a,b,c,d,e)
 σ:= [(0,1),(1,256),(2,0),(3,2)]
 rd:=kr
theorem yT:LoopOk prog (fun k=>Nat.blt k Tryz.f89.ntmps) ao.F (aI f89 0):=by
 refine Lp.ok (tbl:= (T3z [ae])) (lf:= []) aS ao (by kernel_rfl) (LOk.nil _) (fun _=>rfl) (fun j _=>by unfold ao;match j with | 0=>rfl | _ + 1=>rfl) ?_ ?_ ?_ ?_ (fun _=>rfl) ?_
 ·intro _;kernel_rfl
 ·intro _;kernel_rfl
 ·intro s x h
  have h:kr s=some x:=h
  unfold kr at h
  repeat' split at h
  all_goals cases h
  constructor<;>repeat(first|refine aa ‹_› rfl ?_|refine ab rfl ‹_› rfl ?_|rfl)
 ·intro _;kernel_rfl
 ·intro _ _;exact(And.intro (And.intro trivial rfl) trivial)
section
variable (a b:al4)(c:aeT)
def lI:Bool:=(↑b.length:Int)!=(↑a.length:Int)
def lJ:Int×Int×al4×al4×aeT:=((0:Int),(↑b.length:Int),b,a,c)
def mg:Bool:=bif lI a b then false else bif Nat.beq ((Lp.res ao (lJ a b c)).1) 0 then false else true
def mh:Bool:=allT [lI a b||Lp.fin ao (lJ a b c)]
end
def sM:al6
 | [.one ⟨true,[.ref 0,.ref 1,.ref 2]⟩,.one ⟨false,[.ref 1]⟩],[.row false 2 (.int .i64) a,.row false 2 (.int .i64) b,.row false 70 (.pair .str (.pair (.sl 125 (.pair (.int .i64) (.pair (.int .i64) .bool))) (.sl 129 (.pair (.int .i64) (.int .i64))))) c]=>some ⟨al8 (.val (.bool (mg a b c))),[ama a,ama b,amc c],[],[mh a b c]⟩
 |_,_=>none
def mj:PF prog:=PF.ofG prog (T3z [ae]) [ao.F] aS 89 f89 func89 (LOk.fnT (l:= [aI f89 0]) (by kernel_rfl) (.cons yT (.nil _))) sM (by
 intro _ _ _ h;unfold sM at h;split at h<;>cases h;kernel_rfl)
def qG(a:al5)(b:Int):Int:=ibs a b
def xf:al6
 | [.one ⟨false,[.val (.string a)]⟩,.one ⟨false,[.val (.int IntKind.u8 b)]⟩],[]=>some ⟨al9 (qG a b),[],[],[]⟩
 |_,_=>none
def Hn:PF prog:=PF.ofG prog [] [] aS 141 f141 func141 (fun c _=>LOk.nil c) xf (by
 intro _ _ _ h;unfold xf at h;split at h<;>cases h;kernel_rfl)
def AY(a:al5)(b:Int):Int:=qG a b
def Io:al6
 | [.one ⟨false,[.val (.string a)]⟩,.one ⟨false,[.val (.int IntKind.u8 b)]⟩],[]=>some ⟨al9 (AY a b),[],[],[]⟩
 |_,_=>none
def Iq:PF prog:=PF.ofG prog [Hn] [] aS 135 f135 func135 (fun c _=>LOk.nil c) Io (by
 intro _ _ _ h;unfold Io at h;split at h<;>cases h;kernel_rfl)
abbrev oT:=Int×Int×al5×al5
section
variable (a b:Int)(c d:al5)
def tV:Bool:=ltI (j6 .i64 (a + b)) (↑(ByteArray.size c):Int)
def Iy:Bool:= !(tV a b c&&true)||leI 0 (j6 .i64 (a + b))
def Iz:Bool:= !(tV a b c&&true)||tV a b c
def IA:Bool:=bif tV a b c then leI 0 (AY d (↑(UInt8.toNat (z8 c[z6 (j6 .i64 (a + b))]? (0:UInt8))):Int))else false
def IB:Int:=j6 .i64 (b + (1:Int))
end
def UI:oT→List (Nat×SV)
 |(a,b,c,d)=> [(1,(al9 a)),(7,(al9 b)),(0,(al8 (.val (.string c)))),(2,(al8 (.val (.string d))))]
def UF:oT→List (Nat×Entry)
 |(_,_,_,_)=> []
def UT:Nat→oT→List (Nat×SV)
 |_,(_,a,_,_)=> [(7,(al9 a))]
def Hi:oT→LT oT
 |(a,b,c,d)=> .need [Iy a b c,Iz a b c] (.ite (IA a b c d) (.nrm (a,IB b,c,d) []) (.ext 0 []))
def Hq(s:St):Option oT:=do
 let some ⟨none,.one ⟨false,[.val (.int .i64 a)]⟩⟩:=s.look 1|none
 let some ⟨none,.one ⟨false,[.val (.int .i64 b)]⟩⟩:=s.look 7|none
 let some ⟨none,.one ⟨false,[.val (.string c)]⟩⟩:=s.look 0|none
 let some ⟨none,.one ⟨false,[.val (.string d)]⟩⟩:=s.look 2|none
 some (a,b,c,d)
def jG:Lp oT where
 h:=⟨[8,9,10,11,12,13,14,15,16,17,18,19,20,21,22,23,24,25,7],[],[],[]⟩
 JL:=UI
 JE:=UF
 XL:=UT
 XE:=fun _=>UF
 q:=fun j=>match j with | _=> .exit 0
 tags:= [0]
 lt:=Hi
 fuel:=fun(a,b,c,d)=>a.natAbs + b.natAbs + c.size + d.size
 fix:=fun(a,_,c,d) (_,b,_,_)=>(a,b,c,d)
 σ:= []
 rd:=Hq
theorem Tk:LoopOk prog (fun k=>Nat.blt k Tryz.f126.ntmps) jG.F (aI f126 0):=by
 refine Lp.ok (tbl:= [Iq]) (lf:= []) aS jG (by kernel_rfl) (LOk.nil _) (fun _=>rfl) (fun _ _=>rfl) ?_ ?_ ?_ ?_ (fun _=>rfl) ?_
 ·intro _;kernel_rfl
 ·intro _;kernel_rfl
 ·intro s x h
  have h:Hq s=some x:=h
  unfold Hq at h
  repeat' split at h
  all_goals cases h
  exact⟨aa ‹_› rfl (aa ‹_› rfl (aa ‹_› rfl (aa ‹_› rfl (rfl)))),rfl⟩
 ·intro _;kernel_rfl
 ·intro _ _;exact(And.intro rfl trivial)
section
variable (a:al5)(b:Int)(c:al5)
def LK:Int×Int×al5×al5:=(b,(0:Int),a,c)
def MS:Int:=((Lp.res jG (LK a b c)).2.2).1
def MT:Bool:=allT [Lp.fin jG (LK a b c)]
end
def RM:al6
 | [.one ⟨false,[.val (.string a)]⟩,.one ⟨false,[.val (.int .i64 b)]⟩,.one ⟨false,[.val (.string c)]⟩],[]=>some ⟨al9 (MS a b c),[],[],[MT a b c]⟩
 |_,_=>none
def aau:PF prog:=PF.ofG prog [Iq] [jG.F] aS 126 f126 func126 (LOk.fnT (l:= [aI f126 0]) (by kernel_rfl) (.cons Tk (.nil _))) RM (by
 intro _ _ _ h;unfold RM at h;split at h<;>cases h;kernel_rfl)
section
variable (a:al5)
def BW:Bool:=bg (↑(ByteArray.size a):Int) 1 16
def tP:Bool:=bif BW a then MS a 0 (ByteArray.mk #[97,98,99,100,101,102,103,104,105,106,107,108,109,110,111,112,113,114,115,116,117,118,119,120,121,122,48,49,50,51,52,53,54,55,56,57,95])==(↑(ByteArray.size a):Int)else false
def xP:Bool:=allT [!(BW a&&true)||MT a 0 (ByteArray.mk #[97,98,99,100,101,102,103,104,105,106,107,108,109,110,111,112,113,114,115,116,117,118,119,120,121,122,48,49,50,51,52,53,54,55,56,57,95])]
end
def Lb:al6
 | [.one ⟨false,[.val (.string a)]⟩],[]=>some ⟨al8 (.val (.bool (tP a))),[],[],[xP a]⟩
 |_,_=>none
def Lj:PF prog:=PF.ofG prog [oQ,aau] [] aS 109 f109 func109 (fun c _=>LOk.nil c) Lb (by
 intro _ _ _ h;unfold Lb at h;split at h<;>cases h;kernel_rfl)
def kV(a b:Int)(c:al4):Bool:= !cO a b c
def kW(a:Int)(b:al4):Bool:=allT [cP a b]
def rl:al6
 | [.one ⟨true,[.val (.int .i64 a),.val (.int .i64 b),.val (.bool _x2)]⟩,.one ⟨false,[.ptr 0 0]⟩],[.box 94 [.ref 1,.ref 2,.ref 3],.row false 2 (.int .i64) c,.row false 2 (.int .i64) d,.row false 70 (.pair .str (.pair (.sl 125 (.pair (.int .i64) (.pair (.int .i64) .bool))) (.sl 129 (.pair (.int .i64) (.int .i64))))) e]=>some ⟨al8 (.val (.bool (kV a b c))),[.box 94 [.ref 1,.ref 2,.ref 3],ama c,ama d,amc e],[],[kW a c]⟩
 |_,_=>none
def cq:PF prog:=PF.ofG prog (T3z [ae]) [] aS 94 f94 func94 (fun c _=>LOk.nil c) rl (by
 intro _ _ _ h;unfold rl at h;split at h<;>cases h;kernel_rfl)
abbrev cC:=Int×Int×List (Int×(Int×Bool))×List Int×List Int×List (al5×((List (Int×(Int×Bool)))×(List (Int×Int))))
section
variable (a b:Int)(c:agb)(d:al4)
def hZ:Int×Int×Bool:=z8 c[z6 a]? ((0:Int),(0:Int),false)
def rV:Bool:=ltI a b
def rW:Bool:=leI 0 a
def rX:Bool:=ltI a (↑c.length:Int)
def rY:Bool:=ltN a.toNat c.length
def rZ:Bool:=kW ((hZ a c).1) d
def sa:Bool:=kV ((hZ a c).1) (((hZ a c).2).1) d
def sc:Int:=j6 .i64 (a + (1:Int))
end
def GK:cC→List (Nat×SV)
 |(a,b,_,_,_,_)=> [(8,(al9 a)),(7,(al9 b)),(1,(al8 (.clo 94 [0]))),(0,(al8 (.ref 1)))]
def GG:cC→List (Nat×Entry)
 |(_,_,a,b,c,d)=> [(0,(.box 94 [.ref 2,.ref 3,.ref 4])),(1,(amd a)),(2,(ama b)),(3,(ama c)),(4,(amc d))]
def GW:Nat→cC→List (Nat×SV)
 |0,(a,_,_,_,_,_)=> [(4,(al9 a))]
 |_,_=>[]
def qS:cC→LT cC
 |(a,b,c,d,e,f)=> .ite (rV a b) (.need [rW a,rX a c,rY a c,rZ a c d] (.ite (sa a c d) (.ext 0 [(0,0),(1,1),(2,2),(3,3),(4,4)]) (.nrm ((sc a),b,c,d,e,f) [(0,0),(1,1),(2,2),(3,3),(4,4)]))) (.ext 1 [(0,0),(1,1),(2,2),(3,3),(4,4)])
def qU(s:St):Option cC:=do
 let some ⟨none,.one ⟨false,[.val (.int .i64 a)]⟩⟩:=s.look 8|none
 let some ⟨none,.one ⟨false,[.val (.int .i64 b)]⟩⟩:=s.look 7|none
 let some ⟨none,.one ⟨false,[.clo 94 [1]]⟩⟩:=s.look 1|none
 let some ⟨none,.one ⟨false,[.ref 0]⟩⟩:=s.look 0|none
 let some (.box 94 [.ref 2,.ref 3,.ref 4]):=s.ent 1|none
 let some (.row false 125 (.pair (.int .i64) (.pair (.int .i64) .bool)) c):=s.ent 0|none
 let some (.row false 2 (.int .i64) d):=s.ent 2|none
 let some (.row false 2 (.int .i64) e):=s.ent 3|none
 let some (.row false 70 (.pair .str (.pair (.sl 125 (.pair (.int .i64) (.pair (.int .i64) .bool))) (.sl 129 (.pair (.int .i64) (.int .i64))))) f):=s.ent 4|none
 some (a,b,c,d,e,f)
def aO:Lp cC where
 h:=⟨[9,10,5,11,12,13,14,15,16,17,4,18,8],[0,1,2,3,4],[],[]⟩
 JL:=GK
 JE:=GG
 XL:=GW
 XE:=fun _=>GG
 q:=fun j=>match j with | 0=> .ret | _=> .exit 0
 tags:= [0,1]
 lt:=qS
 fuel:=fun(a,b,c,d,e,f)=>a.natAbs + b.natAbs + c.length + d.length + e.length + f.length
 fix:=fun(_,b,c,d,e,f) (a,_,_,_,_,_)=>(a,b,c,d,e,f)
 σ:= [(0,1),(1,0),(2,2),(3,3),(4,4)]
 rd:=qU
theorem FR:LoopOk prog (fun k=>Nat.blt k Tryz.f110.ntmps) aO.F (aI f110 0):=by
 refine Lp.ok (tbl:= (T3z [cq])) (lf:= []) aS aO (by kernel_rfl) (LOk.nil _) (fun _=>rfl) (fun j _=>by unfold aO;match j with | 0=>rfl | _ + 1=>rfl) ?_ ?_ ?_ ?_ (fun _=>rfl) ?_
 ·intro _;kernel_rfl
 ·intro _;kernel_rfl
 ·intro s x h
  have h:qU s=some x:=h
  unfold qU at h
  repeat' split at h
  all_goals cases h
  constructor<;>repeat(first|refine aa ‹_› rfl ?_|refine ab rfl ‹_› rfl ?_|rfl)
 ·intro _;kernel_rfl
 ·intro _ _;exact(And.intro (And.intro trivial rfl) trivial)
section
variable (a:al0)(b c:al4)(d:aeT)
def nD:Int×Int×al0×al4×al4×aeT:=((0:Int),(↑a.length:Int),a,b,c,d)
def tt:Int:=bif Nat.beq ((Lp.res aO (nD a b c d)).1) 0 then ((Lp.res aO (nD a b c d)).2).1else(-1:Int)
def tu:Bool:=allT [Lp.fin aO (nD a b c d)]
end
def zh:al6
 | [.one ⟨false,[.ref 0]⟩,.one ⟨false,[.clo 94 [1]]⟩],[.row false 125 (.pair (.int .i64) (.pair (.int .i64) .bool)) a,.box 94 [.ref 2,.ref 3,.ref 4],.row false 2 (.int .i64) b,.row false 2 (.int .i64) c,.row false 70 (.pair .str (.pair (.sl 125 (.pair (.int .i64) (.pair (.int .i64) .bool))) (.sl 129 (.pair (.int .i64) (.int .i64))))) d]=>some ⟨al9 (tt a b c d),[amd a,.box 94 [.ref 2,.ref 3,.ref 4],ama b,ama c,amc d],[],[tu a b c d]⟩
 |_,_=>none
def tj:PF prog:=PF.ofG prog (T3z [cq]) [aO.F] aS 110 f110 func110 (LOk.fnT (l:= [aI f110 0]) (by kernel_rfl) (.cons FR (.nil _))) zh (by
 intro _ _ _ h;unfold zh at h;split at h<;>cases h;kernel_rfl)
def rK(a:al0)(b c:al4)(d:aeT):Bool:=leI 0 (tt a b c d)
def rL(a:al0)(b c:al4)(d:aeT):Bool:=allT [tu a b c d]
def xJ:al6
 | [.one ⟨false,[.ref 0]⟩,.one ⟨false,[.clo 94 [1]]⟩],[.row false 125 (.pair (.int .i64) (.pair (.int .i64) .bool)) a,.box 94 [.ref 2,.ref 3,.ref 4],.row false 2 (.int .i64) b,.row false 2 (.int .i64) c,.row false 70 (.pair .str (.pair (.sl 125 (.pair (.int .i64) (.pair (.int .i64) .bool))) (.sl 129 (.pair (.int .i64) (.int .i64))))) d]=>some ⟨al8 (.val (.bool (rK a b c d))),[amd a,.box 94 [.ref 2,.ref 3,.ref 4],ama b,ama c,amc d],[],[rL a b c d]⟩
 |_,_=>none
def rC:PF prog:=PF.ofG prog (T3z [tj]) [] aS 93 f93 func93 (fun c _=>LOk.nil c) xJ (by
 intro _ _ _ h;unfold xJ at h;split at h<;>cases h;kernel_rfl)
section
variable (a b:al4)(c:aeT)(d:al0)
def lv:Bool:=leI (↑d.length:Int) 24
def gC:Bool:=bif lv d then !rK d a b c else false
def gD:Bool:=allT [!(lv d&&true)||rL d a b c]
end
def sw:al6
 | [.one ⟨true,[.ref 0,.ref 1,.ref 2]⟩,.one ⟨false,[.ref 3]⟩],[.row false 2 (.int .i64) a,.row false 2 (.int .i64) b,.row false 70 (.pair .str (.pair (.sl 125 (.pair (.int .i64) (.pair (.int .i64) .bool))) (.sl 129 (.pair (.int .i64) (.int .i64))))) c,.row false 125 (.pair (.int .i64) (.pair (.int .i64) .bool)) d]=>some ⟨al8 (.val (.bool (gC a b c d))),[ama a,ama b,amc c,amd d],[],[gD a b c d]⟩
 |_,_=>none
def cF:PF prog:=PF.ofG prog (T3z [rC]) [] aS 69 f69 func69 (fun c _=>LOk.nil c) sw (by
 intro _ _ _ h;unfold sw at h;split at h<;>cases h;kernel_rfl)
abbrev bf:=Int×Int×List (Int×Int)×al5×List Int×List Int×List (al5×((List (Int×(Int×Bool)))×(List (Int×Int))))×List (Int×(Int×Bool))
section
variable (a b:Int)(c:al3)(d:al4)
def bx:Int×Int:=z8 c[z6 a]? ((0:Int),(0:Int))
def di:Bool:= !cO ((bx a c).1) ((bx a c).2) d
def cp:Bool:= !(ltI 0 a&&(!di a c d&&true))
def bz:Int:=j6 .i64 (a - (1:Int))
def fU:Bool:=ltI a b
def fW:Bool:=leI 0 a
def fX:Bool:=ltI a (↑c.length:Int)
def fY:Bool:=ltN a.toNat c.length
def fZ:Bool:=cP ((bx a c).1) d
def gc:Bool:=cp a c d||leI 0 (bz a)
def ge:Bool:=cp a c d||ltI (bz a) (↑c.length:Int)
def gf:Bool:=cp a c d||ltN (z6 (bz a)) c.length
def gg:Bool:=bif di a c d then true else bif ltI 0 a then leI ((bx a c).1) ((z8 c[z6 (bz a)]? ((0:Int),(0:Int))).1)else false
def gh:Int:=j6 .i64 (a + (1:Int))
end
def AF:bf→List (Nat×SV)
 |(a,b,_,_,_,_,_,_)=> [(10,(al9 a)),(9,(al9 b)),(8,(al8 (.ref 0))),(2,(al8 (.ptr 1 0))),(3,(al8 (.ptr 2 0)))]
def AE:bf→List (Nat×Entry)
 |(_,_,a,b,c,d,e,f)=> [(0,(amn a)),(1,(.box 94 [.ref 3,.ref 4,.ref 5])),(2,(.box 70 [.val (.string b),.ref 6,.ref 0])),(3,(ama c)),(4,(ama d)),(5,(amc e)),(6,(amd f))]
def AH:Nat→bf→List (Nat×SV)
 |0,(_,_,_,_,_,_,_,_)=> [(4,(al8 (.val (.bool false))))]
 |_,_=>[]
def fH:bf→LT bf
 |(a,b,c,d,e,f,g,i)=> .ite (fU a b) (.need [fW a,fX a c,fY a c] (.need [fZ a c e,gc a c e,ge a c e,gf a c e] (.ite (gg a c e) (.ext 0 [(0,0),(1,1),(2,2),(3,3),(4,4),(5,5),(6,6)]) (.nrm ((gh a),b,c,d,e,f,g,i) [(0,0),(1,1),(2,2),(3,3),(4,4),(5,5),(6,6)])))) (.ext 1 [(0,0),(1,1),(2,2),(3,3),(4,4),(5,5),(6,6)])
def ll(s:St):Option bf:=do
 let some ⟨none,.one ⟨false,[.val (.int .i64 a)]⟩⟩:=s.look 10|none
 let some ⟨none,.one ⟨false,[.val (.int .i64 b)]⟩⟩:=s.look 9|none
 let some ⟨none,.one ⟨false,[.ref 4]⟩⟩:=s.look 8|none
 let some ⟨none,.one ⟨false,[.ptr 384 0]⟩⟩:=s.look 2|none
 let some ⟨none,.one ⟨false,[.ptr 448 0]⟩⟩:=s.look 3|none
 let some (.row false 129 (.pair (.int .i64) (.int .i64)) c):=s.ent 4|none
 let some (.box 94 [.ref 0,.ref 1,.ref 2]):=s.ent 384|none
 let some (.box 70 [.val (.string d),.ref 3,.ref 4]):=s.ent 448|none
 let some (.row false 2 (.int .i64) e):=s.ent 0|none
 let some (.row false 2 (.int .i64) f):=s.ent 1|none
 let some (.row false 70 (.pair .str (.pair (.sl 125 (.pair (.int .i64) (.pair (.int .i64) .bool))) (.sl 129 (.pair (.int .i64) (.int .i64))))) g):=s.ent 2|none
 let some (.row false 125 (.pair (.int .i64) (.pair (.int .i64) .bool)) i):=s.ent 3|none
 some (a,b,c,d,e,f,g,i)
def am:Lp bf where
 h:=⟨[11,12,13,14,6,5,15,16,17,18,19,20,21,22,23,24,25,26,27,28,29,30,31,32,33,34,35,36,37,4,38,10],[0,1,2,3,4,5,6],[],[]⟩
 JL:=AF
 JE:=AE
 XL:=AH
 XE:=fun _=>AE
 q:=fun j=>match j with | 0=> .ret | _=> .exit 0
 tags:= [0,1]
 lt:=fH
 fuel:=fun(a,b,c,d,e,f,g,i)=>a.natAbs + b.natAbs + c.length + d.size + e.length + f.length + g.length + i.length
 fix:=fun(_,b,c,d,e,f,g,i) (a,_,_,_,_,_,_,_)=>(a,b,c,d,e,f,g,i)
 σ:= [(0,4),(1,384),(2,448),(3,0),(4,1),(5,2),(6,3)]
 rd:=ll
theorem yY:LoopOk prog (fun k=>Nat.blt k Tryz.f92.ntmps) am.F (aI f92 0):=by
 refine Lp.ok (tbl:= (T3z [ae,Lj,cF])) (lf:= []) aS am (by kernel_rfl) (LOk.nil _) (fun _=>rfl) (fun j _=>by unfold am;match j with | 0=>rfl | _ + 1=>rfl) ?_ ?_ ?_ ?_ (fun _=>rfl) ?_
 ·intro _;kernel_rfl
 ·intro _;kernel_rfl
 ·intro s x h
  have h:ll s=some x:=h
  unfold ll at h
  repeat' split at h
  all_goals cases h
  constructor<;>repeat(first|refine aa ‹_› rfl ?_|refine ab rfl ‹_› rfl ?_|rfl)
 ·intro _;kernel_rfl
 ·intro _ _;exact(And.intro (And.intro trivial rfl) trivial)
section
variable (a:al5)(b c:al4)(d:aeT)(e:al0)(f:al3)
def mf:Int×Int×al3×al5×al4×al4×aeT×al0:=((0:Int),(↑f.length:Int),f,a,b,c,d,e)
def gV:Bool:=Nat.beq ((Lp.res am (mf a b c d e f)).1) 0
def ie:Bool:=bif gV a b c d e f then false else bif bif tP a then gC b c d e else false then leI (↑f.length:Int) 4 else false
def ig:Bool:=allT [Lp.fin am (mf a b c d e f),gV a b c d e f||xP a,gV a b c d e f||(!(tP a&&true)||gD b c d e)]
end
def te:al6
 | [.one ⟨true,[.ref 0,.ref 1,.ref 2]⟩,.one ⟨true,[.val (.string a),.ref 3,.ref 4]⟩],[.row false 2 (.int .i64) b,.row false 2 (.int .i64) c,.row false 70 (.pair .str (.pair (.sl 125 (.pair (.int .i64) (.pair (.int .i64) .bool))) (.sl 129 (.pair (.int .i64) (.int .i64))))) d,.row false 125 (.pair (.int .i64) (.pair (.int .i64) .bool)) e,.row false 129 (.pair (.int .i64) (.int .i64)) f]=>some ⟨al8 (.val (.bool (ie a b c d e f))),[ama b,ama c,amc d,amd e,amn f],[],[ig a b c d e f]⟩
 |_,_=>none
def mH:PF prog:=PF.ofG prog (T3z [ae,Lj,cF]) [am.F] aS 92 f92 func92 (LOk.fnT (l:= [aI f92 0]) (by kernel_rfl) (.cons yY (.nil _))) te (by
 intro _ _ _ h;unfold te at h;split at h<;>cases h;kernel_rfl)
def DZ(a:al5)(b:al0)(c:al3)(d e:al4)(f:aeT):Bool:= !ie a d e f b c
def Ea(a:al5)(b:al0)(c:al3)(d e:al4)(f:aeT):Bool:=allT [ig a d e f b c]
def Lt:al6
 | [.one ⟨true,[.val (.string a),.ref 0,.ref 1]⟩,.one ⟨false,[.ptr 2 0]⟩],[.row false 125 (.pair (.int .i64) (.pair (.int .i64) .bool)) b,.row false 129 (.pair (.int .i64) (.int .i64)) c,.box 94 [.ref 3,.ref 4,.ref 5],.row false 2 (.int .i64) d,.row false 2 (.int .i64) e,.row false 70 (.pair .str (.pair (.sl 125 (.pair (.int .i64) (.pair (.int .i64) .bool))) (.sl 129 (.pair (.int .i64) (.int .i64))))) f]=>some ⟨al8 (.val (.bool (DZ a b c d e f))),[amd b,amn c,.box 94 [.ref 3,.ref 4,.ref 5],ama d,ama e,amc f],[],[Ea a b c d e f]⟩
 |_,_=>none
def ry:PF prog:=PF.ofG prog (T3z [mH]) [] aS 91 f91 func91 (fun c _=>LOk.nil c) Lt (by
 intro _ _ _ h;unfold Lt at h;split at h<;>cases h;kernel_rfl)
abbrev cB:=Int×Int×List (al5×((List (Int×(Int×Bool)))×(List (Int×Int))))×List Int×List Int
section
variable (a b:Int)(c:aer)(d e:al4)
def gX:al5×al0×al3:=z8 c[z6 a]? (sW aa8)
def gY:al5:=(gX a c).1
def gZ:al0×al3:=(gX a c).2
def hO:al0:=(gZ a c).1
def hY:al3:=(gZ a c).2
def rQ:Bool:=ltI a b
def rR:Bool:=leI 0 a
def rS:Bool:=ltI a (↑c.length:Int)
def rT:Bool:=ltN a.toNat c.length
def mw:Bool:=Ea (gY a c) (hO a c) (hY a c) d e c
def my:Bool:=DZ (gY a c) (hO a c) (hY a c) d e c
def rU:Int:=j6 .i64 (a + (1:Int))
end
def GJ:cB→List (Nat×SV)
 |(a,b,_,_,_)=> [(8,(al9 a)),(7,(al9 b)),(1,(al8 (.clo 91 [0]))),(0,(al8 (.ref 1)))]
def GF:cB→List (Nat×Entry)
 |(_,_,a,b,c)=> [(0,(.box 94 [.ref 2,.ref 3,.ref 1])),(1,(amc a)),(2,(ama b)),(3,(ama c))]
def GU:Nat→cB→List (Nat×SV)
 |0,(a,_,_,_,_)=> [(4,(al9 a))]
 |_,_=>[]
def qR:cB→LT cB
 |(a,b,c,d,e)=> .ite (rQ a b) (.need [rR a,rS a c,rT a c,mw a c d e] (.ite (my a c d e) (.ext 0 [(0,0),(1,1),(2,2),(3,3)]) (.nrm ((rU a),b,c,d,e) [(0,0),(1,1),(2,2),(3,3)]))) (.ext 1 [(0,0),(1,1),(2,2),(3,3)])
def qT(s:St):Option cB:=do
 let some ⟨none,.one ⟨false,[.val (.int .i64 a)]⟩⟩:=s.look 8|none
 let some ⟨none,.one ⟨false,[.val (.int .i64 b)]⟩⟩:=s.look 7|none
 let some ⟨none,.one ⟨false,[.clo 91 [1]]⟩⟩:=s.look 1|none
 let some ⟨none,.one ⟨false,[.ref 0]⟩⟩:=s.look 0|none
 let some (.box 94 [.ref 2,.ref 3,.ref 0]):=s.ent 1|none
 let some (.row false 70 (.pair .str (.pair (.sl 125 (.pair (.int .i64) (.pair (.int .i64) .bool))) (.sl 129 (.pair (.int .i64) (.int .i64))))) c):=s.ent 0|none
 let some (.row false 2 (.int .i64) d):=s.ent 2|none
 let some (.row false 2 (.int .i64) e):=s.ent 3|none
 some (a,b,c,d,e)
def aN:Lp cB where
 h:=⟨[9,10,5,11,12,13,14,15,16,17,4,18,8],[0,1,2,3],[],[]⟩
 JL:=GJ
 JE:=GF
 XL:=GU
 XE:=fun _=>GF
 q:=fun j=>match j with | 0=> .ret | _=> .exit 0
 tags:= [0,1]
 lt:=qR
 fuel:=fun(a,b,c,d,e)=>a.natAbs + b.natAbs + c.length + d.length + e.length
 fix:=fun(_,b,c,d,e) (a,_,_,_,_)=>(a,b,c,d,e)
 σ:= [(0,1),(1,0),(2,2),(3,3)]
 rd:=qT
theorem FQ:LoopOk prog (fun k=>Nat.blt k Tryz.f108.ntmps) aN.F (aI f108 0):=by
 refine Lp.ok (tbl:= (T3z [ry])) (lf:= []) aS aN (by kernel_rfl) (LOk.nil _) (fun _=>rfl) (fun j _=>by unfold aN;match j with | 0=>rfl | _ + 1=>rfl) ?_ ?_ ?_ ?_ (fun _=>rfl) ?_
 ·intro _;kernel_rfl
 ·intro _;kernel_rfl
 ·intro s x h
  have h:qT s=some x:=h
  unfold qT at h
  repeat' split at h
  all_goals cases h
  constructor<;>repeat(first|refine aa ‹_› rfl ?_|refine ab rfl ‹_› rfl ?_|rfl)
 ·intro _;kernel_rfl
 ·intro _ _;exact(And.intro (And.intro trivial rfl) trivial)
section
variable (a:aeT)(b c:al4)
def nC:Int×Int×aeT×al4×al4:=((0:Int),(↑a.length:Int),a,b,c)
def tp:Int:=bif Nat.beq ((Lp.res aN (nC a b c)).1) 0 then ((Lp.res aN (nC a b c)).2).1else(-1:Int)
def tq:Bool:=allT [Lp.fin aN (nC a b c)]
end
def zg:al6
 | [.one ⟨false,[.ref 0]⟩,.one ⟨false,[.clo 91 [1]]⟩],[.row false 70 (.pair .str (.pair (.sl 125 (.pair (.int .i64) (.pair (.int .i64) .bool))) (.sl 129 (.pair (.int .i64) (.int .i64))))) a,.box 94 [.ref 2,.ref 3,.ref 0],.row false 2 (.int .i64) b,.row false 2 (.int .i64) c]=>some ⟨al9 (tp a b c),[amc a,.box 94 [.ref 2,.ref 3,.ref 0],ama b,ama c],[],[tq a b c]⟩
 |_,_=>none
def ti:PF prog:=PF.ofG prog (T3z [ry]) [aN.F] aS 108 f108 func108 (LOk.fnT (l:= [aI f108 0]) (by kernel_rfl) (.cons FQ (.nil _))) zg (by
 intro _ _ _ h;unfold zg at h;split at h<;>cases h;kernel_rfl)
def rI(a:aeT)(b c:al4):Bool:=leI 0 (tp a b c)
def rJ(a:aeT)(b c:al4):Bool:=allT [tq a b c]
def xI:al6
 | [.one ⟨false,[.ref 0]⟩,.one ⟨false,[.clo 91 [1]]⟩],[.row false 70 (.pair .str (.pair (.sl 125 (.pair (.int .i64) (.pair (.int .i64) .bool))) (.sl 129 (.pair (.int .i64) (.int .i64))))) a,.box 94 [.ref 2,.ref 3,.ref 0],.row false 2 (.int .i64) b,.row false 2 (.int .i64) c]=>some ⟨al8 (.val (.bool (rI a b c))),[amc a,.box 94 [.ref 2,.ref 3,.ref 0],ama b,ama c],[],[rJ a b c]⟩
 |_,_=>none
def rB:PF prog:=PF.ofG prog (T3z [ti]) [] aS 90 f90 func90 (fun c _=>LOk.nil c) xI (by
 intro _ _ _ h;unfold xI at h;split at h<;>cases h;kernel_rfl)
section
variable (a b:al4)(c:aeT)
def Fg:Bool:= !bg (aL a) 1 16
def Oi:Bool:=bif mg a b c then leI (↑c.length:Int) 200 else false
def xg:Bool:=bif bif Fg a then true else gM a then false else bif Oi a b c then !rI c a b else false
def He:Bool:=allT [!(!Fg a&&true)||qg a,(bif Fg a then true else gM a)||mh a b c,(bif Fg a then true else gM a)||(!(Oi a b c&&true)||rJ c a b)]
end
def Ur:al6
 | [.one ⟨true,[.ref 0,.ref 1,.ref 2]⟩],[.row false 2 (.int .i64) a,.row false 2 (.int .i64) b,.row false 70 (.pair (.str) (.pair (.sl 125 (.pair (.int .i64) (.pair (.int .i64) (.bool)))) (.sl 129 (.pair (.int .i64) (.int .i64))))) c]=>some ⟨al8 (.val (.bool (xg a b c))),[ama a,ama b,aml c],[],[He a b c]⟩
 |_,_=>none
def Pv:PF prog:=PF.ofG prog (T3z [oQ,af,aaq,pO,qf,mj,rB]) [] aS 68 f68 func68 (fun c _=>LOk.nil c) Ur (by
 intro _ _ _ h;unfold Ur at h;split at h<;>cases h;kernel_rfl)
def Bq(a b:Int)(c:Bool)(d:al4):Bool:= !(z8 d[z6 a]? 0==b)==c
def Br(a:Int)(b:al4):Bool:=allT [leI 0 a,ltI a (↑b.length:Int),ltN a.toNat b.length]
def Nx:al6
 | [.one ⟨true,[.val (.int .i64 a),.val (.int .i64 b),.val (.bool c)]⟩,.one ⟨false,[.ptr 0 0]⟩],[.box 24 [.ref 1],.row false 2 (.int .i64) d]=>some ⟨al8 (.val (.bool (Bq a b c d))),[.box 24 [.ref 1],ama d],[],[Br a d]⟩
 |_,_=>none
def tX:PF prog:=PF.ofG prog [] [] aS 127 f127 func127 (fun c _=>LOk.nil c) Nx (by
 intro _ _ _ h;unfold Nx at h;split at h<;>cases h;kernel_rfl)
abbrev cD:=Int×Int×List (Int×(Int×Bool))×List Int
section
variable (a b:Int)(c:agb)(d:al4)
def cu:Int×Int×Bool:=z8 c[z6 a]? ((0:Int),(0:Int),false)
def iv:Bool:=ltI a b
def iw:Bool:=leI 0 a
def iy:Bool:=ltI a (↑c.length:Int)
def iz:Bool:=ltN a.toNat c.length
def iA:Bool:=Br ((cu a c).1) d
def iB:Bool:=Bq ((cu a c).1) (((cu a c).2).1) ((cu a c).2.2) d
def iC:Int:=j6 .i64 (a + (1:Int))
end
def GL:cD→List (Nat×SV)
 |(a,b,_,_)=> [(8,(al9 a)),(7,(al9 b)),(1,(al8 (.clo 127 [0]))),(0,(al8 (.ref 1)))]
def GH:cD→List (Nat×Entry)
 |(_,_,a,b)=> [(0,(.box 24 [.ref 2])),(1,(amd a)),(2,(ama b))]
def GX:Nat→cD→List (Nat×SV)
 |0,(a,_,_,_)=> [(4,(al9 a))]
 |_,_=>[]
def gW:cD→LT cD
 |(a,b,c,d)=> .ite (iv a b) (.need [iw a,iy a c,iz a c,iA a c d] (.ite (iB a c d) (.ext 0 [(0,0),(1,1),(2,2)]) (.nrm ((iC a),b,c,d) [(0,0),(1,1),(2,2)]))) (.ext 1 [(0,0),(1,1),(2,2)])
def qV(s:St):Option cD:=do
 let some ⟨none,.one ⟨false,[.val (.int .i64 a)]⟩⟩:=s.look 8|none
 let some ⟨none,.one ⟨false,[.val (.int .i64 b)]⟩⟩:=s.look 7|none
 let some ⟨none,.one ⟨false,[.clo 127 [1]]⟩⟩:=s.look 1|none
 let some ⟨none,.one ⟨false,[.ref 0]⟩⟩:=s.look 0|none
 let some (.box 24 [.ref 2]):=s.ent 1|none
 let some (.row false 125 (.pair (.int .i64) (.pair (.int .i64) .bool)) c):=s.ent 0|none
 let some (.row false 2 (.int .i64) d):=s.ent 2|none
 some (a,b,c,d)
def ap:Lp cD where
 h:=⟨[9,10,5,11,12,13,14,15,16,17,4,18,8],[0,1,2],[],[]⟩
 JL:=GL
 JE:=GH
 XL:=GX
 XE:=fun _=>GH
 q:=fun j=>match j with | 0=> .ret | _=> .exit 0
 tags:= [0,1]
 lt:=gW
 fuel:=fun(a,b,c,d)=>a.natAbs + b.natAbs + c.length + d.length
 fix:=fun(_,b,c,d) (a,_,_,_)=>(a,b,c,d)
 σ:= [(0,1),(1,0),(2,2)]
 rd:=qV
theorem FS:LoopOk prog (fun k=>Nat.blt k Tryz.f110.ntmps) ap.F (aI f110 0):=by
 refine Lp.ok (tbl:= (T3z [tX])) (lf:= []) aS ap (by kernel_rfl) (LOk.nil _) (fun _=>rfl) (fun j _=>by unfold ap;match j with | 0=>rfl | _ + 1=>rfl) ?_ ?_ ?_ ?_ (fun _=>rfl) ?_
 ·intro _;kernel_rfl
 ·intro _;kernel_rfl
 ·intro s x h
  have h:qV s=some x:=h
  unfold qV at h
  repeat' split at h
  all_goals cases h
  constructor<;>repeat(first|refine aa ‹_› rfl ?_|refine ab rfl ‹_› rfl ?_|rfl)
 ·intro _;kernel_rfl
 ·intro _ _;exact(And.intro (And.intro trivial rfl) trivial)
section
variable (a:al0)(b:al4)
def nE:Int×Int×al0×al4:=((0:Int),(↑a.length:Int),a,b)
def tv:Int:=bif Nat.beq ((Lp.res ap (nE a b)).1) 0 then ((Lp.res ap (nE a b)).2).1else(-1:Int)
def tw:Bool:=allT [Lp.fin ap (nE a b)]
end
def zi:al6
 | [.one ⟨false,[.ref 0]⟩,.one ⟨false,[.clo 127 [1]]⟩],[.row false 125 (.pair (.int .i64) (.pair (.int .i64) .bool)) a,.box 24 [.ref 2],.row false 2 (.int .i64) b]=>some ⟨al9 (tv a b),[amd a,.box 24 [.ref 2],ama b],[],[tw a b]⟩
 |_,_=>none
def tm:PF prog:=PF.ofG prog (T3z [tX]) [ap.F] aS 110 f110 func110 (LOk.fnT (l:= [aI f110 0]) (by kernel_rfl) (.cons FS (.nil _))) zi (by
 intro _ _ _ h;unfold zi at h;split at h<;>cases h;kernel_rfl)
def rM(a:al0)(b:al4):Bool:=leI 0 (tv a b)
def rN(a:al0)(b:al4):Bool:=allT [tw a b]
def xK:al6
 | [.one ⟨false,[.ref 0]⟩,.one ⟨false,[.clo 127 [1]]⟩],[.row false 125 (.pair (.int .i64) (.pair (.int .i64) .bool)) a,.box 24 [.ref 2],.row false 2 (.int .i64) b]=>some ⟨al8 (.val (.bool (rM a b))),[amd a,.box 24 [.ref 2],ama b],[],[rN a b]⟩
 |_,_=>none
def rD:PF prog:=PF.ofG prog (T3z [tm]) [] aS 93 f93 func93 (fun c _=>LOk.nil c) xK (by
 intro _ _ _ h;unfold xK at h;split at h<;>cases h;kernel_rfl)
def HH(a:al4)(b:al0):Bool:= !rM b a
def OP(a:al4)(b:al0):Bool:=allT [rN b a]
def YF:al6
 | [.one ⟨false,[.ref 0]⟩,.one ⟨false,[.ref 1]⟩],[.row false 2 (.int .i64) a,.row false 125 (.pair (.int .i64) (.pair (.int .i64) (.bool))) b]=>some ⟨al8 (.val (.bool (HH a b))),[ama a,amd b],[],[OP a b]⟩
 |_,_=>none
def HO:PF prog:=PF.ofG prog (T3z [rD]) [] aS 111 f111 func111 (fun c _=>LOk.nil c) YF (by
 intro _ _ _ h;unfold YF at h;split at h<;>cases h;kernel_rfl)
abbrev bW:=Int×Int×List (Int×Int)×List Int
section
variable (a b:Int)(c:al3)(d:al4)
def cH:Int×Int:=z8 c[z6 a]? ((0:Int),(0:Int))
def pb:Bool:=ltI a b
def pc:Bool:=leI 0 a
def pe:Bool:=ltI a (↑c.length:Int)
def pf:Bool:=ltN a.toNat c.length
def pg:Bool:=leI 0 ((cH a c).1)
def ph:Bool:=ltI ((cH a c).1) (↑d.length:Int)
def pj:Bool:=ltN (z6 ((cH a c).1)) d.length
def pk:Int:=j6 .i64 (a + (1:Int))
def pm:al4:=List.set d (z6 ((cH a c).1)) ((cH a c).2)
end
def EH:bW→List (Nat×SV)
 |(a,b,_,_)=> [(13,(al9 a)),(12,(al9 b)),(11,(al8 (.ref 0))),(5,(al8 (.ref 1)))]
def EA:bW→List (Nat×Entry)
 |(_,_,a,b)=> [(0,(amn a)),(1,(amb b))]
def EV:Nat→bW→List (Nat×SV)
 |_,_=>[]
def ov:bW→LT bW
 |(a,b,c,d)=> .ite (pb a b) (.need [pc a,pe a c,pf a c] (.need [pg a c,ph a c d,pj a c d] (.nrm ((pk a),b,c,(pm a c d)) [(0,0),(1,1)]))) (.ext 0 [(0,0),(1,1)])
def oE(s:St):Option bW:=do
 let some ⟨none,.one ⟨false,[.val (.int .i64 a)]⟩⟩:=s.look 13|none
 let some ⟨none,.one ⟨false,[.val (.int .i64 b)]⟩⟩:=s.look 12|none
 let some ⟨none,.one ⟨false,[.ref 1]⟩⟩:=s.look 11|none
 let some ⟨none,.one ⟨false,[.ref 448]⟩⟩:=s.look 5|none
 let some (.row false 129 (.pair (.int .i64) (.int .i64)) c):=s.ent 1|none
 let some (.row true 2 (.int .i64) d):=s.ent 448|none
 some (a,b,c,d)
def bQ:Lp bW where
 h:=⟨[14,15,16,7,17,18,19,20,21,22,23,13],[0,1],[],[]⟩
 JL:=EH
 JE:=EA
 XL:=EV
 XE:=fun _=>EA
 q:=fun j=>match j with | _=> .exit 0
 tags:= [0]
 lt:=ov
 fuel:=fun(a,b,c,d)=>a.natAbs + b.natAbs + c.length + d.length
 fix:=fun(_,b,c,_) (a,_,_,d)=>(a,b,c,d)
 σ:= [(0,1),(1,448)]
 rd:=oE
theorem DO:LoopOk prog (fun k=>Nat.blt k Tryz.f98.ntmps) bQ.F (aI f98 0):=by
 refine Lp.ok (tbl:= (T3z [ac])) (lf:= []) aS bQ (by kernel_rfl) (LOk.nil _) (fun _=>rfl) (fun _ _=>rfl) ?_ ?_ ?_ ?_ (fun _=>rfl) ?_
 ·intro _;kernel_rfl
 ·intro _;kernel_rfl
 ·intro s x h
  have h:oE s=some x:=h
  unfold oE at h
  repeat' split at h
  all_goals cases h
  constructor<;>repeat(first|refine aa ‹_› rfl ?_|refine ab rfl ‹_› rfl ?_|rfl)
 ·intro _;kernel_rfl
 ·intro _ _;exact(And.intro rfl trivial)
section
variable (a:al3)(b:al4)
def qH:Int×Int×al3×al4:=((0:Int),(↑a.length:Int),a,b)
def im:al4:=(Lp.res bQ (qH a b)).2.2.2.2
def io:Bool:=allT [leN 1 b.length&&leN b.length (1048576:Nat),Lp.fin bQ (qH a b)]
end
def xF:al6
 | [.one ⟨true,[.val (.string _x0),.ref 0,.ref 1]⟩,.one ⟨false,[.ref 2]⟩],[.row false 125 (.pair (.int .i64) (.pair (.int .i64) (.bool))) a,.row false 129 (.pair (.int .i64) (.int .i64)) b,.row false 2 (.int .i64) c]=>some ⟨al8 (.ref 3),[amd a,amn b,ama c],[amb (im b c)],[io b c]⟩
 |_,_=>none
def bS:PF prog:=PF.ofG prog (T3z [ac]) [bQ.F] aS 98 f98 func98 (LOk.fnT (l:= [aI f98 0]) (by kernel_rfl) (.cons DO (.nil _))) xF (by
 intro _ _ _ h;unfold xF at h;split at h<;>cases h;kernel_rfl)
section
variable (a b:al4)
def dP:al4:=List.drop (z6 0) (List.take (z6 (↑a.length:Int)) b)
def eo:al4:=dP a b
def ng:Bool:=allT [leI 0 (↑a.length:Int),leI (↑a.length:Int) (↑b.length:Int),leN 1 (z7 (dP a b))&&leN (z7 (dP a b)) 1048576]
end
def tL:al6
 | [.one ⟨true,[.val (.int .i64 a),.ref 0]⟩,.one ⟨false,[.ref 1]⟩],[.row false 2 (.int .i64) b,.row false 2 (.int .i64) c]=>some ⟨.one ⟨true,[al7 a,.ref 2]⟩,[ama b,ama c],[amb (eo b c)],[ng b c]⟩
 |_,_=>none
def nj:PF prog:=PF.ofG prog (T3z [ac]) [] aS 48 f48 func48 (fun c _=>LOk.nil c) tL (by
 intro _ _ _ h;unfold tL at h;split at h<;>cases h;kernel_rfl)
def xY(a b:Int)(c:al4):Int:=bif !isT a c then(1:Int)else bif !bg b 0 2 then(2:Int)else(0:Int)
def TB:al6
 | [.one ⟨true,[.val (.int .i64 a),.ref 0]⟩,.one ⟨false,[.val (.int .i64 b)]⟩],[.row false 2 (.int .i64) c]=>some ⟨al9 (xY a b c),[ama c],[],[]⟩
 |_,_=>none
def sY:PF prog:=PF.ofG prog (T3z [oQ,zb]) [] aS 27 f27 func27 (fun c _=>LOk.nil c) TB (by
 intro _ _ _ h;unfold TB at h;split at h<;>cases h;kernel_rfl)
def uj(a:aeq):Int:=(↑a.length:Int)
def Gc:al6
 | [.one ⟨false,[.ref 0]⟩],[.row false 72 (.pair (.pair (.str) (.pair (.sl 125 (.pair (.int .i64) (.pair (.int .i64) (.bool)))) (.sl 129 (.pair (.int .i64) (.int .i64))))) (.pair (.int .i64) (.pair (.int .i64) (.int .i64)))) a]=>some ⟨al9 (uj a),[.row false 72 (CTy.pair (CTy.pair CTy.str (CTy.pair (CTy.sl (125:TypeId) adp) (CTy.sl (129:TypeId) aes))) aba) a],[],[]⟩
 |_,_=>none
def mv:PF prog:=PF.ofG prog [] [] aS 30 f30 func30 (fun c _=>LOk.nil c) Gc (by
 intro _ _ _ h;unfold Gc at h;split at h<;>cases h;kernel_rfl)
abbrev kJ:=Int×Int×List Int×List ((al5×((List (Int×(Int×Bool)))×(List (Int×Int))))×(Int×(Int×Int)))×List (Int×(Int×Int))
def cL(a:Int)(b:al4):Int:=z8 b[z6 a]? 0
def dg(a:Int)(b:al4)(c:List ((al5×((agb)×(al3)))×(Int×(Int×Int)))):Int×Int×Int:=(z8 c[z6 (cL a b)]? (sW aa7)).2
def fa(a:Int)(b:al4)(c:List ((al5×((agb)×(al3)))×(Int×(Int×Int)))):al1:= [(jS ((dg a b c).1),jT ((dg a b c).1) (((dg a b c).2).1),jU ((dg a b c).1))]
section
variable (a b:Int)(c:al4)
def kM:Bool:=ltI a b
def mW:Bool:=leI 0 a
def mX:Bool:=ltI a (↑c.length:Int)
def mY:Bool:=ltN a.toNat c.length
end
def kN(a:Int)(b:al4)(c:List ((al5×((agb)×(al3)))×(Int×(Int×Int)))):Bool:= !bg (cL a b) 0 (j6 .i64 (uj c - (1:Int)))
def mZ(a:Int)(b:al4):Bool:=leI 0 (cL a b)
def na(a:Int)(b:al4)(c:List ((al5×((agb)×(al3)))×(Int×(Int×Int)))):Bool:=ltI (cL a b) (↑c.length:Int)
def nb(a:Int)(b:al4)(c:List ((al5×((agb)×(al3)))×(Int×(Int×Int)))):Bool:=ltN (z6 (cL a b)) c.length
def nc(a:Int)(b:al4)(c:List ((al5×((agb)×(al3)))×(Int×(Int×Int))))(d:ag5):Bool:=leN (z7 d + z7 (fa a b c)) 9223372036854775807
def ne(a:Int)(b:al4)(c:List ((al5×((agb)×(al3)))×(Int×(Int×Int))))(d:ag5):Bool:=leN ((z7 d + z7 (fa a b c)) * 24) 140737488355328
def lU(a:Int):Int:=j6 .i64 (a + (1:Int))
def jE(a:Int)(b:al4)(c:List ((al5×((agb)×(al3)))×(Int×(Int×Int))))(d:ag5):ag5:=d++fa a b c
def Ri:kJ→List (Nat×SV)
 |(a,b,_,_,_)=> [(31,(al9 a)),(30,(al9 b)),(29,(al8 (.ref 0))),(11,(al8 (.ref 1))),(12,(al8 (.ref 2)))]
def Rf:kJ→List (Nat×Entry)
 |(_,_,a,b,c)=> [(0,(ama a)),(1,(amg b)),(2,(amj c))]
def Rq:Nat→kJ→List (Nat×SV)
 |0,(_,_,_,_,_)=> [(8,(al8 (.ref 3))),(9,(al9 4))]
 |_,(_,_,_,_,_)=> [(12,(al8 (.ref 2)))]
def Rm:Nat→kJ→List (Nat×Entry)
 |0,(_,_,a,b,c)=> [(0,(ama a)),(1,(amg b)),(2,(amj c)),(3,(amj []))]
 |_,(_,_,a,b,c)=> [(0,(ama a)),(1,(amg b)),(2,(amj c))]
def jH:kJ→LT kJ
 |(a,b,c,d,e)=> .ite (kM a b) (.need [mW a,mX a c,mY a c] (.ite (kN a c d) (.ext 0 [(0,0),(1,1),(2,2),(3,704)]) (.need [mZ a c,na a c d,nb a c d,nc a c d e,ne a c d e] (.nrm ((lU a),b,c,d,(jE a c d e)) [(0,0),(1,1),(2,1152)])))) (.ext 1 [(0,0),(1,1),(2,2)])
def Cf(s:St):Option kJ:=do
 let some ⟨none,.one ⟨false,[.val (.int .i64 a)]⟩⟩:=s.look 31|none
 let some ⟨none,.one ⟨false,[.val (.int .i64 b)]⟩⟩:=s.look 30|none
 let some ⟨none,.one ⟨false,[.ref 1]⟩⟩:=s.look 29|none
 let some ⟨none,.one ⟨false,[.ref 1216]⟩⟩:=s.look 11|none
 let some ⟨none,.one ⟨false,[.ref 1344]⟩⟩:=s.look 12|none
 let some (.row false 2 (.int .i64) c):=s.ent 1|none
 let some (.row true 72 (.pair (.pair .str (.pair (.sl 125 (.pair (.int .i64) (.pair (.int .i64) .bool))) (.sl 129 (.pair (.int .i64) (.int .i64))))) (.pair (.int .i64) (.pair (.int .i64) (.int .i64)))) d):=s.ent 1216|none
 let some (.row true 42 (.pair (.int .i64) (.pair (.int .i64) (.int .i64))) e):=s.ent 1344|none
 some (a,b,c,d,e)
def bd:Lp kJ where
 h:=⟨[32,33,34,14,35,36,37,38,39,40,8,9,41,42,43,44,45,46,47,48,12,49,31],[0,1],[2],[3]⟩
 JL:=Ri
 JE:=Rf
 XL:=Rq
 XE:=Rm
 q:=fun j=>match j with | 0=> .ret | _=> .exit 0
 tags:= [0,1]
 lt:=jH
 fuel:=fun(a,b,c,d,e)=>a.natAbs + b.natAbs + c.length + d.length + e.length
 fix:=fun(_,b,c,d,_) (a,_,_,_,e)=>(a,b,c,d,e)
 σ:= [(0,1),(1,1216),(2,1344)]
 rd:=Cf
theorem Pn:LoopOk prog (fun k=>Nat.blt k Tryz.f13.ntmps) bd.F (aI f13 0):=by
 refine Lp.ok (tbl:= (T3z [sY,ai,oQ,mv,dy])) (lf:= []) aS bd (by kernel_rfl) (LOk.nil _) (fun _=>rfl) (fun j _=>by unfold bd;match j with | 0=>rfl | _ + 1=>rfl) ?_ ?_ ?_ ?_ (fun _=>rfl) ?_
 ·intro _;kernel_rfl
 ·intro _;kernel_rfl
 ·intro s x h
  have h:Cf s=some x:=h
  unfold Cf at h
  repeat' split at h
  all_goals cases h
  constructor<;>repeat(first|refine aa ‹_› rfl ?_|refine ab rfl ‹_› rfl ?_|rfl)
 ·intro _;kernel_rfl
 ·intro _ _;exact(And.intro (And.intro trivial rfl) trivial)
section
variable (a b:Int)(c:Bool)(d e:al4)
def wi:Bool:=xY a b d !=0
def Aw:Int×Int×al4×aeq×al1:=((0:Int),(↑e.length:Int),e,List.map (rrK d.length a) (kL d.length a.toNat b.toNat c),[])
def FH:Bool:=Nat.beq ((Lp.res bd (Aw a b c d e)).1) 0
def Hb:Int:=bif wi a b d then xY a b d else bif ltI 200 (↑e.length:Int)then(3:Int)else bif FH a b c d e then(4:Int)else(0:Int)
def Hc:ag5:=bif wi a b d then []else bif ltI 200 (↑e.length:Int)then []else bif FH a b c d e then []else (Lp.res bd (Aw a b c d e)).2.2.2.2.2
def Hd:Bool:=allT [wi a b d||(ltI 200 (↑e.length:Int)||isR a b d),wi a b d||(ltI 200 (↑e.length:Int)||Lp.fin bd (Aw a b c d e))]
end
def Nv:al6
 | [.one ⟨true,[.val (.int .i64 a),.ref 0]⟩,.one ⟨false,[.val (.int .i64 b)]⟩,.one ⟨false,[.val (.bool c)]⟩,.one ⟨false,[.ref 1]⟩],[.row false 2 (.int .i64) d,.row false 2 (.int .i64) e]=>some ⟨.tup [⟨false,[.ref 2]⟩,⟨false,[al7 (Hb a b c d e)]⟩],[ama d,ama e],[amj (Hc a b c d e)],[Hd a b c d e]⟩
 |_,_=>none
def VC:PF prog:=PF.ofG prog (T3z [sY,ai,oQ,mv,dy]) [bd.F] aS 13 f13 func13 (LOk.fnT (l:= [aI f13 0]) (by kernel_rfl) (.cons Pn (.nil _))) Nv (by
 intro _ _ _ h;unfold Nv at h;split at h<;>cases h;kernel_rfl)
abbrev kK:=Int×List Int×List (Int×(Int×Int))×List (Int×(Int×Int))
section
variable (a:Int)(b:al4)(c d:ag5)
def dh:Int:=z8 b[z6 a]? 0
def co:Int×Int×Int:=z8 c[z6 (dh a b)]? ((0:Int),(0:Int),(0:Int))
def fb:Bool:=(co a b c).1==4
def fc:Bool:=(co a b c).1==5
def fe:Bool:=(co a b c).1==6
def ff:al1:= [(bif fb a b c then(1:Int)else bif fc a b c then(1:Int)else bif fe a b c then(1:Int)else(0:Int),bif fb a b c then ((co a b c).2).1else bif fc a b c then ((co a b c).2).1else bif fe a b c then ((co a b c).2).1else ((co a b c).2).1,bif fb a b c then(1:Int)else bif fc a b c then(2:Int)else bif fe a b c then(3:Int)else(0:Int))]
def fT:Bool:=ltI a (↑b.length:Int)
def iD:Bool:=leI 0 a
def iE:Bool:=ltN a.toNat b.length
def kO:Bool:= !gk (dh a b) 0 (j6 .i64 ((↑c.length:Int) - (1:Int)))
def kP:Bool:=leI 0 (dh a b)
def kQ:Bool:=ltI (dh a b) (↑c.length:Int)
def kR:Bool:=ltN (z6 (dh a b)) c.length
def kS:Bool:=leN (z7 d + z7 (ff a b c)) 9223372036854775807
def kT:Bool:=leN ((z7 d + z7 (ff a b c)) * 24) 140737488355328
def kU:Int:=j6 .i64 (a + (1:Int))
def jK:ag5:=d++ff a b c
end
def Rj:kK→List (Nat×SV)
 |(a,_,_,_)=> [(13,(al9 a)),(3,(al8 (.ref 0))),(11,(al8 (.ref 1))),(12,(al8 (.ref 2)))]
def Rg:kK→List (Nat×Entry)
 |(_,a,b,c)=> [(0,(ama a)),(1,(amh b)),(2,(amj c))]
def Rr:Nat→kK→List (Nat×SV)
 |0,(_,_,_,_)=> [(8,(al8 (.ref 3))),(9,(al9 4))]
 |_,(_,_,_,_)=> [(12,(al8 (.ref 2)))]
def Rn:Nat→kK→List (Nat×Entry)
 |0,(_,a,b,c)=> [(0,(ama a)),(1,(amh b)),(2,(amj c)),(3,(amj []))]
 |_,(_,a,b,c)=> [(0,(ama a)),(1,(amh b)),(2,(amj c))]
def jI:kK→LT kK
 |(a,b,c,d)=> .ite (fT a b) (.need [iD a,fT a b,iE a b] (.ite (kO a b c) (.ext 0 [(0,0),(1,1),(2,2),(3,896)]) (.need [iD a,fT a b,iE a b,kP a b,kQ a b c,kR a b c] (.need [kS a b c d,kT a b c d] (.nrm ((kU a),b,c,(jK a b c d)) [(0,0),(1,1),(2,2752)]))))) (.ext 1 [(0,0),(1,1),(2,2)])
def Cg(s:St):Option kK:=do
 let some ⟨none,.one ⟨false,[.val (.int .i64 a)]⟩⟩:=s.look 13|none
 let some ⟨none,.one ⟨false,[.ref 1]⟩⟩:=s.look 3|none
 let some ⟨none,.one ⟨false,[.ref 1280]⟩⟩:=s.look 11|none
 let some ⟨none,.one ⟨false,[.ref 1408]⟩⟩:=s.look 12|none
 let some (.row false 2 (.int .i64) b):=s.ent 1|none
 let some (.row true 85 (.pair (.int .i64) (.pair (.int .i64) (.int .i64))) c):=s.ent 1280|none
 let some (.row true 42 (.pair (.int .i64) (.pair (.int .i64) (.int .i64))) d):=s.ent 1408|none
 some (a,b,c,d)
def be:Lp kK where
 h:=⟨[32,33,34,35,38,39,40,41,42,43,44,45,46,8,9,47,48,49,50,51,52,53,14,54,55,56,15,57,58,60,59,61,62,63,65,64,66,67,68,70,69,71,72,73,74,75,76,77,12,36,37,13],[0,1],[2],[3]⟩
 JL:=Rj
 JE:=Rg
 XL:=Rr
 XE:=Rn
 q:=fun j=>match j with | 0=> .ret | _=> .exit 1
 tags:= [0,1]
 lt:=jI
 fuel:=fun(a,b,c,d)=>a.natAbs + b.length + c.length + d.length
 fix:=fun(_,b,c,_) (a,_,_,d)=>(a,b,c,d)
 σ:= [(0,1),(1,1280),(2,1408)]
 rd:=Cg
theorem Po:LoopOk prog (fun k=>Nat.blt k Tryz.f15.ntmps) be.F (aI f15 0):=by
 refine Lp.ok (tbl:= (T3z [zT,eB,LX])) (lf:= []) aS be (by kernel_rfl) (LOk.nil _) (fun _=>rfl) (fun j _=>by unfold be;match j with | 0=>rfl | _ + 1=>rfl) ?_ ?_ ?_ ?_ (fun _=>rfl) ?_
 ·intro _;kernel_rfl
 ·intro _;kernel_rfl
 ·intro s x h
  have h:Cg s=some x:=h
  unfold Cg at h
  repeat' split at h
  all_goals cases h
  constructor<;>repeat(first|refine aa ‹_› rfl ?_|refine ab rfl ‹_› rfl ?_|rfl)
 ·intro _;kernel_rfl
 ·intro _ _;exact(And.intro (And.intro trivial rfl) trivial)
section
variable (a b:Int)(c:Bool)(d e:al4)
def wm:Bool:=rf a b d !=0
def AC:Int×al4×al1×al1:=((0:Int),e,kL d.length a.toNat b.toNat c,[])
def FZ:Bool:=Nat.beq ((Lp.res be (AC a b c d e)).1) 0
def Ht:Int:=bif wm a b d then rf a b d else bif ltI 200 (↑e.length:Int)then(3:Int)else bif FZ a b c d e then(4:Int)else(0:Int)
def Hu:ag5:=bif wm a b d then []else bif ltI 200 (↑e.length:Int)then []else bif FZ a b c d e then []else (Lp.res be (AC a b c d e)).2.2.2.2
def Hv:Bool:=allT [wm a b d||(ltI 200 (↑e.length:Int)||isR a b d),wm a b d||(ltI 200 (↑e.length:Int)||Lp.fin be (AC a b c d e))]
end
def Ny:al6
 | [.one ⟨true,[.val (.int .i64 a),.ref 0]⟩,.one ⟨false,[.val (.int .i64 b)]⟩,.one ⟨false,[.val (.bool c)]⟩,.one ⟨false,[.ref 1]⟩],[.row false 2 (.int .i64) d,.row false 2 (.int .i64) e]=>some ⟨.tup [⟨false,[.ref 2]⟩,⟨false,[al7 (Ht a b c d e)]⟩],[ama d,ama e],[amj (Hu a b c d e)],[Hv a b c d e]⟩
 |_,_=>none
def VD:PF prog:=PF.ofG prog (T3z [zT,eB,LX]) [be.F] aS 15 f15 func15 (LOk.fnT (l:= [aI f15 0]) (by kernel_rfl) (.cons Po (.nil _))) Ny (by
 intro _ _ _ h;unfold Ny at h;split at h<;>cases h;kernel_rfl)
abbrev bX:=Int×Int×Int×Int×Bool×List Int×List Int×List (al5×((List (Int×(Int×Bool)))×(List (Int×Int))))×List Int
section
variable (a b c:Int)(d:al4)
def fK:al4:= [j6 .i64 ((3:Int) * c)]
def pn:Bool:=ltI a b
def po:Bool:=leN (z7 d + z7 (fK c)) 9223372036854775807
def pp:Bool:=leN ((z7 d + z7 (fK c)) * 8) 140737488355328
def pq:Int:=j6 .i64 (a + (1:Int))
def pt:al4:=d++fK c
end
def EI:bX→List (Nat×SV)
 |(a,b,_,_,_,_,_,_,_)=> [(15,(al9 a)),(14,(al9 b)),(3,(al8 (.ptr 0 0))),(1,(al8 (.ptr 1 0)))]
def EB:bX→List (Nat×Entry)
 |(_,_,a,b,c,d,e,f,g)=> [(0,(.box 94 [.ref 2,.ref 3,.ref 4])),(1,(.box 63 [al7 a,.ref 5,al7 b,.val (.bool c)])),(3,(amb e)),(4,(amm f)),(5,(ama g)),(2,(amb d))]
def EW:Nat→bX→List (Nat×SV)
 |_,_=>[]
def EP:Nat→bX→List (Nat×Entry)
 |_,(_,_,a,b,c,d,e,f,g)=> [(0,(.box 94 [.ref 2,.ref 3,.ref 4])),(1,(.box 63 [al7 a,.ref 5,al7 b,.val (.bool c)])),(2,(amb d)),(3,(amb e)),(4,(amm f)),(5,(ama g))]
def ow:bX→LT bX
 |(a,b,c,d,e,f,g,i,j)=> .ite (pn a b) (.need [po c f,pp c f] (.nrm ((pq a),b,c,d,e,pt c f,g,i,j) [(0,0),(1,1),(2,576),(3,3),(4,4),(5,5)])) (.ext 0 [(0,0),(1,1),(2,2),(3,3),(4,4),(5,5)])
def oF(s:St):Option bX:=do
 let some ⟨none,.one ⟨false,[.val (.int .i64 a)]⟩⟩:=s.look 15|none
 let some ⟨none,.one ⟨false,[.val (.int .i64 b)]⟩⟩:=s.look 14|none
 let some ⟨none,.one ⟨false,[.ptr 576 0]⟩⟩:=s.look 3|none
 let some ⟨none,.one ⟨false,[.ptr 128 0]⟩⟩:=s.look 1|none
 let some (.box 94 [.ref 512,.ref 448,.ref 513]):=s.ent 576|none
 let some (.box 63 [.val (.int .i64 c),.ref 0,.val (.int .i64 d),.val (.bool e)]):=s.ent 128|none
 let some (.row true 2 (.int .i64) g):=s.ent 448|none
 let some (.row true 70 (.pair .str (.pair (.sl 125 (.pair (.int .i64) (.pair (.int .i64) .bool))) (.sl 129 (.pair (.int .i64) (.int .i64))))) i):=s.ent 513|none
 let some (.row false 2 (.int .i64) j):=s.ent 0|none
 let some (.row true 2 (.int .i64) f):=s.ent 512|none
 some (a,b,c,d,e,f,g,i,j)
def aV:Lp bX where
 h:=⟨[16,17,18,19,20,21,22,23,24,25,26,15],[0,1,3,4,5],[2],[]⟩
 JL:=EI
 JE:=EB
 XL:=EW
 XE:=EP
 q:=fun j=>match j with | _=> .exit 0
 tags:= [0]
 lt:=ow
 fuel:=fun(a,b,c,d,_,f,g,i,k)=>a.natAbs + b.natAbs + c.natAbs + d.natAbs + f.length + g.length + i.length + k.length
 fix:=fun(_,b,c,d,e,_,g,i,k) (a,_,_,_,_,f,_,_,_)=>(a,b,c,d,e,f,g,i,k)
 σ:= [(0,576),(1,128),(3,448),(4,513),(5,0),(2,512)]
 rd:=oF
theorem DP:LoopOk prog (fun k=>Nat.blt k Tryz.f67.ntmps) aV.F (aI f67 0):=by
 refine Lp.ok (tbl:= (T3z [ai,ac])) (lf:= []) aS aV (by kernel_rfl) (LOk.nil _) (fun _=>rfl) (fun _ _=>rfl) ?_ ?_ ?_ ?_ (fun _=>rfl) ?_
 ·intro _;kernel_rfl
 ·intro _;kernel_rfl
 ·intro s x h
  have h:oF s=some x:=h
  unfold oF at h
  repeat' split at h
  all_goals cases h
  constructor<;>repeat(first|refine aa ‹_› rfl ?_|refine ab rfl ‹_› rfl ?_|rfl)
 ·intro _;kernel_rfl
 ·intro _ _;exact(And.intro rfl trivial)
abbrev bY:=Int×Int×List Int×List Int×List (al5×((List (Int×(Int×Bool)))×(List (Int×Int))))
section
variable (a b:Int)(c d:al4)
def pu:Bool:=ltI a b
def pw:Bool:=leN (z7 c + z7 [(4:Int)]) (9223372036854775807:Nat)
def px:Bool:=leN ((z7 c + z7 [(4:Int)]) * (8:Nat)) 140737488355328
def py:Bool:=leN (z7 d + z7 [(0:Int)]) (9223372036854775807:Nat)
def pz:Bool:=leN ((z7 d + z7 [(0:Int)]) * (8:Nat)) 140737488355328
def pA:Int:=j6 .i64 (a + (1:Int))
def pB:al4:=c++ [(4:Int)]
def pC:al4:=d++ [(0:Int)]
end
def EJ:bY→List (Nat×SV)
 |(a,b,_,_,_)=> [(30,(al9 a)),(29,(al9 b)),(3,(al8 (.ptr 0 0)))]
def EC:bY→List (Nat×Entry)
 |(_,_,a,b,c)=> [(0,(.box 94 [.ref 1,.ref 2,.ref 3])),(3,(amm c)),(1,(amb a)),(2,(amb b))]
def EX:Nat→bY→List (Nat×SV)
 |_,_=>[]
def EQ:Nat→bY→List (Nat×Entry)
 |_,(_,_,a,b,c)=> [(0,(.box 94 [.ref 1,.ref 2,.ref 3])),(1,(amb a)),(2,(amb b)),(3,(amm c))]
def ox:bY→LT bY
 |(a,b,c,d,e)=> .ite (pu a b) (.need [pw c,px c] (.need [py d,pz d] (.nrm ((pA a),b,pB c,pC d,e) [(0,0),(1,320),(2,704),(3,3)]))) (.ext 0 [(0,0),(1,1),(2,2),(3,3)])
def oG(s:St):Option bY:=do
 let some ⟨none,.one ⟨false,[.val (.int .i64 a)]⟩⟩:=s.look 30|none
 let some ⟨none,.one ⟨false,[.val (.int .i64 b)]⟩⟩:=s.look 29|none
 let some ⟨none,.one ⟨false,[.ptr 576 0]⟩⟩:=s.look 3|none
 let some (.box 94 [.ref 1024,.ref 448,.ref 513]):=s.ent 576|none
 let some (.row true 70 (.pair .str (.pair (.sl 125 (.pair (.int .i64) (.pair (.int .i64) .bool))) (.sl 129 (.pair (.int .i64) (.int .i64))))) e):=s.ent 513|none
 let some (.row true 2 (.int .i64) c):=s.ent 1024|none
 let some (.row true 2 (.int .i64) d):=s.ent 448|none
 some (a,b,c,d,e)
def aW:Lp bY where
 h:=⟨[31,32,33,34,35,36,37,38,39,40,41,42,30],[0,3],[1,2],[]⟩
 JL:=EJ
 JE:=EC
 XL:=EX
 XE:=EQ
 q:=fun j=>match j with | _=> .exit 2
 tags:= [0]
 lt:=ox
 fuel:=fun(a,b,c,d,e)=>a.natAbs + b.natAbs + c.length + d.length + e.length
 fix:=fun(_,b,_,_,e) (a,_,c,d,_)=>(a,b,c,d,e)
 σ:= [(0,576),(3,513),(1,1024),(2,448)]
 rd:=oG
theorem DQ:LoopOk prog (fun k=>Nat.blt k Tryz.f67.ntmps) aW.F (aI f67 1):=by
 refine Lp.ok (tbl:= (T3z [ai,ac])) (lf:= []) aS aW (by kernel_rfl) (LOk.nil _) (fun _=>rfl) (fun _ _=>rfl) ?_ ?_ ?_ ?_ (fun _=>rfl) ?_
 ·intro _;kernel_rfl
 ·intro _;kernel_rfl
 ·intro s x h
  have h:oG s=some x:=h
  unfold oG at h
  repeat' split at h
  all_goals cases h
  constructor<;>repeat(first|refine aa ‹_› rfl ?_|refine ab rfl ‹_› rfl ?_|rfl)
 ·intro _;kernel_rfl
 ·intro _ _;exact(And.intro rfl trivial)
abbrev bZ:=Int×Int×List ((al5×((List (Int×(Int×Bool)))×(List (Int×Int))))×(Int×(Int×Int)))×List Int×List Int×List (al5×((List (Int×(Int×Bool)))×(List (Int×Int))))
def fL(a:Int)(b:List ((al5×((agb)×(al3)))×(Int×(Int×Int)))):al5×al0×al3:=(z8 b[z6 a]? (sW aa7)).1
def jV(a:Int)(b:List ((al5×((agb)×(al3)))×(Int×(Int×Int)))):al0×al3:=(fL a b).2
def du(a:Int)(b:List ((al5×((agb)×(al3)))×(Int×(Int×Int)))):aeT:= [((fL a b).1,(jV a b).1,(jV a b).2)]
def pD(a b:Int):Bool:=ltI a b
def pE(a:Int):Bool:=leI 0 a
def pF(a:Int)(b:List ((al5×((agb)×(al3)))×(Int×(Int×Int)))):Bool:=ltI a (↑b.length:Int)
def pG(a:Int)(b:List ((al5×((agb)×(al3)))×(Int×(Int×Int)))):Bool:=ltN a.toNat b.length
def pH(a:Int)(b:List ((al5×((agb)×(al3)))×(Int×(Int×Int))))(c:aer):Bool:=leN (z7 c + z7 (du a b)) 9223372036854775807
def pI(a:Int)(b:List ((al5×((agb)×(al3)))×(Int×(Int×Int))))(c:aer):Bool:=leN ((z7 c + z7 (du a b)) * 64) 140737488355328
def pJ(a:Int):Int:=j6 .i64 (a + (1:Int))
def pK(a:Int)(b:List ((al5×((agb)×(al3)))×(Int×(Int×Int))))(c:aer):aer:=c++du a b
def EK:bZ→List (Nat×SV)
 |(a,b,_,_,_,_)=> [(61,(al9 a)),(60,(al9 b)),(59,(al8 (.ref 0))),(3,(al8 (.ptr 1 0)))]
def ED:bZ→List (Nat×Entry)
 |(_,_,a,b,c,d)=> [(0,(amg a)),(1,(.box 94 [.ref 2,.ref 3,.ref 4])),(2,(amb b)),(3,(amb c)),(4,(amm d))]
def EY:Nat→bZ→List (Nat×SV)
 |_,_=>[]
def oy:bZ→LT bZ
 |(a,b,c,d,e,f)=> .ite (pD a b) (.need [pE a,pF a c,pG a c] (.need [pH a c f,pI a c f] (.nrm ((pJ a),b,c,d,e,(pK a c f)) [(0,0),(1,1),(2,2),(3,3),(4,704)]))) (.ext 0 [(0,0),(1,1),(2,2),(3,3),(4,4)])
def oH(s:St):Option bZ:=do
 let some ⟨none,.one ⟨false,[.val (.int .i64 a)]⟩⟩:=s.look 61|none
 let some ⟨none,.one ⟨false,[.val (.int .i64 b)]⟩⟩:=s.look 60|none
 let some ⟨none,.one ⟨false,[.ref 2560]⟩⟩:=s.look 59|none
 let some ⟨none,.one ⟨false,[.ptr 576 0]⟩⟩:=s.look 3|none
 let some (.row true 72 (.pair (.pair .str (.pair (.sl 125 (.pair (.int .i64) (.pair (.int .i64) .bool))) (.sl 129 (.pair (.int .i64) (.int .i64))))) (.pair (.int .i64) (.pair (.int .i64) (.int .i64)))) c):=s.ent 2560|none
 let some (.box 94 [.ref 1792,.ref 2304,.ref 513]):=s.ent 576|none
 let some (.row true 2 (.int .i64) d):=s.ent 1792|none
 let some (.row true 2 (.int .i64) e):=s.ent 2304|none
 let some (.row true 70 (.pair .str (.pair (.sl 125 (.pair (.int .i64) (.pair (.int .i64) .bool))) (.sl 129 (.pair (.int .i64) (.int .i64))))) f):=s.ent 513|none
 some (a,b,c,d,e,f)
def aX:Lp bZ where
 h:=⟨[62,63,64,5,65,66,67,68,69,70,71,72,61],[0,1,2,3],[4],[]⟩
 JL:=EK
 JE:=ED
 XL:=EY
 XE:=fun _=>ED
 q:=fun j=>match j with | _=> .exit 4
 tags:= [0]
 lt:=oy
 fuel:=fun(a,b,c,d,e,f)=>a.natAbs + b.natAbs + c.length + d.length + e.length + f.length
 fix:=fun(_,b,c,d,e,_) (a,_,_,_,_,f)=>(a,b,c,d,e,f)
 σ:= [(0,2560),(1,576),(2,1792),(3,2304),(4,513)]
 rd:=oH
theorem DR:LoopOk prog (fun k=>Nat.blt k Tryz.f67.ntmps) aX.F (aI f67 2):=by
 refine Lp.ok (tbl:= (T3z [ai,ac])) (lf:= []) aS aX (by kernel_rfl) (LOk.nil _) (fun _=>rfl) (fun _ _=>rfl) ?_ ?_ ?_ ?_ (fun _=>rfl) ?_
 ·intro _;kernel_rfl
 ·intro _;kernel_rfl
 ·intro s x h
  have h:oH s=some x:=h
  unfold oH at h
  repeat' split at h
  all_goals cases h
  constructor<;>repeat(first|refine aa ‹_› rfl ?_|refine ab rfl ‹_› rfl ?_|rfl)
 ·intro _;kernel_rfl
 ·intro _ _;exact(And.intro rfl trivial)
section
variable (a b:Int)(c:Bool)(d:al4)
def qI:Int×Int×Int×Int×Bool×al4×al4×aeT×al4:=((0:Int),(↑d.length:Int),a,b,c,[],d,[],d)
def qJ:Int×Int×al4×al4×aeT:=((0:Int),a,((Lp.res aV (qI a b c d)).2.2.2.2.2.2).1,d,[])
def qK:al4×al4×aeT:=(Lp.res aW (qJ a b c d)).2.2.2
def lK:al4:=(qK a b c d).1
def lL:al4:= [j6 .i64 (b + (1:Int))]
def qL:al4:=lK a b c d++lL b
def lM:al4:=((qK a b c d).2).1
def qM:al4:=lM a b c d++ [b]
def qN:aeq:=List.map (rrK d.length a) (kL d.length a.toNat b.toNat c)
def qO:Int×Int×aeq×al4×al4×aeT:=((0:Int),(↑(z7 (qN a b c d)):Int),qN a b c d,qL a b c d,qM a b c d,[])
def mq:al4:=qL a b c d
def mr:al4:=qM a b c d
def mt:aer:=(Lp.res aX (qO a b c d)).2.2.2.2.2.2
def mu:Bool:=allT [leN 1 d.length&&leN d.length (1048576:Nat),Lp.fin aV (qI a b c d),Lp.fin aW (qJ a b c d),leN (z7 (lK a b c d) + z7 (lL b)) 9223372036854775807,leN ((z7 (lK a b c d) + z7 (lL b)) * 8) 140737488355328,leN (z7 (lM a b c d) + z7 [b]) (9223372036854775807:Nat),leN ((z7 (lM a b c d) + z7 [b]) * (8:Nat)) (140737488355328:Nat),isR a b d,Lp.fin aX (qO a b c d)]
end
def xG:al6
 | [.one ⟨true,[.val (.int .i64 a),.ref 0,.val (.int .i64 b),.val (.bool c)]⟩],[.row false 2 (.int .i64) d]=>some ⟨.one ⟨true,[.ref 1,.ref 2,.ref 3]⟩,[ama d],[amb (mq a b c d),amb (mr a b c d),amm (mt a b c d)],[mu a b c d]⟩
 |_,_=>none
def rA:PF prog:=PF.ofG prog (T3z [ai,ac]) [aV.F,aW.F,aX.F] aS 67 f67 func67 (LOk.fnT (l:= [aI f67 0,aI f67 1,aI f67 2]) (by kernel_rfl) (.cons DP (.cons DQ (.cons DR (.nil _))))) xG (by
 intro _ _ _ h;unfold xG at h;split at h<;>cases h;kernel_rfl)
section
variable (a b:Int)(c:Bool)(d:al4)
def xO:Bool:=xY a b d !=0
def MI:Int:=bif xO a b d then xY a b d else(0:Int)
def MJ:al4:=bif xO a b d then []else mq a b c d
def MK:al4:=bif xO a b d then []else mr a b c d
def ML:aer:=bif xO a b d then []else mt a b c d
def MM:Bool:=allT [xO a b d||mu a b c d]
end
def RL:al6
 | [.one ⟨true,[.val (.int .i64 a),.ref 0]⟩,.one ⟨false,[.val (.int .i64 b)]⟩,.one ⟨false,[.val (.bool c)]⟩],[.row false 2 (.int .i64) d]=>some ⟨.tup [⟨true,[.ref 1,.ref 2,.ref 3]⟩,⟨false,[al7 (MI a b d)]⟩],[ama d],[amb (MJ a b c d),amb (MK a b c d),amm (ML a b c d)],[MM a b c d]⟩
 |_,_=>none
def aas:PF prog:=PF.ofG prog (T3z [sY,rA]) [] aS 44 f44 func44 (fun c _=>LOk.nil c) RL (by
 intro _ _ _ h;unfold RL at h;split at h<;>cases h;kernel_rfl)
variable{X C:Type}
theorem Lp.iter(p:Lp X)(st:Nat→X)(e n:Nat)(hn:n≤999)
  (hs: ∀ i,i < n→(p.lt (st i)).out=some (.inr (st (i + 1)))) (he:(p.lt (st n)).out=some (.inl e)):
  p.fin (st 0)=true∧p.res (st 0)=(e,st n):=by
 have key:=p.run (OZ (fun i (_:Unit)=>st i) (fun(_:Nat) (a:Unit)=>(.inr a:Nat ⊕ Unit)) e (fun _ _=>True) (List.range n) (fun i b a hb _=>by
  obtain⟨rfl,gm⟩:=OY hb
  exact⟨hs b gm,fun _ _=>trivial⟩) (fun a _=>by rw [List.length_range];exact he) (List.range n) 0 () rfl (by simp) trivial) (acb (by rw [List.length_range];omega))
 rw [yW (g:=fun a _=>a) (fun _ _=>rfl),List.length_range,Nat.zero_add]at key
 exact key
def Fc(n d:Int)(ps:al4):Int:=bif isT n ps then(bif inR d 0 2 then 0 else 2)else 1
theorem abR(n d:Int)(ps:al4):xY n d ps=Fc n d ps:=by
 simp only [xY,bg,yS,Fc]
 cases isT n ps <;> cases inR d 0 2 <;> rfl
theorem SZ(n d:Int)(ps:al4):rf n d ps=Fc n d ps:=by
 simp only [rf,gk,yS,Fc]
 cases isT n ps <;> cases inR d 0 2 <;> rfl
theorem DW{n d:Int}{ps:al4}:Fc n d ps=0↔isR n d ps=true:=by
 simp only [Fc,isR]
 cases isT n ps <;> cases inR d 0 2 <;> simp
def atK(L:al1)(b:Int):Int×Int×Int:=L[b.toNat]?.getD (0,0,0)
def inK(m:Nat)(tr:al4):Bool:=tr.all fun b=>inR b 0 ((m:Int) - 1)
def evW(L:al1)(tr:al4):al1:=tr.map fun b=>evK (atK L b)
def fEv(L:al1)(b:Int)(a:al1):Nat ⊕ al1:=bif inR b 0 ((L.length:Int) - 1)then .inr (a++ [evK (atK L b)])else .inl 0
theorem acK(L:al1): ∀ (tr:al4) (i:Nat) (a:al1),
  (inK L.length tr=true→fA (fEv L) 1 tr i a=(1,i + tr.length,a++evW L tr))∧(inK L.length tr=false→(fA (fEv L) 1 tr i a).1=0)
 | [],i,a=>⟨fun _=>by simp [fA,evW],fun h=>by cases h⟩
 |b::tr,i,a=>by
  have ih:=acK L tr (i + 1) (a++ [evK (atK L b)])
  cases hb:inR b 0 ((L.length:Int) - 1)with
  |true=>
   have e:inK L.length (b::tr)=inK L.length tr:=by simp only [inK,List.all_cons,hb,Bool.true_and]
   rw [e]
   simp only [fA,fEv,hb,cond_true]
   refine⟨fun h=> ?_,fun h=>ih.2 h⟩
   rw [ih.1 h]
   simp [evW];omega
  |false=>
   have e:inK L.length (b::tr)=false:=by simp only [inK,List.all_cons,hb,Bool.false_and]
   rw [e]
   refine⟨(fun h=>by cases h),fun _=> ?_⟩
   simp only [fA,fEv,hb,cond_false]
theorem ain(x:Int×Int×Int):(jS x.1,jT x.1 x.2.1,jU x.1)=evK x:=by
 simp only [jS,jT,jU,evK]
 cases x.1==4 <;> cases x.1==5 <;> cases x.1==6 <;> rfl
theorem aio(x:Int×Int×Int):((bif x.1==4 then 1 else bif x.1==5 then 1 else bif x.1==6 then 1 else 0:Int),
  (bif x.1==4 then x.2.1 else bif x.1==5 then x.2.1 else bif x.1==6 then x.2.1 else x.2.1:Int),(bif x.1==4 then 1 else bif x.1==5 then 2 else bif x.1==6 then 3 else 0:Int))=evK x:=by
 simp only [evK]
 cases x.1==4 <;> cases x.1==5 <;> cases x.1==6 <;> rfl
theorem alc(T:Nat)(n:Int)(L:al1)(tr:al4)(hL:L.length≤500)(htr:tr.length≤500):
  bd.fin ((0:Int),(tr.length:Int),tr,L.map (rrK T n),[])=true∧
  bd.res ((0:Int),(tr.length:Int),tr,L.map (rrK T n),[])=((fA (fEv L) 1 tr 0 []).1,(((fA (fEv L) 1 tr 0 []).2.1:Int),(tr.length:Int),tr,L.map (rrK T n),(fA (fEv L) 1 tr 0 []).2.2)):=by
 have key:=bd.along (fun i a=>((i:Int),(tr.length:Int),tr,L.map (rrK T n),a)) (fun x=>x.2.2.2.2) (fEv L) 1 (fun i a=>a.length=i) tr [] rfl (by simp [bd] <;> omega) (fun i b a hb hI=> ?_) (fun a _=> ?_)
 ·exact key
 ·have gm:=(w9.1 hb).1
  have jL:z8 tr[i]? 0=b:=by rw [hb];rfl
  have hw:=jv gm (by omega)
  have h1:ltI (i:Int) (tr.length:Int)=true:=cK (by omega)
  have h2:leI 0 (i:Int)=true:=cw (by omega)
  have h3:ltN i tr.length=true:=ip (by omega)
  have jw:uj (L.map (rrK T n))=(L.length:Int):=by simp [uj]
  have hw1:IntKind.i64.wrap ((L.length:Int) - 1)=(L.length:Int) - 1:=aB (by omega) (by omega)
  have l1:=FN (b:=1) (show a.length≤500 by omega) (by decide) (by decide)
  have l2:=Sf (b:=1) (show a.length≤500 by omega) (by decide) (by decide)
  cases hr:inR b 0 ((L.length:Int) - 1)with
  |false=>
   refine⟨?_,?_,?_,fun a' ha=> ?_⟩
   ·simp only [cL,dg,fa,kM,mW,mX,mY,kN,mZ,na,nb,nc,ne,lU,jE,jH,bd,LT.nds,allT,h1,h2,h3,jL,jw,hw1,hr,hw,cond_true,cond_false,Bool.not_true,Bool.not_false,Bool.and_self,Bool.true_and,Bool.and_true,Bool.true_or,w7,Bool.false_or,Bool.or_false,q9,bg,gk,yS,w5,w6,List.length_map,Nat.zero_add,true_and,and_true,and_self]
   ·simp only [cL,dg,fa,kM,mW,mX,mY,kN,mZ,na,nb,nc,ne,lU,jE,jH,bd,LT.each,allT,h1,h2,h3,jL,jw,hw1,hr,hw,cond_true,cond_false,Bool.not_true,Bool.not_false,Bool.and_self,Bool.true_and,Bool.and_true,Bool.true_or,w7,Bool.false_or,Bool.or_false,q9,bg,gk,yS,w5,w6,List.length_map,Nat.zero_add,true_and,and_true,and_self]
   ·simp only [cL,dg,fa,kM,mW,mX,mY,kN,mZ,na,nb,nc,ne,lU,jE,jH,bd,LT.fn,allT,h1,h2,h3,jL,jw,hw1,hr,hw,fEv,cond_true,cond_false,Bool.not_true,Bool.not_false,Bool.and_self,Bool.true_and,Bool.and_true,Bool.true_or,w7,Bool.false_or,Bool.or_false,q9,bg,gk,yS,w5,w6,List.length_map,Nat.zero_add,true_and,and_true,and_self]
   ·simp [fEv,hr]at ha
  |true=>
   have hb2:=sC.1 hr
   have hbl:b.toNat < L.length:=by omega
   have h4:leI 0 b=true:=cw hb2.1
   have h9:leI b ((L.length:Int) - 1)=true:=cw hb2.2
   have h5:ltI b (L.length:Int)=true:=cK (by omega)
   have h6:ltN b.toNat L.length=true:=ip hbl
   have hk:dg (i:Int) tr (L.map (rrK T n))=atK L b:=by
    have e:cL (i:Int) tr=b:=jL
    have e2:(L.map (rrK T n))[b.toNat]? =some (rrK T n L[b.toNat]):=by rw [List.getElem?_map,List.getElem?_eq_getElem hbl];rfl
    unfold dg
    rw [e,e2,show atK L b=L[b.toNat] by simp [atK,List.getElem?_eq_getElem hbl]]
    rfl
   have hev:=ain (atK L b)
   refine⟨?_,?_,?_,fun a' ha=> ?_⟩
   ·simp only [cL,dg,fa,kM,mW,mX,mY,kN,mZ,na,nb,nc,ne,lU,jE,jH,bd,LT.nds,allT,h1,h2,h3,jL,jw,hw1,hr,hw,h4,h9,h5,h6,l1,l2,cond_true,cond_false,Bool.not_true,Bool.not_false,Bool.and_self,Bool.true_and,Bool.and_true,Bool.true_or,w7,Bool.false_or,Bool.or_false,q9,bg,gk,yS,w5,w6,List.length_map,Nat.zero_add,true_and,and_true,and_self]
   ·simp only [cL,dg,fa,kM,mW,mX,mY,kN,mZ,na,nb,nc,ne,lU,jE,jH,bd,LT.each,allT,h1,h2,h3,jL,jw,hw1,hr,hw,h4,h9,h5,h6,l1,l2,cond_true,cond_false,Bool.not_true,Bool.not_false,Bool.and_self,Bool.true_and,Bool.and_true,Bool.true_or,w7,Bool.false_or,Bool.or_false,q9,bg,gk,yS,w5,w6,List.length_map,Nat.zero_add,true_and,and_true,and_self]
   ·simp only [bd,jH,kM,kN,cL,jE,fa,LT.fn,allT,h1,h2,h3,jL,jw,hw1,hr,hw,h4,h9,h5,h6,l1,l2,hk,hev,fEv,cond_true,cond_false,Bool.not_true,Bool.not_false,Bool.and_self,Bool.true_and,Bool.and_true,Bool.true_or,w7,Bool.false_or,Bool.or_false,q9,bg,gk,yS,w5,w6,List.length_map,Nat.zero_add,true_and,and_true,and_self]
   ·simp only [fEv,hr,cond_true,Sum.inr.injEq]at ha
    subst ha;simp [hI]
 ·have h1:ltI (tr.length:Int) (tr.length:Int)=false:=nA (by omega)
  simp only [cL,dg,fa,kM,mW,mX,mY,kN,mZ,na,nb,nc,ne,lU,jE,jH,bd,LT.out,h1,cond_false]
theorem ald(L:al1)(tr:al4)(hL:L.length≤500)(htr:tr.length≤500):
  be.fin ((0:Int),tr,L,[])=true∧
  be.res ((0:Int),tr,L,[])=((fA (fEv L) 1 tr 0 []).1,(((fA (fEv L) 1 tr 0 []).2.1:Int),tr,L,(fA (fEv L) 1 tr 0 []).2.2)):=by
 have key:=be.along (fun i a=>((i:Int),tr,L,a)) (fun x=>x.2.2.2) (fEv L) 1 (fun i a=>a.length=i) tr [] rfl (by simp [be] <;> omega) (fun i b a hb hI=> ?_) (fun a _=> ?_)
 ·exact key
 ·have gm:=(w9.1 hb).1
  have jL:z8 tr[i]? 0=b:=by rw [hb];rfl
  have hw:=jv gm (by omega)
  have h1:ltI (i:Int) (tr.length:Int)=true:=cK (by omega)
  have h2:leI 0 (i:Int)=true:=cw (by omega)
  have h3:ltN i tr.length=true:=ip (by omega)
  have hw1:IntKind.i64.wrap ((L.length:Int) - 1)=(L.length:Int) - 1:=aB (by omega) (by omega)
  have l1:=FN (b:=1) (show a.length≤500 by omega) (by decide) (by decide)
  have l2:=Sf (b:=1) (show a.length≤500 by omega) (by decide) (by decide)
  cases hr:inR b 0 ((L.length:Int) - 1)with
  |false=>
   refine⟨?_,?_,?_,fun a' ha=> ?_⟩
   ·simp only [dh,co,fb,fc,fe,ff,fT,iD,iE,kO,kP,kQ,kR,kS,kT,kU,jK,jI,be,LT.nds,allT,h1,h2,h3,jL,hw1,hr,hw,cond_true,cond_false,Bool.not_true,Bool.not_false,Bool.and_self,Bool.true_and,Bool.and_true,Bool.true_or,w7,Bool.false_or,Bool.or_false,q9,bg,gk,yS,w5,w6,List.length_map,Nat.zero_add,true_and,and_true,and_self]
   ·simp only [dh,co,fb,fc,fe,ff,fT,iD,iE,kO,kP,kQ,kR,kS,kT,kU,jK,jI,be,LT.each,allT,h1,h2,h3,jL,hw1,hr,hw,cond_true,cond_false,Bool.not_true,Bool.not_false,Bool.and_self,Bool.true_and,Bool.and_true,Bool.true_or,w7,Bool.false_or,Bool.or_false,q9,bg,gk,yS,w5,w6,List.length_map,Nat.zero_add,true_and,and_true,and_self]
   ·simp only [dh,co,fb,fc,fe,ff,fT,iD,iE,kO,kP,kQ,kR,kS,kT,kU,jK,jI,be,LT.fn,allT,h1,h2,h3,jL,hw1,hr,hw,fEv,cond_true,cond_false,Bool.not_true,Bool.not_false,Bool.and_self,Bool.true_and,Bool.and_true,Bool.true_or,w7,Bool.false_or,Bool.or_false,q9,bg,gk,yS,w5,w6,List.length_map,Nat.zero_add,true_and,and_true,and_self]
   ·simp [fEv,hr]at ha
  |true=>
   have hb2:=sC.1 hr
   have hbl:b.toNat < L.length:=by omega
   have h4:leI 0 b=true:=cw hb2.1
   have h9:leI b ((L.length:Int) - 1)=true:=cw hb2.2
   have h5:ltI b (L.length:Int)=true:=cK (by omega)
   have h6:ltN b.toNat L.length=true:=ip hbl
   have hk:z8 L[b.toNat]? (0,0,0)=atK L b:=rfl
   have hev:=aio (atK L b)
   refine⟨?_,?_,?_,fun a' ha=> ?_⟩
   ·simp only [dh,co,fb,fc,fe,ff,fT,iD,iE,kO,kP,kQ,kR,kS,kT,kU,jK,jI,be,LT.nds,allT,h1,h2,h3,jL,hw1,hr,hw,h4,h9,h5,h6,l1,l2,cond_true,cond_false,Bool.not_true,Bool.not_false,Bool.and_self,Bool.true_and,Bool.and_true,Bool.true_or,w7,Bool.false_or,Bool.or_false,q9,bg,gk,yS,w5,w6,List.length_map,Nat.zero_add,true_and,and_true,and_self]
   ·simp only [dh,co,fb,fc,fe,ff,fT,iD,iE,kO,kP,kQ,kR,kS,kT,kU,jK,jI,be,LT.each,allT,h1,h2,h3,jL,hw1,hr,hw,h4,h9,h5,h6,l1,l2,cond_true,cond_false,Bool.not_true,Bool.not_false,Bool.and_self,Bool.true_and,Bool.and_true,Bool.true_or,w7,Bool.false_or,Bool.or_false,q9,bg,gk,yS,w5,w6,List.length_map,Nat.zero_add,true_and,and_true,and_self]
   ·simp only [dh,co,fb,fc,fe,ff,fT,iD,iE,kO,kP,kQ,kR,kS,kT,kU,jK,jI,be,LT.fn,allT,h1,h2,h3,jL,hw1,hr,hw,h4,h9,h5,h6,l1,l2,hk,hev,fEv,cond_true,cond_false,Bool.not_true,Bool.not_false,Bool.and_self,Bool.true_and,Bool.and_true,Bool.true_or,w7,Bool.false_or,Bool.or_false,q9,bg,gk,yS,w5,w6,List.length_map,Nat.zero_add,true_and,and_true,and_self]
   ·simp only [fEv,hr,cond_true,Sum.inr.injEq]at ha
    subst ha;simp [hI]
 ·have h1:ltI (tr.length:Int) (tr.length:Int)=false:=nA (by omega)
  simp only [dh,co,fb,fc,fe,ff,fT,iD,iE,kO,kP,kQ,kR,kS,kT,kU,jK,jI,be,LT.out,h1,cond_false]
def OD(n d:Int)(s:Bool)(ps tr:al4):Int:=bif isR n d ps then(bif leN tr.length 200 then(bif inK (kL ps.length n.toNat d.toNat s).length tr then 0 else 4)else 3)else Fc n d ps
def evE(n d:Int)(s:Bool)(ps tr:al4):al1:=bif eqI (OD n d s ps tr) 0 then evW (kL ps.length n.toNat d.toNat s) tr else []
theorem Se{n d:Int}{s:Bool}{ps:al4}(h:isR n d ps=true):(kL ps.length n.toNat d.toNat s).length≤176:=by
 obtain⟨hT,hd⟩:=LO.1 h
 obtain⟨h1,h2,_⟩:=gB.1 hT
 exact akz (by omega) (by omega) (by omega)
theorem ae8(tr:al4):ltI 200 (tr.length:Int)= !leN tr.length 200:=by
 cases h:leN tr.length 200 with
 |true=>have:=uk.1 h;exact nA (by omega)
 |false=>have:=Tj.1 h;exact cK (by omega)
theorem akp(n d:Int)(s:Bool)(ps tr:al4):
  Hb n d s ps tr=OD n d s ps tr∧Hc n d s ps tr=evE n d s ps tr∧Hd n d s ps tr=true:=by
 simp only [wi,Aw,FH,Hb,Hc,Hd,abR,ae8,evE,OD]
 cases h:isR n d ps with
 |false=>
  have hc:(Fc n d ps !=0)=true:=by
   simp only [bne_iff_ne,ne_eq,DW,h];decide
  have hc2:eqI (Fc n d ps) 0=false:=aka (by simpa using hc)
  simp [hc,hc2,allT]
 |true=>
  have hc:(Fc n d ps !=0)=false:=by simp [DW.2 h]
  cases hl:leN tr.length 200 with
  |false=>simp [hc,allT,eqI]
  |true=>
   have hl2:=uk.1 hl
   have hk:=Se (s:=s) h
   obtain⟨w1,w2⟩:=alc ps.length n (kL ps.length n.toNat d.toNat s) tr (by omega) (by omega)
   obtain⟨g1,g2⟩:=acK (kL ps.length n.toNat d.toNat s) tr 0 []
   cases hi:inK (kL ps.length n.toNat d.toNat s).length tr with
   |true=>simp [hc,w1,w2,g1 hi,allT,eqI,show Nat.beq 1 0=false from rfl]
   |false=>simp [hc,w1,w2,g2 hi,allT,eqI,show Nat.beq 0 0=true from rfl]
theorem akq(n d:Int)(s:Bool)(ps tr:al4):
  Ht n d s ps tr=OD n d s ps tr∧Hu n d s ps tr=evE n d s ps tr∧Hv n d s ps tr=true:=by
 simp only [wm,AC,FZ,Ht,Hu,Hv,SZ,ae8,evE,OD]
 cases h:isR n d ps with
 |false=>
  have hc:(Fc n d ps !=0)=true:=by
   simp only [bne_iff_ne,ne_eq,DW,h];decide
  have hc2:eqI (Fc n d ps) 0=false:=aka (by simpa using hc)
  simp [hc,hc2,allT]
 |true=>
  have hc:(Fc n d ps !=0)=false:=by simp [DW.2 h]
  cases hl:leN tr.length 200 with
  |false=>simp [hc,allT,eqI]
  |true=>
   have hl2:=uk.1 hl
   have hk:=Se (s:=s) h
   obtain⟨w1,w2⟩:=ald (kL ps.length n.toNat d.toNat s) tr (by omega) (by omega)
   obtain⟨g1,g2⟩:=acK (kL ps.length n.toNat d.toNat s) tr 0 []
   cases hi:inK (kL ps.length n.toNat d.toNat s).length tr with
   |true=>simp [hc,w1,w2,g1 hi,allT,eqI,show Nat.beq 1 0=false from rfl]
   |false=>simp [hc,w1,w2,g2 hi,allT,eqI,show Nat.beq 0 0=true from rfl]
def NA:al6
 | [.one ⟨true,[.val (.int .i64 a),.ref 0]⟩,.one ⟨false,[.val (.int .i64 b)]⟩,.one ⟨false,[.val (.bool c)]⟩,.one ⟨false,[.ref 1]⟩],[.row false 2 (.int .i64) d,.row false 2 (.int .i64) e]=>some ⟨.tup [⟨false,[.ref 2]⟩,⟨false,[al7 (OD a b c d e)]⟩],[ama d,ama e],[amj (evE a b c d e)],[]⟩
 |_,_=>none
def Hj:PF prog:=PF.alt VC NA (by
 intro args es o h dq;unfold NA at h;split at h
 ·rename_i a b c d e
  cases h
  have hh:=akp a b c d e
  obtain⟨e0,e1,en⟩:=hh
  exact uJ rfl (pM en) (by simp only [e0] <;> rfl) rfl (by simp only [e1] <;> rfl)
 ·cases h)
def NB:al6
 | [.one ⟨true,[.val (.int .i64 a),.ref 0]⟩,.one ⟨false,[.val (.int .i64 b)]⟩,.one ⟨false,[.val (.bool c)]⟩,.one ⟨false,[.ref 1]⟩],[.row false 2 (.int .i64) d,.row false 2 (.int .i64) e]=>some ⟨.tup [⟨false,[.ref 2]⟩,⟨false,[al7 (OD a b c d e)]⟩],[ama d,ama e],[amj (evE a b c d e)],[]⟩
 |_,_=>none
def Hk:PF prog:=PF.alt VD NB (by
 intro args es o h dq;unfold NB at h;split at h
 ·rename_i a b c d e
  cases h
  have hh:=akq a b c d e
  obtain⟨e0,e1,en⟩:=hh
  exact uJ rfl (pM en) (by simp only [e0] <;> rfl) rfl (by simp only [e1] <;> rfl)
 ·cases h)
theorem ZE{C:Type}(i:Nat)(x:C):j7 (i + 1) x=j7 i x++ [x]:=List.replicate_succ'
theorem QM{a b m:Nat}(h:a≤m)(hb:b≤999)(hm:m≤100000):leN ((a + b) * 8) 140737488355328=true:=iJ (by omega)
theorem ae4{a b m:Nat}(h:a≤m)(hb:b≤999)(hm:m≤100000):leN ((a + b) * 64) 140737488355328=true:=iJ (by omega)
theorem alk(n d:Int)(s:Bool)(ps:al4)(hT:isT n ps=true):
  aV.fin ((0:Int),(ps.length:Int),n,d,s,[],ps,[],ps)=true∧aV.res ((0:Int),(ps.length:Int),n,d,s,[],ps,[],ps)=(0,((ps.length:Int),(ps.length:Int),n,d,s,j7 ps.length (3 * n),ps,[],ps)):=by
 obtain⟨h1,h2,_⟩:=gB.1 hT
 have key:=aV.iter (fun i=>((i:Int),(ps.length:Int),n,d,s,j7 i (3 * n),ps,[],ps)) 0 ps.length (by omega) (fun i hi=> ?_) ?_
 ·exact key
 ·have hw:IntKind.i64.wrap ((i:Int) + 1)=((i + 1:Nat):Int):=jv hi (by omega)
  have h3:ltI (i:Int) (ps.length:Int)=true:=cK (by omega)
  have q1:IntKind.i64.wrap (3 * n)=3 * n:=aB (by omega) (by omega)
  have l1:=FN (b:=1) (show i≤500 by omega) (by decide) (by decide)
  have l2:=QM (b:=1) (show i≤500 by omega) (by decide) (by decide)
  simp only [fK,pn,po,pp,pq,pt,ow,aV,LT.out,allT,h3,hw,q1,l1,l2,ZE,w8,w5,w6,Nat.zero_add,cond_true]
 ·have h3:ltI (ps.length:Int) (ps.length:Int)=false:=nA (by omega)
  simp only [fK,pn,po,pp,pq,pt,ow,aV,LT.out,h3,cond_false]
theorem alm(m:Nat)(zs ps:al4)(hm:m≤8)(hz:zs.length≤100)(hp:ps.length≤100):
  aW.fin ((0:Int),(m:Int),zs,ps,[])=true∧aW.res ((0:Int),(m:Int),zs,ps,[])=(0,((m:Int),(m:Int),zs++j7 m 4,ps++j7 m 0,[])):=by
 have key:=aW.iter (fun i=>((i:Int),(m:Int),zs++j7 i 4,ps++j7 i 0,[])) 0 m (by omega) (fun i hi=> ?_) ?_
 ·simpa only [show ((0:Nat):Int)=0 from rfl,List.replicate_zero,List.append_nil] using key
 ·have hw:IntKind.i64.wrap ((i:Int) + 1)=((i + 1:Nat):Int):=jv hi (by omega)
  have h3:ltI (i:Int) (m:Int)=true:=cK (by omega)
  have l1:=FN (b:=1) (show zs.length + i≤500 by omega) (by decide) (by decide)
  have l2:=QM (b:=1) (show zs.length + i≤500 by omega) (by decide) (by decide)
  have l3:=FN (b:=1) (show ps.length + i≤500 by omega) (by decide) (by decide)
  have l4:=QM (b:=1) (show ps.length + i≤500 by omega) (by decide) (by decide)
  simp only [pu,pw,px,py,pz,pA,pB,pC,ox,aW,LT.out,allT,h3,hw,l1,l2,l3,l4,ZE,w3,w8,w5,w6,Nat.zero_add,cond_true,List.append_assoc]
 ·have h3:ltI (m:Int) (m:Int)=false:=nA (by omega)
  simp only [pu,pw,px,py,pz,pA,pB,pC,ox,aW,LT.out,h3,cond_false]
theorem RI{A B:Type}{L:List A}{i:Nat}(h:i < L.length)(f:A→B):(L.take (i + 1)).map f=(L.take i).map f++ [f L[i]]:=by
 rw [List.take_add_one,List.getElem?_eq_getElem h,List.map_append];rfl
theorem aln(T:Nat)(n:Int)(L:al1)(zs ps:al4)(hL:L.length≤500):
  aX.fin ((0:Int),(((L.map (rrK T n)).length:Nat):Int),L.map (rrK T n),zs,ps,[])=true∧
  aX.res ((0:Int),(((L.map (rrK T n)).length:Nat):Int),L.map (rrK T n),zs,ps,[])=(0,((((L.map (rrK T n)).length:Nat):Int),(((L.map (rrK T n)).length:Nat):Int),L.map (rrK T n),zs,ps,L.map (ruK T n))):=by
 have jw:(L.map (rrK T n)).length=L.length:=List.length_map _
 rw [jw]
 have key:=aX.iter (fun i=>((i:Int),(L.length:Int),L.map (rrK T n),zs,ps,(L.take i).map (ruK T n))) 0 L.length (by omega) (fun i hi=> ?_) ?_
 ·simpa only [show ((0:Nat):Int)=0 from rfl,List.take_zero,List.map_nil,List.take_length] using key
 ·have hw:IntKind.i64.wrap ((i:Int) + 1)=((i + 1:Nat):Int):=jv hi (by omega)
  have h3:ltI (i:Int) (L.length:Int)=true:=cK (by omega)
  have h4:leI 0 (i:Int)=true:=cw (by omega)
  have h5:ltN i L.length=true:=ip hi
  have hmi:min i L.length=i:=by omega
  have l1:=FN (b:=1) (show i≤500 by omega) (by decide) (by decide)
  have l2:=ae4 (b:=1) (show i≤500 by omega) (by decide) (by decide)
  have e2:(L.map (rrK T n))[i]? =some (rrK T n L[i]):=by rw [List.getElem?_map,List.getElem?_eq_getElem hi];rfl
  have hk:fL (i:Int) (L.map (rrK T n))=ruK T n L[i]:=by
   unfold fL
   rw [q9,e2];rfl
  have hk2:du (i:Int) (L.map (rrK T n))= [ruK T n L[i]]:=by
   simp only [du,jV,hk]
  simp only [aX,oy,pD,pE,pF,pG,pH,pI,pJ,pK,LT.out,allT,h3,h4,h5,hw,hk2,jw,l1,l2,hmi,RI hi,q9,
   List.length_map,w4,w5,w6,Nat.zero_add,cond_true]
 ·have h3:ltI (L.length:Int) (L.length:Int)=false:=nA (by omega)
  simp only [fL,jV,du,pD,pE,pF,pG,pH,pI,pJ,pK,oy,aX,LT.out,h3,cond_false]
def stM(n d:Int)(ps:al4):al4:=stV (ps,j7 n.toNat 0) d
theorem aiO(n d:Int)(s:Bool)(ps:al4)(h:isR n d ps=true):
  mq n d s ps=szM ps.length n d.toNat∧mr n d s ps=stM n d ps∧mt n d s ps=(kL ps.length n.toNat d.toNat s).map (ruK ps.length n)∧mu n d s ps=true:=by
 obtain⟨hT,hd⟩:=LO.1 h
 obtain⟨h1,h2,_⟩:=gB.1 hT
 obtain⟨m,rfl⟩:=Int.eq_ofNat_of_zero_le (show 0≤n by omega)
 obtain⟨k,rfl⟩:=Int.eq_ofNat_of_zero_le hd.1
 have hk:=Se (s:=s) h
 obtain⟨a1,a2⟩:=alk m k s ps hT
 obtain⟨b1,b2⟩:=alm m (j7 ps.length (3 * (m:Int))) ps (by omega) (by rw [w8];omega) (by omega)
 have q1:IntKind.i64.wrap ((k:Int) + 1)=(k:Int) + 1:=aB (by omega) (by omega)
 obtain⟨c1,c2⟩:=aln ps.length m (kL ps.length m k s) (j7 ps.length (3 * (m:Int))++j7 m 4++ [(k:Int) + 1]) (ps++j7 m 0++ [(k:Int)]) (by simpa using Nat.le_trans hk (by decide))
 have l1:=FN (b:=1) (show ps.length + m≤500 by omega) (by decide) (by decide)
 have l2:=QM (b:=1) (show ps.length + m≤500 by omega) (by decide) (by decide)
 have l3:leN 1 ps.length=true:=iJ h2.1
 have l4:leN ps.length 1048576=true:=iJ (by omega)
 simp only [qI,qJ,qK,lK,lL,qL,lM,qM,qN,qO,mq,mr,mt,mu,a1,a2,b1,b2,q1,q9,c1,c2,l1,l2,l3,l4,h,allT,szM,stM,stV,List.append_assoc,w3,w8,w5,w6,Nat.zero_add,cond_true,Bool.and_self,and_self]
 simp only [List.append_assoc]at c1 c2
 simp only [c1,c2,cond_true,and_self]
theorem aei(n d:Int)(s:Bool)(ps:al4):
  MI n d ps=Fc n d ps∧MJ n d s ps=(bif isR n d ps then szM ps.length n d.toNat else [])∧MK n d s ps=(bif isR n d ps then stM n d ps else [])∧
  ML n d s ps=(bif isR n d ps then(kL ps.length n.toNat d.toNat s).map (ruK ps.length n)else [])∧MM n d s ps=true:=by
 simp only [xO,MI,MJ,MK,ML,MM,abR]
 cases h:isR n d ps with
 |false=>
  have hc:(Fc n d ps !=0)=true:=by
   simp only [bne_iff_ne,ne_eq,DW,h];decide
  simp [hc,allT]
 |true=>
  have hc0:=DW.2 h
  obtain⟨m1,m2,m3,m4⟩:=aiO n d s ps h
  simp [hc0,m1,m2,m3,m4,allT]
def RQ:al6
 | [.one ⟨true,[.val (.int .i64 a),.ref 0]⟩,.one ⟨false,[.val (.int .i64 b)]⟩,.one ⟨false,[.val (.bool c)]⟩],[.row false 2 (.int .i64) d]=>some ⟨.tup [⟨true,[.ref 1,.ref 2,.ref 3]⟩,⟨false,[al7 (Fc a b d)]⟩],[ama d],[amb (bif isR a b d then szM d.length a b.toNat else []),amb (bif isR a b d then stM a b d else []),amm (bif isR a b d then(kL d.length a.toNat b.toNat c).map (ruK d.length a)else [])],[]⟩
 |_,_=>none
def MY:PF prog:=PF.alt aas RQ (by
 intro args es o h dq;unfold RQ at h;split at h
 ·rename_i a b c d
  cases h
  have hh:=aei a b c d
  obtain⟨e0,e1,e2,e3,en⟩:=hh
  exact uJ rfl (pM en) (by simp only [e0] <;> rfl) rfl (by simp only [e1,e2,e3] <;> rfl)
 ·cases h)
theorem aki(s:al5)(i:Nat):s[i]? =s.data.toList[i]? :=by
 by_cases h:i < s.size
 ·rw [getElem?_pos s i h,Array.getElem?_toList]
  have h':i < s.data.size:=h
  rw [Array.getElem?_eq_getElem h']
  rfl
 ·rw [getElem?_neg s i h,Array.getElem?_toList]
  have h': ¬ i < s.data.size:=h
  rw [Array.getElem?_eq_none (by omega)]
def wbM:al5:=ByteArray.mk #[97,98,99,100,101,102,103,104,105,106,107,108,109,110,111,112,113,114,115,116,117,118,119,120,121,122,48,49,50,51,52,53,54,55,56,57,95]
def okY(b:UInt8):Bool:=leI 0 (ibs wbM (b.toNat:Int))
def okN(x:al5):Bool:=x.data.toList.all okY
theorem ajG(x y:al5):okN (x++y)=(okN x&&okN y):=by
 simp only [okN,ByteArray.data_append,Array.toList_append,List.all_append]
theorem aeM{a:Int}(ha:0≤a∧a < 10):okN (Ge a)=true∧(Ge a).size=1:=by
 rw [aaP ha.1 ha.2]
 have hc:a=0∨a=1∨a=2∨a=3∨a=4∨a=5∨a=6∨a=7∨a=8∨a=9:=by omega
 rcases hc with rfl | rfl | rfl | rfl | rfl | rfl | rfl | rfl | rfl | rfl <;> exact⟨by decide +kernel,by decide +kernel⟩
theorem ajB{k a b:Int}(hk:0≤k∧k≤6)(ha:0≤a∧a < 10)(hb:0≤b∧b < 10):
  okN (km k a b)=true∧1≤(km k a b).size∧(km k a b).size≤16:=by
 have h0:okN (ve k)=true∧(ve k).size≤8:=by
  have hc:k=0∨k=1∨k=2∨k=3∨k=4∨k=5∨k=6:=by omega
  rcases hc with rfl | rfl | rfl | rfl | rfl | rfl | rfl <;> exact⟨by decide +kernel,by decide +kernel⟩
 obtain⟨a1,a2⟩:=aeM ha
 obtain⟨b1,b2⟩:=aeM hb
 have h5:okN (ByteArray.mk #[95])=true:=by decide +kernel
 have h6:(ByteArray.mk #[95]).size=1:=rfl
 simp only [km,vf,mP,oi,ajG,ByteArray.size_append,h0.1,a1,b1,h5,a2,b2,h6,Bool.and_self]
 refine⟨trivial,?_,?_⟩ <;> omega
theorem alu(x:al5)(hx:x.size≤100)(h:okN x=true):
  jG.fin ((0:Int),(0:Int),x,wbM)=true∧jG.res ((0:Int),(0:Int),x,wbM)=(0,((0:Int),(x.size:Int),x,wbM)):=by
 have key:=jG.iter (fun i=>((0:Int),(i:Int),x,wbM)) 0 x.size (by omega) (fun i hi=> ?_) ?_
 ·exact key
 ·have hw:IntKind.i64.wrap ((i:Int) + 1)=((i + 1:Nat):Int):=jv hi (by omega)
  have hw0:IntKind.i64.wrap (0 + (i:Int))=(i:Int):=by rw [aB (by omega) (by omega)];omega
  have h3:ltI (i:Int) (x.size:Int)=true:=cK (by omega)
  have h4:leI 0 (i:Int)=true:=cw (by omega)
  have hl:i < x.data.toList.length:=hi
  have hb:okY x.data.toList[i]=true:=List.all_eq_true.1 h _ (List.getElem_mem hl)
  have hg:z8 x[i]? (0:UInt8)=x.data.toList[i]:=by rw [aki,List.getElem?_eq_getElem hl];rfl
  have hb2:leI 0 (ibs wbM (x.data.toList[i].toNat:Int))=true:=hb
  simp only [tV,Iy,Iz,IA,IB,Hi,jG,LT.out,allT,hw,hw0,h3,h4,hg,AY,qG,hb2,q9,cond_true,Bool.and_self,Bool.not_true,w7]
 ·have hw0:IntKind.i64.wrap (0 + (x.size:Int))=(x.size:Int):=by rw [aB (by omega) (by omega)];omega
  have h3:ltI (x.size:Int) (x.size:Int)=false:=nA (by omega)
  simp only [tV,Iy,Iz,IA,IB,Hi,jG,LT.out,allT,hw0,h3,cond_false,cond_true,Bool.false_and,Bool.not_false,Bool.true_or]
theorem afp(x:al5)(hx:1≤x.size∧x.size≤16)(h:okN x=true):tP x=true∧xP x=true:=by
 obtain⟨w1,w2⟩:=alu x (by omega) h
 have hr:inR (x.size:Int) 1 16=true:=sC.2 (by omega)
 rw [wbM]at w1 w2
 simp only [BW,tP,xP,LK,MS,MT,bg,yS,hr,w1,w2,allT,cond_true,beq_self_eq_true,w7,and_self]
def afe(sz:al4):Prop:=sz.length≤500∧ ∀ y∈sz,0≤y∧y≤1000000
theorem QD{sz:al4}(hs:afe sz)(x v:Int):cO x v sz=Tf sz x v∧cP x sz=true:=by
 have hl:=hs.1
 have q1:IntKind.i64.wrap ((sz.length:Int) - 1)=(sz.length:Int) - 1:=aB (by omega) (by omega)
 have hln:aL sz=(sz.length:Int):=Sg sz (by omega)
 have hg:0≤z8 sz[x.toNat]? 0∧z8 sz[x.toNat]? 0≤1000000:=by
  cases hq:sz[x.toNat]? with
  |none=>simp
  |some y=>exact hs.2 y (List.mem_of_getElem? hq)
 have q2:IntKind.i64.wrap (z8 sz[x.toNat]? 0 - 1)=z8 sz[x.toNat]? 0 - 1:=aB (by omega) (by omega)
 simp only [il,cO,cP,bg,yS,hln,q1,q2,Tf]
 cases hr:inR x 0 ((sz.length:Int) - 1)with
 |false=>simp [allT]
 |true=>
  have h1:=sC.1 hr
  have h2:leI 0 x=true:=cw h1.1
  have h3:ltI x (sz.length:Int)=true:=cK (by omega)
  have h4:ltN x.toNat sz.length=true:=ip (by omega)
  simp only [allT,h2,h3,h4,cond_true,Bool.true_and,w7,and_self]
abbrev RuE:=al5×((List (Int×(Int×Bool)))×(List (Int×Int)))
theorem aj6(sz st:al4)(rs:List RuE)(g:al0)(hs:afe sz)(hg:g.length≤500)(h: ∀ t∈g,Tf sz t.1 t.2.1=true):
  aO.fin ((0:Int),(g.length:Int),g,sz,st,rs)=true∧aO.res ((0:Int),(g.length:Int),g,sz,st,rs)=(1,((g.length:Int),(g.length:Int),g,sz,st,rs)):=by
 have key:=aO.iter (fun i=>((i:Int),(g.length:Int),g,sz,st,rs)) 1 g.length (by omega) (fun i hi=> ?_) ?_
 ·exact key
 ·have hw:IntKind.i64.wrap ((i:Int) + 1)=((i + 1:Nat):Int):=jv hi (by omega)
  have h3:ltI (i:Int) (g.length:Int)=true:=cK (by omega)
  have h4:leI 0 (i:Int)=true:=cw (by omega)
  have h5:ltN i g.length=true:=ip hi
  have jL: ∀ d,z8 g[i]? d=g[i]:=fun d=>by rw [List.getElem?_eq_getElem hi];rfl
  have hh:=h _ (List.getElem_mem hi)
  simp only [hZ,rV,rW,rX,rY,rZ,sa,sc,qS,aO,kV,kW,LT.out,allT,hw,h3,h4,h5,jL,(fun x v=>(QD hs x v).1),(fun x=>(QD hs x 0).2),hh,q9,cond_true,cond_false,Bool.not_true]
 ·have h3:ltI (g.length:Int) (g.length:Int)=false:=nA (by omega)
  simp only [hZ,rV,rW,rX,rY,rZ,sa,sc,qS,aO,LT.out,h3,cond_false]
theorem ai3(sz st:al4)(rs:List RuE)(g:al0)(hs:afe sz)(h:Zw sz g=true):
  gC sz st rs g=true∧gD sz st rs g=true:=by
 simp only [Zw,q8,uk,List.all_eq_true]at h
 obtain⟨w1,w2⟩:=aj6 sz st rs g hs (by omega) h.2
 have h1:leI (g.length:Int) 24=true:=cw (by omega)
 simp only [lv,gC,gD,rK,rL,nD,tt,tu,w1,w2,h1,allT,show Nat.beq 1 0=false from rfl,cond_true,cond_false,show leI 0 (-1)=false from rfl,Bool.not_false,w7,and_self]
theorem ahg{sz:al4}: ∀ (es:al3) (p:Int),Uq sz es p=true→ ∀ (i:Nat) (hi:i < es.length),Tf sz es[i].1 es[i].2=true∧((i=0→p < es[i].1)∧ ∀ j (hj:j < es.length),j + 1=i→es[j].1 < es[i].1)
 | [],_,_,i,hi=>by cases hi
 |e::r,p,h,i,hi=>by
  simp only [Uq,q8,Eg]at h
  cases i with
  |zero=>exact⟨h.1.1,fun _=>h.1.2,fun j _ hj=>by omega⟩
  |succ i=>
   obtain⟨h1,h2,h3⟩:=ahg r e.1 h.2 i (by simpa using hi)
   refine⟨h1,(fun h0=>by omega),fun j hj hji=> ?_⟩
   cases j with
   |zero=>
    have:i=0:=by omega
    exact h2 this
   |succ j=>exact h3 j (by simpa using hj) (by omega)
theorem ajc(nm:al5)(sz st:al4)(rs:List RuE)(g:al0)(es:al3)(hs:afe sz)(he:es.length≤500)(h:Uq sz es (-1)=true):
  am.fin ((0:Int),(es.length:Int),es,nm,sz,st,rs,g)=true∧
  am.res ((0:Int),(es.length:Int),es,nm,sz,st,rs,g)=(1,((es.length:Int),(es.length:Int),es,nm,sz,st,rs,g)):=by
 have key:=am.iter (fun i=>((i:Int),(es.length:Int),es,nm,sz,st,rs,g)) 1 es.length (by omega) (fun i hi=> ?_) ?_
 ·exact key
 ·have hw:IntKind.i64.wrap ((i:Int) + 1)=((i + 1:Nat):Int):=jv hi (by omega)
  have h3:ltI (i:Int) (es.length:Int)=true:=cK (by omega)
  have h4:leI 0 (i:Int)=true:=cw (by omega)
  have h5:ltN i es.length=true:=ip hi
  have jL: ∀ d,z8 es[i]? d=es[i]:=fun d=>by rw [List.getElem?_eq_getElem hi];rfl
  obtain⟨hh,_,h6⟩:=ahg es (-1) h i hi
  cases i with
  |zero=>
   have h0:ltI 0 ((0:Nat):Int)=false:=rfl
   simp only [bx,di,cp,bz,fU,fW,fX,fY,fZ,gc,ge,gf,gg,gh,fH,am,LT.out,allT,hw,h3,h4,h5,jL,(fun x v=>(QD hs x v).1),(fun x=>(QD hs x 0).2),hh,h0,q9,cond_true,cond_false,Bool.not_true,Bool.false_and,Bool.not_false,Bool.true_or]
  |succ j=>
   have h0:ltI 0 ((j + 1:Nat):Int)=true:=cK (by omega)
   have hw1:IntKind.i64.wrap (((j + 1:Nat):Int) - 1)=(j:Int):=by rw [aB (by omega) (by omega)];omega
   have g1:leI 0 (j:Int)=true:=cw (by omega)
   have g2:ltI (j:Int) (es.length:Int)=true:=cK (by omega)
   have g3:ltN j es.length=true:=ip (by omega)
   have hget1: ∀ d,z8 es[j]? d=es[j]:=fun d=>by rw [List.getElem?_eq_getElem (by omega:j < es.length)];rfl
   have gm:=h6 j (by omega) rfl
   have g4:leI es[j + 1].1 es[j].1=false:=aiH gm
   simp only [bx,di,cp,bz,fU,fW,fX,fY,fZ,gc,ge,gf,gg,gh,fH,am,LT.out,allT,hw,hw1,h3,h4,h5,jL,hget1,(fun x v=>(QD hs x v).1),(fun x=>(QD hs x 0).2),hh,h0,g1,g2,g3,g4,q9,cond_true,cond_false,Bool.not_true,Bool.not_false,Bool.and_self,w7,Bool.true_and]
 ·have h3:ltI (es.length:Int) (es.length:Int)=false:=nA (by omega)
  simp only [bx,di,cp,bz,fU,fW,fX,fY,fZ,gc,ge,gf,gg,gh,fH,am,LT.out,h3,cond_false]
theorem ahF(sz st:al4)(rs:List RuE)(nm:al5)(g:al0)(es:al3)(hs:afe sz)(hn:1≤nm.size∧nm.size≤16)(hm:okN nm=true)(hg:Zw sz g=true)(he:Uq sz es (-1)=true)(hl:es.length≤4):
  ie nm sz st rs g es=true∧ig nm sz st rs g es=true:=by
 obtain⟨w1,w2⟩:=ajc nm sz st rs g es hs (by omega) he
 obtain⟨n1,n2⟩:=afp nm hn hm
 obtain⟨t1,t2⟩:=ai3 sz st rs g hs hg
 have h1:leI (es.length:Int) 4=true:=cw (by omega)
 simp only [mf,gV,ie,ig,w1,w2,n1,n2,t1,t2,h1,allT,show Nat.beq 1 0=false from rfl,cond_true,cond_false,w7,and_self]
theorem alz(sz:al4)(hl:sz.length≤500)(h: ∀ y∈sz,1≤y∧y≤32):
  aG.fin ((0:Int),(sz.length:Int),sz)=true∧aG.res ((0:Int),(sz.length:Int),sz)=(1,((sz.length:Int),(sz.length:Int),sz)):=by
 have key:=aG.iter (fun i=>((i:Int),(sz.length:Int),sz)) 1 sz.length (by omega) (fun i hi=> ?_) ?_
 ·exact key
 ·have hw:IntKind.i64.wrap ((i:Int) + 1)=((i + 1:Nat):Int):=jv hi (by omega)
  have h3:ltI (i:Int) (sz.length:Int)=true:=cK (by omega)
  have h4:leI 0 (i:Int)=true:=cw (by omega)
  have h5:ltN i sz.length=true:=ip hi
  have jL: ∀ d,z8 sz[i]? d=sz[i]:=fun d=>by rw [List.getElem?_eq_getElem hi];rfl
  have hh:inR sz[i] 1 32=true:=sC.2 (h _ (List.getElem_mem hi))
  simp only [qh,qi,qj,qk,ql,qm,pL,aG,DY,bg,yS,LT.out,allT,hw,h3,h4,h5,jL,hh,q9,cond_true,cond_false,Bool.not_true]
 ·have h3:ltI (sz.length:Int) (sz.length:Int)=false:=nA (by omega)
  simp only [qh,qi,qj,qk,ql,qm,pL,aG,LT.out,h3,cond_false]
theorem aj5(sz st:al4)(rs:List RuE)(hs:afe sz)(hl:st.length≤500)(h: ∀ (i:Nat) (hi:i < st.length),Tf sz (i:Int) st[i]=true):
  ao.fin ((0:Int),(st.length:Int),st,sz,rs)=true∧ao.res ((0:Int),(st.length:Int),st,sz,rs)=(1,((st.length:Int),(st.length:Int),st,sz,rs)):=by
 have key:=ao.iter (fun i=>((i:Int),(st.length:Int),st,sz,rs)) 1 st.length (by omega) (fun i hi=> ?_) ?_
 ·exact key
 ·have hw:IntKind.i64.wrap ((i:Int) + 1)=((i + 1:Nat):Int):=jv hi (by omega)
  have h3:ltI (i:Int) (st.length:Int)=true:=cK (by omega)
  have h4:leI 0 (i:Int)=true:=cw (by omega)
  have h5:ltN i st.length=true:=ip hi
  have jL: ∀ d,z8 st[i]? d=st[i]:=fun d=>by rw [List.getElem?_eq_getElem hi];rfl
  have hh:=h i hi
  simp only [kX,kY,kZ,lc,ld,lg,lh,ko,ao,LT.out,allT,hw,h3,h4,h5,jL,(fun x v=>(QD hs x v).1),(fun x=>(QD hs x 0).2),hh,q9,cond_true,cond_false,Bool.not_true]
 ·have h3:ltI (st.length:Int) (st.length:Int)=false:=nA (by omega)
  simp only [kX,kY,kZ,lc,ld,lg,lh,ko,ao,LT.out,h3,cond_false]
def aiW(sz:al4)(r:RuE):Prop:=(1≤r.1.size∧r.1.size≤16)∧okN r.1=true∧Zw sz r.2.1=true∧Uq sz r.2.2 (-1)=true∧r.2.2.length≤4
theorem alv(sz st:al4)(rs:List RuE)(hs:afe sz)(hl:rs.length≤500)(h: ∀ r∈rs,aiW sz r):
  aN.fin ((0:Int),(rs.length:Int),rs,sz,st)=true∧aN.res ((0:Int),(rs.length:Int),rs,sz,st)=(1,((rs.length:Int),(rs.length:Int),rs,sz,st)):=by
 have key:=aN.iter (fun i=>((i:Int),(rs.length:Int),rs,sz,st)) 1 rs.length (by omega) (fun i hi=> ?_) ?_
 ·exact key
 ·have hw:IntKind.i64.wrap ((i:Int) + 1)=((i + 1:Nat):Int):=jv hi (by omega)
  have h3:ltI (i:Int) (rs.length:Int)=true:=cK (by omega)
  have h4:leI 0 (i:Int)=true:=cw (by omega)
  have h5:ltN i rs.length=true:=ip hi
  have hk:gX (i:Int) rs=rs[i]:=by
   unfold gX
   rw [q9,List.getElem?_eq_getElem hi];rfl
  obtain⟨r1,r2,r3,r4,r5⟩:=h _ (List.getElem_mem hi)
  obtain⟨k1,k2⟩:=ahF sz st rs rs[i].1 rs[i].2.1 rs[i].2.2 hs r1 r2 r3 r4 r5
  have g4:mw (i:Int) rs sz st=true:=by
   simp only [mw,gY,gZ,hO,hY,hk,Ea,k2,allT,cond_true]
  have g5:my (i:Int) rs sz st=false:=by
   simp only [my,gY,gZ,hO,hY,hk,DZ,k1,Bool.not_true]
  simp only [aN,qR,rQ,rR,rS,rT,rU,g4,g5,LT.out,allT,hw,h3,h4,h5,q9,cond_true,cond_false]
 ·have h3:ltI (rs.length:Int) (rs.length:Int)=false:=nA (by omega)
  simp only [gX,gY,gZ,hO,hY,rQ,rR,rS,rT,mw,my,rU,qR,aN,LT.out,h3,cond_false]
theorem agh(sz st:al4)(rs:List RuE)(hl:1≤sz.length∧sz.length≤16)(hz: ∀ y∈sz,1≤y∧y≤32)(RX:st.length=sz.length)(h: ∀ (i:Nat) (hi:i < st.length),Tf sz (i:Int) st[i]=true)
  (hr:rs.length≤200) (hrs: ∀ r∈rs,aiW sz r):xg sz st rs=true∧He sz st rs=true:=by
 have hs:afe sz:=⟨by omega,fun y hy=>by have:=hz y hy;omega⟩
 obtain⟨a1,a2⟩:=alz sz (by omega) hz
 obtain⟨b1,b2⟩:=aj5 sz st rs hs (by omega) h
 obtain⟨c1,c2⟩:=alv sz st rs hs (by omega) hrs
 have hln:aL sz=(sz.length:Int):=Sg sz (by omega)
 have g1:inR (sz.length:Int) 1 16=true:=sC.2 (by omega)
 have g2:((st.length:Int)!=(sz.length:Int))=false:=by simp [RX]
 have g3:leI (rs.length:Int) 200=true:=cw (by omega)
 simp only [Fg,Oi,xg,He,gM,qg,mB,sr,su,lI,lJ,mg,mh,rI,rJ,nC,tp,tq,
  bg,yS,hln,g1,g2,g3,a1,a2,b1,b2,c1,c2,allT,show Nat.beq 1 0=false from rfl,cond_true,cond_false,show leI 0 (-1)=false from rfl,Bool.not_false,Bool.not_true,w7,Bool.true_or,Bool.and_self,Bool.false_or,and_self]
theorem VZ(n d:Int)(ps:al4):(stM n d ps).length=ps.length + n.toNat + 1:=by simp [stM,stV] <;> omega
theorem agz(n d:Int)(s:Bool)(ps:al4)(h:isR n d ps=true):
  xg (szM ps.length n d.toNat) (stM n d ps) ((kL ps.length n.toNat d.toNat s).map (ruK ps.length n))=true∧He (szM ps.length n d.toNat) (stM n d ps) ((kL ps.length n.toNat d.toNat s).map (ruK ps.length n))=true:=by
 obtain⟨hT,hd⟩:=LO.1 h
 obtain⟨h1,h2,h3⟩:=gB.1 hT
 have hk:=Se (s:=s) h
 refine agh _ _ _ (by rw [Tv];omega) (fun y hy=> ?_) (by rw [Tv,VZ]) (fun i hi=> ?_) (by rw [List.length_map];omega) (fun r hr=> ?_)
 ·simp only [szM,stV,List.mem_append,List.mem_replicate,j8]at hy
  rcases hy with⟨_,rfl⟩ | ⟨_,rfl⟩ | rfl <;> omega
 ·rw [VZ]at hi
  by_cases c1:i < ps.length
  ·have e:(stM n d ps)[i]'(by rw [VZ];omega)=ps[i]:=by
    simp only [stM,stV];rw [List.getElem_append_left c1]
   rw [e]
   have:=h3 _ (List.getElem_mem c1)
   exact aae (by omega) (by omega)
  ·by_cases c2:i < ps.length + n.toNat
   ·obtain⟨j,rfl⟩: ∃ j,i=ps.length + j:=⟨i - ps.length,by omega⟩
    have e:(stM n d ps)[ps.length + j]'(by rw [VZ];omega)=0:=by
     have:=Tu (s:=(ps,j7 n.toNat (0:Int))) (k:=d) (i:=j) (by simp;omega)
     simp only [stM]
     rw [← Option.some_inj,← List.getElem?_eq_getElem]
     have gm:ps.length + j < (stV (ps,j7 n.toNat (0:Int)) d).length:=by simp [stV];omega
     rw [List.getElem?_eq_getElem gm]at this ⊢
     have hj:(j7 n.toNat (0:Int))[j]?.getD 0=0:=by cases hq:(j7 n.toNat (0:Int))[j]? with
      |none=>rfl
      |some y=>have:=List.mem_of_getElem? hq;simp [List.mem_replicate]at this;simp [this.2]
     rw [hj]at this
     simpa using this
    rw [e,show ((ps.length + j:Nat):Int)=(ps.length:Int) + (j:Int) by omega]
    exact Yj (by omega) (by omega)
   ·have hi2:i=ps.length + n.toNat:=by omega
    subst hi2
    have e:(stM n d ps)[ps.length + n.toNat]'(by rw [VZ];omega)=d:=by
     have:=Qd (s:=(ps,j7 n.toNat (0:Int))) (k:=d)
     simp only [w8]at this
     simp only [stM]
     have gm:ps.length + n.toNat < (stV (ps,j7 n.toNat (0:Int)) d).length:=by simp [stV]
     rw [List.getElem?_eq_getElem gm]at this
     simpa using this
    rw [e,show ((ps.length + n.toNat:Nat):Int)=(ps.length:Int) + n by omega]
    exact ab4 (by omega) (by omega)
 ·obtain⟨x,hx,rfl⟩:=List.mem_map.1 hr
  have hxk:=agl hx
  obtain⟨r1,r2,r3⟩:=aej (n:=n) (by omega:ps.length≤4) h1.1 hxk
  have hb:(0≤x.1∧x.1≤6)∧(0≤x.2.1∧x.2.1 < 10)∧(0≤x.2.2∧x.2.2 < 10):=by
   rcases hxk with⟨g1,g2,g3⟩ | ⟨g1,g2,g3⟩ <;> omega
  obtain⟨n1,n2,n3⟩:=ajB hb.1 hb.2.1 hb.2.2
  exact⟨⟨n2,n3⟩,n1,r1,r2,r3⟩
def inT(m:Nat)(g:al0):Prop:= ∀ t∈g,0≤t.1∧t.1 < m
def inA(m:Nat)(g:al3):Prop:= ∀ t∈g,0≤t.1∧t.1 < m
def fHo(v:al4)(t:Int×Int×Bool)(_:Unit):Nat ⊕ Unit:=bif !((v[t.1.toNat]?.getD 0==t.2.1)==t.2.2)then .inl 0 else .inr ()
theorem aj4(g:al0)(v:al4)(hg:g.length≤500)(h:inT v.length g):
  ap.fin ((0:Int),(g.length:Int),g,v)=true∧
  ap.res ((0:Int),(g.length:Int),g,v)=((fA (fHo v) 1 g 0 ()).1,(((fA (fHo v) 1 g 0 ()).2.1:Int),(g.length:Int),g,v)):=by
 have key:=ap.along (fun i (_:Unit)=>((i:Int),(g.length:Int),g,v)) (fun _=>()) (fHo v) 1 (fun _ _=>True) g () trivial (by simp [ap] <;> omega) (fun i b a hb _=> ?_) (fun a _=> ?_)
 ·exact key
 ·have hi:=(w9.1 hb).1
  have hw:=jv hi (by omega)
  have h3:ltI (i:Int) (g.length:Int)=true:=cK (by omega)
  have h4:leI 0 (i:Int)=true:=cw (by omega)
  have h5:ltN i g.length=true:=ip hi
  have jL: ∀ d,z8 g[i]? d=b:=fun d=>by rw [hb];rfl
  have hv:=h b (List.mem_of_getElem? hb)
  have g1:leI 0 b.1=true:=cw hv.1
  have g2:ltI b.1 (v.length:Int)=true:=cK hv.2
  have g3:ltN b.1.toNat v.length=true:=ip (by omega)
  refine⟨?_,?_,?_,fun _ _=>trivial⟩
  ·cases hq:(z8 v[b.1.toNat]? 0==b.2.1)==b.2.2 <;> simp only [cu,iv,iw,iy,iz,iA,iB,iC,gW,ap,Bq,Br,LT.nds,allT,hw,h3,h4,h5,jL,g1,g2,g3,hq,q9,cond_true,cond_false,Bool.not_true,Bool.not_false]
  ·simp only [cu,iv,iw,iy,iz,iA,iB,iC,gW,ap,LT.each,hw,true_and,and_true]
  ·simp only [cu,iv,iw,iy,iz,iA,iB,iC,gW,ap,Bq,Br,LT.fn,h3,jL,fHo,q9,cond_true]
 ·have h3:ltI (g.length:Int) (g.length:Int)=false:=nA (by omega)
  simp only [cu,iv,iw,iy,iz,iA,iB,iC,gW,ap,LT.out,h3,cond_false]
theorem ag7(v:al4)(g:al0):(g.any fun t=> !((v[t.1.toNat]?.getD 0==t.2.1)==t.2.2))= !hoB v g:=by
 induction g with
 |nil=>rfl
 |cons t g ih=>rw [List.any_cons,ih];simp only [hoB,List.all_cons];cases ((v[t.1.toNat]?.getD 0==t.2.1)==t.2.2) <;> simp
theorem aiy(v:al4)(g:al0)(hg:g.length≤500)(h:inT v.length g):HH v g=hoB v g∧OP v g=true:=by
 obtain⟨w1,w2⟩:=aj4 g v hg h
 have RX:=Ln (f:=fHo v) (P:=fun t=> !((v[t.1.toNat]?.getD 0==t.2.1)==t.2.2)) (e:=1) (j:=0) (a:=()) (fun b=>rfl) (r:=g) (i:=0)
 rw [ag7]at RX
 simp only [HH,OP,rM,rN,nE,tv,tw,w1,w2,RX,allT,cond_true,and_true]
 cases hoB v g with
 |true=>simp only [Bool.not_true,cond_false,show Nat.beq 1 0=false from rfl,show leI 0 (-1)=false from rfl,Bool.not_false]
 |false=>
  simp only [Bool.not_false,cond_true,show Nat.beq 0 0=true from rfl]
  rw [cw (by omega)];rfl
theorem abr: ∀ (es:al3) (v:al4),(apE v es).length=v.length
 | [],_=>rfl
 |e::es,v=>by
  simp only [apE,List.foldl_cons]
  have:=abr es (v.set e.1.toNat e.2)
  simp only [apE]at this
  rw [this,List.length_set]
theorem aey{es:al3}{i:Nat}(hi:i < es.length)(v:al4):apE v (es.take (i + 1))=(apE v (es.take i)).set es[i].1.toNat es[i].2:=by
 rw [List.take_add_one,List.getElem?_eq_getElem hi]
 simp only [apE,List.foldl_append]
 rfl
theorem ah6(es:al3)(v:al4)(he:es.length≤500)(hv:1≤v.length∧v.length≤500)(h:inA v.length es):
  im es v=apE v es∧io es v=true:=by
 have key:=bQ.iter (fun i=>((i:Int),(es.length:Int),es,apE v (es.take i))) 0 es.length (by omega) (fun i hi=> ?_) ?_
 ·simp only [show ((0:Nat):Int)=0 from rfl,List.take_zero,List.take_length,show apE v []=v from rfl]at key
  have g1:leN 1 v.length=true:=iJ hv.1
  have g2:leN v.length 1048576=true:=iJ (by omega)
  simp only [qH,im,io,key.1,key.2,g1,g2,allT,Bool.and_self,cond_true,and_self]
 ·have hw:IntKind.i64.wrap ((i:Int) + 1)=((i + 1:Nat):Int):=jv hi (by omega)
  have h3:ltI (i:Int) (es.length:Int)=true:=cK (by omega)
  have h4:leI 0 (i:Int)=true:=cw (by omega)
  have h5:ltN i es.length=true:=ip hi
  have jL: ∀ d,z8 es[i]? d=es[i]:=fun d=>by rw [List.getElem?_eq_getElem hi];rfl
  have hv2:=h _ (List.getElem_mem hi)
  have hl:=abr (es.take i) v
  have g1:leI 0 es[i].1=true:=cw hv2.1
  have g2:ltI es[i].1 (v.length:Int)=true:=cK hv2.2
  have g3:ltN es[i].1.toNat v.length=true:=ip (by omega)
  simp only [cH,pb,pc,pe,pf,pg,ph,pj,pk,pm,ov,bQ,LT.out,allT,hw,h3,h4,h5,jL,hl,g1,g2,g3,aey hi,q9,cond_true]
 ·have h3:ltI (es.length:Int) (es.length:Int)=false:=nA (by omega)
  simp only [cH,pb,pc,pe,pf,pg,ph,pj,pk,pm,ov,bQ,LT.out,h3,cond_false]
theorem akI{sz:al4}{g:al0}(h:Zw sz g=true):inT sz.length g∧g.length≤24:=by
 simp only [Zw,q8,uk,List.all_eq_true]at h
 exact⟨fun t ht=>(RW.1 (h.2 t ht)).1,h.1⟩
theorem aiR{sz:al4}: ∀ {es:al3} {p:Int},Uq sz es p=true→inA sz.length es
 | [],_,_=>fun t ht=>by cases ht
 |e::es,p,h=>fun t ht=>by
  simp only [Uq,q8]at h
  rcases List.mem_cons.1 ht with rfl | ht
  ·exact(RW.1 h.1.1).1
  ·exact aiR h.2 t ht
abbrev alE:=List Int×(Int×(Int×Int))
abbrev NdE:=alE×List Int
def hasV(L:List NdE)(v:al4):Bool:=L.any fun e=>e.1.1==v
def Ir(L:List NdE)(e:NdE):List NdE:=bif hasV L e.1.1 then L else L++ [e]
def nd0(st:al4):NdE:=((st,(-1,(0,0))),[])
theorem Zb{L:List NdE}{v:al4}:hasV L v=true↔v∈L.map fun e=>e.1.1:=by
 simp only [hasV,List.any_eq_true,beq_iff_eq,List.mem_map]
section
variable(E:al4→al4)(A:Int→al4→al4)
def mkN(p:NdE)(k:Nat)(r:Int):NdE:=((A r p.1.1,((k:Int),(r,p.1.2.2.2 + 1))),p.2++ [r])
def vN(p:NdE)(k:Nat)(rs:al4)(L:List NdE):List NdE:=rs.foldl (fun L r=>Ir L (mkN A p k r)) L
def Yg(L:List NdE)(k:Nat):List NdE:=match L[k]? with
 |some p=>vN A p k (E p.1.1) L
 |none=>L
def nM(st:al4):Nat→List NdE
 |0=> [nd0 st]
 |k + 1=>Yg E A (nM st k) k
structure SrOk (st:al4) (L:List NdE):Prop where
 fr: ∀ i e,L[i]? =some e→(i=0∧e=nd0 st)∨ ∃ j p r,j < i∧L[j]? =some p∧r∈E p.1.1∧e=mkN A p j r
 nd:(L.map fun e=>e.1.1).Nodup
 hd:L[0]? =some (nd0 st)
variable{E A}
theorem aew(L:List NdE)(e:NdE): ∃ t,Ir L e=L++t∧t.length≤1:=by
 unfold Ir
 cases hasV L e.1.1 with
 |true=>exact⟨[],by simp,by simp⟩
 |false=>exact⟨[e],rfl,by simp⟩
theorem agR{st:al4}{L:List NdE}{p:NdE}{k:Nat}{r:Int}(h:SrOk E A st L)(hp:L[k]? =some p)(hr:r∈E p.1.1):SrOk E A st (Ir L (mkN A p k r)):=by
 unfold Ir
 cases hh:hasV L (mkN A p k r).1.1 with
 |true=>exact h
 |false=>
  have hk:k < L.length:=(w9.1 hp).1
  have h0:0 < L.length:=by omega
  have hold: ∀ {j:Nat} {q:NdE},L[j]? =some q→(L++ [mkN A p k r])[j]? =some q:=fun {j q} hq=>by
   rw [List.getElem?_append_left (w9.1 hq).1];exact hq
  refine⟨fun i e he=> ?_,?_,?_⟩
  ·simp only [cond_false]at he
   rcases Nat.lt_or_ge i L.length with hi | hi
   ·rw [List.getElem?_append_left hi]at he
    rcases h.fr i e he with h1 | ⟨j,q,r',h1,h2,h3,h4⟩
    ·exact .inl h1
    ·exact .inr ⟨j,q,r',h1,hold h2,h3,h4⟩
   ·rw [List.getElem?_append_right hi]at he
    have:i - L.length=0:=by
     rcases Nat.eq_zero_or_pos (i - L.length)with h | h
     ·exact h
     ·rw [List.getElem?_eq_none (by simp;omega)]at he;cases he
    rw [this]at he
    simp only [List.getElem?_cons_zero,Option.some.injEq]at he
    exact .inr ⟨k,p,r,by omega,hold hp,hr,he.symm⟩
  ·simp only [cond_false,List.map_append,List.map_cons,List.map_nil]
   rw [List.nodup_append]
   refine⟨h.nd,by simp,fun a ha b hb hab=> ?_⟩
   simp only [j8]at hb
   subst hab
   rw [hb]at ha
   rw [Zb.2 ha]at hh;cases hh
  ·simp only [cond_false]
   exact hold h.hd
theorem abq{st:al4}{p:NdE}{k:Nat}: ∀ {rs:al4} {L:List NdE},(∀ r∈rs,r∈E p.1.1)→SrOk E A st L→L[k]? =some p→
  SrOk E A st (vN A p k rs L)∧(∃ t,vN A p k rs L=L++t∧t.length≤rs.length)∧(vN A p k rs L)[k]? =some p
 | [],L,_,h,hp=>⟨h,⟨[],by simp [vN],by simp⟩,hp⟩
 |r::rs,L,hr,h,hp=>by
  obtain⟨t,ht,hl⟩:=aew L (mkN A p k r)
  have h1:=agR h hp (hr r (by simp))
  have hk:k < L.length:=(w9.1 hp).1
  have hp1:(Ir L (mkN A p k r))[k]? =some p:=by rw [ht,List.getElem?_append_left hk];exact hp
  obtain⟨h2,⟨t2,ht2,hl2⟩,h3⟩:=abq (rs:=rs) (fun r' hr'=>hr r' (List.mem_cons_of_mem _ hr')) h1 hp1
  have he:vN A p k (r::rs) L=vN A p k rs (Ir L (mkN A p k r)):=rfl
  rw [he]
  refine⟨h2,⟨t++t2,?_,?_⟩,h3⟩
  ·rw [ht2,ht,List.append_assoc]
  ·rw [w3,w5];omega
theorem ajn{st:al4}{L:List NdE}{k:Nat}(h:SrOk E A st L):SrOk E A st (Yg E A L k)∧ ∃ t,Yg E A L k=L++t:=by
 unfold Yg
 cases hp:L[k]? with
 |none=>exact⟨h,[],by simp⟩
 |some p=>
  obtain⟨h1,⟨t,ht,_⟩,_⟩:=abq (fun _ h=>h) h hp
  exact⟨h1,t,ht⟩
theorem adQ(st:al4): ∀ k,SrOk E A st (nM E A st k)
 |0=>⟨fun i e he=>by
   cases i with
   |zero=>simp only [nM,List.getElem?_cons_zero,Option.some.injEq]at he;exact .inl ⟨rfl,he.symm⟩
   |succ i=>simp [nM]at he,by simp [nM],rfl⟩
 |k + 1=>(ajn (adQ st k)).1
theorem SrOk.ind{st:al4}{L:List NdE}(h:SrOk E A st L){Q:Nat→NdE→Prop}(h0:Q 0 (nd0 st))(hs: ∀ i j p r,j < i→L[j]? =some p→Q j p→r∈E p.1.1→L[i]? =some (mkN A p j r)→Q i (mkN A p j r)):
  ∀ i e,L[i]? =some e→Q i e:=by
 intro i
 induction i using Nat.strongRecOn with
 |ind i ih=>
  intro e he
  rcases h.fr i e he with⟨rfl,rfl⟩ | ⟨j,p,r,h1,h2,h3,rfl⟩
  ·exact h0
  ·exact hs i j p r h1 h2 (ih j h1 p h2) h3 he
variable(E A)
def Bn(st:al4)(k:Nat):Prop:=k < (nM E A st k).length∧(nM E A st (k + 1)).length≤4000
variable{E A}
theorem ajY(st:al4): ∃ K,K≤4000∧(∀ j,j < K→Bn E A st j)∧ ¬ Bn E A st K:=by
 have key: ∀ m,(∀ j,j < m→Bn E A st j)∨ ∃ K,K < m∧(∀ j,j < K→Bn E A st j)∧ ¬ Bn E A st K:=by
  intro m
  induction m with
  |zero=>exact .inl fun j hj=>by omega
  |succ m ih=>
   rcases ih with ih | ⟨K,h1,h2,h3⟩
   ·by_cases hg:Bn E A st m
    ·refine .inl fun j hj=> ?_
     rcases Nat.lt_or_ge j m with h | h
     ·exact ih j h
     ·rw [show j=m by omega];exact hg
    ·exact .inr ⟨m,by omega,ih,hg⟩
   ·exact .inr ⟨K,by omega,h2,h3⟩
 rcases key 4001 with h | ⟨K,h1,h2,h3⟩
 ·have a:=(h 4000 (by omega)).1
  have b:(nM E A st 4000).length≤4000:=(h 3999 (by omega)).2
  omega
 ·exact⟨K,by omega,h2,h3⟩
theorem afP{st:al4}{K k:Nat}(hg: ∀ j,j < K→Bn E A st j)(hk:k≤K):(nM E A st k).length≤4000:=by
 cases k with
 |zero=>simp [nM]
 |succ k=>exact(hg k (by omega)).2
def cmpL:al4→al4→Int
 |x::xs,y::ys=>bif ltI x y then -1 else bif ltI y x then 1 else cmpL xs ys
 |_,_=>0
theorem VO: ∀ {a b:al4},a.length=b.length→(cmpL a b=0↔a=b)
 | [],[],_=>by simp [cmpL]
 | [],_::_,h=>by simp at h
 |_::_,[],h=>by simp at h
 |x::xs,y::ys,h=>by
  simp only [w5,Nat.add_right_cancel_iff]at h
  simp only [cmpL]
  cases h1:ltI x y with
  |true=>have:=Eg.1 h1;simp;omega
  |false=>
   cases h2:ltI y x with
   |true=>have:=Eg.1 h2;simp;omega
   |false=>
    have h1:=Gf.1 h1;have h2:=Gf.1 h2
    simp only [cond_false,VO h,List.cons.injEq]
    constructor
    ·exact fun h=>⟨by omega,h⟩
    ·exact fun h=>h.2
theorem aeI: ∀ {a b:al4},a.length=b.length→(0 < cmpL a b→cmpL b a < 0)
 | [],[],_=>by simp [cmpL]
 | [],_::_,h=>by simp at h
 |_::_,[],h=>by simp at h
 |x::xs,y::ys,h=>by
  simp only [w5,Nat.add_right_cancel_iff]at h
  simp only [cmpL]
  cases h1:ltI x y with
  |true=>simp
  |false=>
   cases h2:ltI y x with
   |true=>simp
   |false=>simpa using aeI h
theorem Yc: ∀ {a b c:al4},a.length=b.length→b.length=c.length→cmpL a b < 0→cmpL b c < 0→cmpL a c < 0
 | [],[],_,_,_,h,_=>by simp [cmpL]at h
 | [],_::_,_,h,_,_,_=>by simp at h
 |_::_,[],_,h,_,_,_=>by simp at h
 |_::_,_::_,[],_,h,_,_=>by simp at h
 |x::xs,y::ys,z::zs,hl,hl',h,h'=>by
  simp only [w5,Nat.add_right_cancel_iff]at hl hl'
  simp only [cmpL]at h h' ⊢
  cases h1:ltI x y with
  |true=>
   have q1:=Eg.1 h1
   cases h2:ltI y z with
   |true=>have q2:=Eg.1 h2;rw [cK (by omega)];simp
   |false=>
    cases h3:ltI z y with
    |true=>rw [h2,h3]at h';simp at h'
    |false=>
     have q2:=Gf.1 h2;have q3:=Gf.1 h3
     rw [cK (by omega)];simp
  |false=>
   have q1:=Gf.1 h1
   cases h3:ltI y x with
   |true=>rw [h1,h3]at h;simp at h
   |false=>
    have q3:=Gf.1 h3
    have:x=y:=by omega
    subst this
    rw [h1]at h
    simp only [cond_false]at h
    cases h4:ltI x z with
    |true=>simp
    |false=>
     cases h5:ltI z x with
     |true=>rw [h4,h5]at h';simp at h'
     |false=>
      rw [h4,h5]at h'
      simp only [cond_false]at h' ⊢
      exact Yc hl hl' h h'
end
def srtL(m:Nat)(l:al2):Prop:=(∀ v∈l,v.length=m)∧l.Pairwise fun a b=>cmpL a b < 0
structure PlcL (l:al2) (v:al4) (r:Nat):Prop where
 le:r≤l.length
 lo: ∀ j (h:j < l.length),j < r→cmpL l[j] v < 0
 hi: ∀ j (h:j < l.length),r≤j→0≤cmpL l[j] v
theorem ael{m:Nat}{l:al2}(h:srtL m l){i j:Nat}(hi:i < j)(hj:j < l.length):cmpL l[i] l[j] < 0:=
 List.pairwise_iff_getElem.1 h.2 i j (by omega) hj hi
theorem ahl{m:Nat}{l:al2}{v:al4}{r:Nat}(hs:srtL m l)(hv:v.length=m)(h:PlcL l v r):(∃ hr:r < l.length,cmpL l[r] v=0)↔v∈l:=by
 constructor
 ·rintro⟨hr,hc⟩
  have:=(VO (by rw [hs.1 _ (List.getElem_mem hr),hv])).1 hc
  rw [← this];exact List.getElem_mem hr
 ·intro hm
  obtain⟨j,hj,rfl⟩:=List.mem_iff_getElem.1 hm
  have hz:cmpL l[j] l[j]=0:=(VO rfl).2 rfl
  have hrj:r≤j:=by
   rcases Nat.lt_or_ge j r with h1 | h1
   ·have:=h.lo j hj h1;omega
   ·exact h1
  rcases Nat.lt_or_ge r j with h1 | h1
  ·have a:=h.hi r (by omega) (Nat.le_refl _)
   have b:=ael hs h1 hj
   omega
  ·have:r=j:=by omega
   subst this
   exact⟨hj,hz⟩
theorem ajN{m:Nat}{l:al2}{v:al4}{r:Nat}(hs:srtL m l)(hv:v.length=m)(h:PlcL l v r)(hn:v∉l):srtL m (l.take r++ [v]++l.drop r):=by
 refine⟨fun w hw=> ?_,?_⟩
 ·simp only [List.mem_append,j8]at hw
  rcases hw with(hw | hw) | hw
  ·exact hs.1 w (List.mem_of_mem_take hw)
  ·rw [hw];exact hv
  ·exact hs.1 w (List.mem_of_mem_drop hw)
 ·rw [List.append_assoc,List.pairwise_append]
  refine⟨hs.2.sublist (List.take_sublist _ _),?_,fun a ha b hb=> ?_⟩
  ·rw [List.singleton_append,List.pairwise_cons]
   refine⟨fun b hb=> ?_,hs.2.sublist (List.drop_sublist _ _)⟩
   obtain⟨j,hj,rfl⟩:=List.mem_iff_getElem.1 hb
   rw [List.getElem_drop]
   rw [List.length_drop]at hj
   have gm:r + j < l.length:=by omega
   have h1:=h.hi (r + j) gm (by omega)
   have hl:l[r + j].length=v.length:=by rw [hs.1 _ (List.getElem_mem gm),hv]
   have h2:cmpL l[r + j] v≠0:=fun h0=>hn (by rw [← (VO hl).1 h0];exact List.getElem_mem gm)
   exact aeI hl (by omega)
  ·obtain⟨i,hi,rfl⟩:=List.mem_iff_getElem.1 ha
   rw [w4]at hi
   rw [List.getElem_take]
   have gm:i < l.length:=by omega
   have h1:cmpL l[i] v < 0:=h.lo i gm (by omega)
   rw [List.singleton_append,List.mem_cons]at hb
   rcases hb with rfl | hb
   ·exact h1
   ·obtain⟨j,hj,rfl⟩:=List.mem_iff_getElem.1 hb
    rw [List.getElem_drop]
    rw [List.length_drop]at hj
    exact ael hs (by omega) (by omega)
theorem ajt{l:al2}{v w:al4}(r:Nat):w∈l.take r++ [v]++l.drop r↔w∈l∨w=v:=by
 simp only [List.mem_append,j8]
 constructor
 ·rintro((h | h) | h)
  ·exact .inl (List.mem_of_mem_take h)
  ·exact .inr h
  ·exact .inl (List.mem_of_mem_drop h)
 ·rintro(h | h)
  ·rw [← List.take_append_drop r l,List.mem_append]at h
   rcases h with h | h
   ·exact .inl (.inl h)
   ·exact .inr h
  ·exact .inl (.inr h)
theorem ajW(s:al4×al4)(k:Int):(stV s k).length=s.1.length + s.2.length + 1:=by simp [stV];omega
theorem ahI(xs:al1)(hl:xs.length≤500):Ed xs xs=true∧Ee xs xs=true:=by
 have key:=jB.iter (fun i=>((i:Int),xs,xs)) 1 xs.length (by omega) (fun i hi=> ?_) ?_
 ·simp only [show ((0:Nat):Int)=0 from rfl]at key
  simp only [IC,ID,Ed,Ee,key.1,key.2,bne_self_eq_false,allT,show Nat.beq 1 0=false from rfl,cond_true,cond_false,Bool.false_or,and_self]
 ·have hw:IntKind.i64.wrap ((i:Int) + 1)=((i + 1:Nat):Int):=jv hi (by omega)
  have h3:ltI (i:Int) (xs.length:Int)=true:=cK (by omega)
  have h4:leI 0 (i:Int)=true:=cw (by omega)
  have h5:ltN i xs.length=true:=ip hi
  simp only [uM,uN,AA,AB,FI,FJ,FK,FL,FM,Eh,jB,LT.out,allT,hw,h3,h4,h5,beq_self_eq_true,q9,cond_true,cond_false,Bool.not_true]
 ·have h3:ltI (xs.length:Int) (xs.length:Int)=false:=nA (by omega)
  simp only [uM,uN,AA,AB,FI,FJ,FK,FL,FM,Eh,jB,LT.out,h3,cond_false]
section
variable (a b:Int)(c:al4)
def cV:Bool:=nxV 16 a b c==0
def oN:Int:=j6 .i64 ((2:Int) + nxV 2 (nxA 16 a c) (nxS 16 a b c) c)
def vK:Int:=nxA 2 (nxA 16 a c) c
def oO:Int:=nxA 3 (nxA (oN a b c) (vK a c) c) c
def JS:Int:=nxS 2 (nxA 16 a c) (nxS 16 a b c) c
def JT:Int:=nxS (oN a b c) (vK a c) (JS a b c) c
def JU:Int:=nxS 3 (nxA (oN a b c) (vK a c) c) (JT a b c) c
def gS:Bool:=ltI 0 (nxV 3 (oO a b c) (JU a b c) c)
def Fs:Int:=Hz (nxA 16 a c) (nxS 16 a b c) c
def JV:Int:=HA (nxA 16 a c) (nxS 16 a b c) c
def ui:Int:=nxA 2 (nxA 3 (oO a b c) c) c
def ze:Int:=nxS 3 (oO a b c) (JU a b c) c
def Ic:Int:=nxS 2 (nxA 3 (oO a b c) c) (ze a b c) c
def Ie:Int:=nxS 2 (ui a b c) (Ic a b c) c
def Dw:Int:=pkA (nxA 2 (ui a b c) c) [(0:Int),(1:Int),(1:Int),(2:Int)] c
def Ig:Int:=pkS (nxA 2 (ui a b c) c) (Ie a b c) [(0:Int),(1:Int),(1:Int),(2:Int)] c
def Dx:Int:=pkA (nxA 3 (oO a b c) c) [(0:Int),(1:Int),(1:Int),(2:Int)] c
def Ih:Int:=pkS (nxA 3 (oO a b c) c) (ze a b c) [(0:Int),(1:Int),(1:Int),(2:Int)] c
def Ng:Int:=nxV (oN a b c) (vK a c) (JS a b c) c
def Dy:al4:= [j6 .i64 (j6 .i64 ((3:Int) * Ng a b c) + nxV 3 (nxA (oN a b c) (vK a c) c) (JT a b c) c)]
def Ii:al4:= [j6 .i64 (j6 .i64 ((3:Int) * Int.tmod (j6 .i64 (j6 .i64 (Ng a b c + (1:Int)) + nxV 2 (nxA 3 (oO a b c) c) (ze a b c) c)) (oN a b c)) + nxV 2 (ui a b c) (Ic a b c) c)]
def Nh:Bool:=mE (nxA 16 a c) (nxS 16 a b c) c
def Ni:Bool:=mE (nxA 3 (oO a b c) c) (ze a b c) c
def PX:Int:=bif cV a b c then PP (nxA 16 a c) (nxS 16 a b c) c else bif gS a b c then oN a b c else oN a b c
def PY:Int:=bif cV a b c then pkV (Fs a b c) (JV a b c) [(0:Int),(1:Int),(-1:Int),(3:Int)] c else bif gS a b c then pkV (nxA 2 (ui a b c) c) (Ie a b c) [(0:Int),(1:Int),(1:Int),(2:Int)] c else pkV (nxA 3 (oO a b c) c) (ze a b c) [(0:Int),(1:Int),(1:Int),(2:Int)] c
def PZ:Bool:=bif cV a b c then false else bif gS a b c then nxV 2 (Dw a b c) (Ig a b c) c==0 else nxV 2 (Dx a b c) (Ih a b c) c==0
def Qa:Int:=bif cV a b c then pkA (Fs a b c) [(0:Int),(1:Int),(-1:Int),(3:Int)] c else bif gS a b c then nxA 2 (Dw a b c) c else nxA 2 (Dx a b c) c
def Qb:Int:=bif cV a b c then pkS (Fs a b c) (JV a b c) [(0:Int),(1:Int),(-1:Int),(3:Int)] c else bif gS a b c then nxS 2 (Dw a b c) (Ig a b c) c else nxS 2 (Dx a b c) (Ih a b c) c
def Qc:al4:=bif cV a b c then HB (nxA 16 a c) (nxS 16 a b c) c else bif gS a b c then Dy a b c++Ii a b c else Dy a b c
def Mr:Bool:=allT [mE a b c,!cV a b c||Nh a b c,!cV a b c||mE (Fs a b c) (JV a b c) c&&leN 1 (z7 [(0:Int),(1:Int),(-1:Int),(3:Int)]),cV a b c||Nh a b c,cV a b c||mE (vK a c) (JS a b c) c,cV a b c||mE (nxA (oN a b c) (vK a c) c) (JT a b c) c,cV a b c||mE (oO a b c) (JU a b c) c,cV a b c||(!gS a b c||Ni a b c),cV a b c||(!gS a b c||neI (oN a b c) 0),cV a b c||(!gS a b c||mE (ui a b c) (Ic a b c) c),cV a b c||(!gS a b c||leN (z7 (Dy a b c) + z7 (Ii a b c)) 9223372036854775807),cV a b c||(!gS a b c||leN ((z7 (Dy a b c) + z7 (Ii a b c)) * 8) 140737488355328),cV a b c||(!gS a b c||mE (nxA 2 (ui a b c) c) (Ie a b c) c&&leN 1 (z7 [(0:Int),(1:Int),(1:Int),(2:Int)])),cV a b c||(!gS a b c||mE (Dw a b c) (Ig a b c) c),cV a b c||(gS a b c||Ni a b c&&leN 1 (z7 [(0:Int),(1:Int),(1:Int),(2:Int)])),cV a b c||(gS a b c||mE (Dx a b c) (Ih a b c) c)]
end
def UC:al6
 | [.one ⟨false,[.ptr 0 0]⟩],[.box 53 [.ref 1,.val (.int .i64 a),.val (.int .i64 b)],.row false 5 (.int .u8) c]=>some ⟨.tup [⟨true,[al7 (PX a b c),.ref 2]⟩,⟨false,[al7 (PY a b c)]⟩,⟨false,[.val (.bool (PZ a b c))]⟩],[.box 53 [.ref 1,al7 (Qa a b c),al7 (Qb a b c)],ami c],[amb (Qc a b c)],[Mr a b c]⟩
 |_,_=>none
def PD:PF prog:=PF.ofG prog (T3z [uS,uT,Pu]) [] aS 10 f10 func10 (fun c _=>LOk.nil c) UC (by
 intro _ _ _ h;unfold UC at h;split at h<;>cases h;kernel_rfl)
section
variable (a b c d:Int)(e:al4)
def sg:Int:=j6 .i64 ((3:Int) * d)
def wG:al0:= [(c,j6 .i64 (sg d + b),true)]
def oS:Int:=Int.tmod (j6 .i64 (d + (1:Int))) a
def wH:Int:=j6 .i64 ((↑e.length:Int) + oS a d)
def si:al0:= [(wH a d e,(2:Int),false),(wH a d e,(3:Int),false)]
def wI:al0:=si a d e++Dz a c d (oS a d) e
def wJ:al0:= [(c,j6 .i64 (sg d + (1:Int)),true)]
def sj:al0:= [(wH a d e,(3:Int),true)]
def zf:Int:=j6 .i64 (sg d + (2:Int))
def wK:al0:= [(c,bif b==3 then zf d else j6 .i64 (sg d + b),true)]
def xX:Int:=j6 .i64 (j6 .i64 (sg d + b) + (1:Int))
def yf:al5:=bif b==1 then DB b c d else bif b==2 then DB b c d else DB b c d
def yg:agb:=bif b==1 then wG b c d++wI a c d e else bif b==2 then wJ c d++sj a d e else wK b c d++ []
def yh:al3:=bif b==1 then [(c,xX b d)]else bif b==2 then [(c,zf d)]else [(c,bif b==3 then j6 .i64 ((3:Int) * oS a d)else xX b d)]
def vL:Bool:=allT [neI a 0,!b==1||leN (0 + z7 (si a d e)) 9223372036854775807,!b==1||leN ((0 + z7 (si a d e)) * 24) 140737488355328,!b==1||Mt a c d (oS a d) e,!b==1||leN (z7 (si a d e) + z7 (Dz a c d (oS a d) e)) 9223372036854775807,!b==1||leN ((z7 (si a d e) + z7 (Dz a c d (oS a d) e)) * 24) 140737488355328,b==1||(!b==2||leN (0 + z7 (sj a d e)) 9223372036854775807),b==1||(!b==2||leN ((0 + z7 (sj a d e)) * 24) 140737488355328),!b==1||leN (z7 (wG b c d) + z7 (wI a c d e)) 9223372036854775807,!b==1||leN ((z7 (wG b c d) + z7 (wI a c d e)) * 24) 140737488355328,!b==1||Av b c d,b==1||(!b==2||leN (z7 (wJ c d) + z7 (sj a d e)) 9223372036854775807),b==1||(!b==2||leN ((z7 (wJ c d) + z7 (sj a d e)) * 24) 140737488355328),b==1||(!b==2||Av b c d),b==1||(b==2||leN (z7 (wK b c d) + 0) 9223372036854775807),b==1||(b==2||leN ((z7 (wK b c d) + 0) * 24) 140737488355328),b==1||(b==2||Av b c d)]
end
def TK:al6
 | [.one ⟨true,[.val (.int .i64 a),.ref 0]⟩,.one ⟨false,[.val (.int .i64 b)]⟩,.one ⟨false,[.val (.int .i64 c)]⟩,.one ⟨false,[.val (.int .i64 d)]⟩],[.row false 2 (.int .i64) e]=>some ⟨.one ⟨true,[.val (.string (yf b c d)),.ref 1,.ref 2]⟩,[ama e],[amq (yg a b c d e),.row true 129 aes (yh a b c d)],[vL a b c d e]⟩
 |_,_=>none
def mU:PF prog:=PF.ofG prog (T3z [PE,VF]) [] aS 81 f81 func81 (fun c _=>LOk.nil c) TK (by
 intro _ _ _ h;unfold TK at h;split at h<;>cases h;kernel_rfl)
section
variable (a b c d:Int)(e:al4)
def Nj:Int:=j6 .i64 ((↑e.length:Int) + c)
def Nk:Int:=j6 .i64 ((↑e.length:Int) + a)
def JW:al5:=DB b c d
def JX:agb:= [(Nj c e,bif b==5 then(0:Int)else bif b==6 then(1:Int)else(0:Int),true),(Nk a e,d,true)]
def JY:al3:= [(Nj c e,bif b==5 then(2:Int)else bif b==6 then(3:Int)else(1:Int)),(Nk a e,j6 .i64 (d - (1:Int)))]
def Ft:Bool:=allT [Av b c d]
end
def TH:al6
 | [.one ⟨true,[.val (.int .i64 a),.ref 0]⟩,.one ⟨false,[.val (.int .i64 b)]⟩,.one ⟨false,[.val (.int .i64 c)]⟩,.one ⟨false,[.val (.int .i64 d)]⟩],[.row false 2 (.int .i64) e]=>some ⟨.one ⟨true,[.val (.string (JW b c d)),.ref 1,.ref 2]⟩,[ama e],[amq (JX a b c d e),.row true 129 aes (JY a b c d e)],[Ft b c d]⟩
 |_,_=>none
def mS:PF prog:=PF.ofG prog [VF] [] aS 82 f82 func82 (fun c _=>LOk.nil c) TH (by
 intro _ _ _ h;unfold TH at h;split at h<;>cases h;kernel_rfl)
abbrev qA:=Int×Int×List Int×List Int
section
variable (a b:Int)(c d:al4)
def yM:al4:= [j6 .i64 ((3:Int) * b)]
def KM:Bool:=ltI a (↑d.length:Int)
def KN:Bool:=leN (z7 c + z7 (yM b)) 9223372036854775807
def KO:Bool:=leN ((z7 c + z7 (yM b)) * 8) 140737488355328
def KP:Int:=j6 .i64 (a + (1:Int))
def KQ:al4:=c++yM b
end
def Wx:qA→List (Nat×SV)
 |(a,_,_,_)=> [(9,(al9 a)),(3,(al8 (.ptr 0 0))),(7,(al8 (.ref 1)))]
def Wk:qA→List (Nat×Entry)
 |(_,a,b,c)=> [(0,(.box 26 [al7 a,.ref 2])),(2,(ama c)),(1,(amb b))]
def WX:Nat→qA→List (Nat×SV)
 |_,(_,_,_,_)=> [(7,(al8 (.ref 1)))]
def WK:Nat→qA→List (Nat×Entry)
 |_,(_,a,b,c)=> [(0,(.box 26 [al7 a,.ref 2])),(1,(amb b)),(2,(ama c))]
def IG:qA→LT qA
 |(a,b,c,d)=> .ite (KM a d) (.need [KN b c,KO b c] (.nrm ((KP a),b,KQ b c,d) [(0,0),(1,704),(2,2)])) (.ext 0 [(0,0),(1,1),(2,2)])
def Je(s:St):Option qA:=do
 let some ⟨none,.one ⟨false,[.val (.int .i64 a)]⟩⟩:=s.look 9|none
 let some ⟨none,.one ⟨false,[.ptr 128 0]⟩⟩:=s.look 3|none
 let some ⟨none,.one ⟨false,[.ref 256]⟩⟩:=s.look 7|none
 let some (.box 26 [.val (.int .i64 b),.ref 0]):=s.ent 128|none
 let some (.row false 2 (.int .i64) d):=s.ent 0|none
 let some (.row true 2 (.int .i64) c):=s.ent 256|none
 some (a,b,c,d)
def lp:Lp qA where
 h:=⟨[18,19,20,21,22,25,26,27,28,29,30,7,23,24,9],[0,2],[1],[]⟩
 JL:=Wx
 JE:=Wk
 XL:=WX
 XE:=WK
 q:=fun j=>match j with | _=> .exit 0
 tags:= [0]
 lt:=IG
 fuel:=fun(a,b,c,d)=>a.natAbs + b.natAbs + c.length + d.length
 fix:=fun(_,b,_,d) (a,_,c,_)=>(a,b,c,d)
 σ:= [(0,128),(2,0),(1,256)]
 rd:=Je
theorem Un:LoopOk prog (fun k=>Nat.blt k Tryz.f55.ntmps) lp.F (aI f55 0):=by
 refine Lp.ok (tbl:= (T3z [eB,aF,mU,mS])) (lf:= []) aS lp (by kernel_rfl) (LOk.nil _) (fun _=>rfl) (fun _ _=>rfl) ?_ ?_ ?_ ?_ (fun _=>rfl) ?_
 ·intro _;kernel_rfl
 ·intro _;kernel_rfl
 ·intro s x h
  have h:Je s=some x:=h
  unfold Je at h
  repeat' split at h
  all_goals cases h
  constructor<;>repeat(first|refine aa ‹_› rfl ?_|refine ab rfl ‹_› rfl ?_|rfl)
 ·intro _;kernel_rfl
 ·intro _ _;exact(And.intro rfl trivial)
abbrev qB:=Int×Int×List Int×List Int×List Int
section
variable (a b:Int)(c d:al4)
def KR:Bool:=ltI a b
def KS:Bool:=leN (z7 c + z7 [(4:Int)]) (9223372036854775807:Nat)
def KT:Bool:=leN ((z7 c + z7 [(4:Int)]) * (8:Nat)) 140737488355328
def KU:Bool:=leN (z7 d + z7 [(0:Int)]) (9223372036854775807:Nat)
def KV:Bool:=leN ((z7 d + z7 [(0:Int)]) * (8:Nat)) 140737488355328
def KW:Int:=j6 .i64 (a + (1:Int))
def KX:al4:=c++ [(4:Int)]
def KY:al4:=d++ [(0:Int)]
end
def Wy:qB→List (Nat×SV)
 |(a,_,_,_,_)=> [(10,(al9 a)),(3,(al8 (.ptr 0 0))),(7,(al8 (.ref 1))),(8,(al8 (.ref 2)))]
def Wl:qB→List (Nat×Entry)
 |(_,a,b,c,d)=> [(0,(.box 26 [al7 a,.ref 3])),(3,(ama d)),(1,(amb b)),(2,(amb c))]
def WY:Nat→qB→List (Nat×SV)
 |_,(_,_,_,_,_)=> [(7,(al8 (.ref 1))),(8,(al8 (.ref 2)))]
def WL:Nat→qB→List (Nat×Entry)
 |_,(_,a,b,c,d)=> [(0,(.box 26 [al7 a,.ref 3])),(1,(amb b)),(2,(amb c)),(3,(ama d))]
def IH:qB→LT qB
 |(a,b,c,d,e)=> .ite (KR a b) (.need [KS c,KT c] (.need [KU d,KV d] (.nrm ((KW a),b,KX c,KY d,e) [(0,0),(1,448),(2,704),(3,3)]))) (.ext 0 [(0,0),(1,1),(2,2),(3,3)])
def Jf(s:St):Option qB:=do
 let some ⟨none,.one ⟨false,[.val (.int .i64 a)]⟩⟩:=s.look 10|none
 let some ⟨none,.one ⟨false,[.ptr 128 0]⟩⟩:=s.look 3|none
 let some ⟨none,.one ⟨false,[.ref 704]⟩⟩:=s.look 7|none
 let some ⟨none,.one ⟨false,[.ref 448]⟩⟩:=s.look 8|none
 let some (.box 26 [.val (.int .i64 b),.ref 0]):=s.ent 128|none
 let some (.row false 2 (.int .i64) e):=s.ent 0|none
 let some (.row true 2 (.int .i64) c):=s.ent 704|none
 let some (.row true 2 (.int .i64) d):=s.ent 448|none
 some (a,b,c,d,e)
def lq:Lp qB where
 h:=⟨[31,32,33,34,37,38,39,7,40,41,42,8,35,36,10],[0,3],[1,2],[]⟩
 JL:=Wy
 JE:=Wl
 XL:=WY
 XE:=WL
 q:=fun j=>match j with | _=> .exit 2
 tags:= [0]
 lt:=IH
 fuel:=fun(a,b,c,d,e)=>a.natAbs + b.natAbs + c.length + d.length + e.length
 fix:=fun(_,b,_,_,e) (a,_,c,d,_)=>(a,b,c,d,e)
 σ:= [(0,128),(3,0),(1,704),(2,448)]
 rd:=Jf
theorem Uo:LoopOk prog (fun k=>Nat.blt k Tryz.f55.ntmps) lq.F (aI f55 1):=by
 refine Lp.ok (tbl:= (T3z [eB,aF,mU,mS])) (lf:= []) aS lq (by kernel_rfl) (LOk.nil _) (fun _=>rfl) (fun _ _=>rfl) ?_ ?_ ?_ ?_ (fun _=>rfl) ?_
 ·intro _;kernel_rfl
 ·intro _;kernel_rfl
 ·intro s x h
  have h:Jf s=some x:=h
  unfold Jf at h
  repeat' split at h
  all_goals cases h
  constructor<;>repeat(first|refine aa ‹_› rfl ?_|refine ab rfl ‹_› rfl ?_|rfl)
 ·intro _;kernel_rfl
 ·intro _ _;exact(And.intro rfl trivial)
abbrev qC:=Int×List (Int×(Int×Int))×List (al5×((List (Int×(Int×Bool)))×(List (Int×Int))))×Int×List Int
section
variable (a:Int)(b:ag5)(c:aer)(d:Int)(e:al4)
def aH:Int×Int×Int:=z8 b[z6 a]? ((0:Int),(0:Int),(0:Int))
def da:Bool:=leI ((aH a b).1) 3
def vp:aeT:= [(yf ((aH a b).1) (((aH a b).2).1) ((aH a b).2.2),yg d ((aH a b).1) (((aH a b).2).1) ((aH a b).2.2) e,yh d ((aH a b).1) (((aH a b).2).1) ((aH a b).2.2))]
def vq:aeT:= [(JW ((aH a b).1) (((aH a b).2).1) ((aH a b).2.2),JX d ((aH a b).1) (((aH a b).2).1) ((aH a b).2.2) e,JY d ((aH a b).1) (((aH a b).2).1) ((aH a b).2.2) e)]
def Au:Bool:=ltI a (↑b.length:Int)
def Ep:Bool:=leI 0 a
def Er:Bool:=ltN a.toNat b.length
def wC:Bool:= !da a b||leI 0 a
def wD:Bool:= !da a b||ltI a (↑b.length:Int)
def wE:Bool:= !da a b||ltN a.toNat b.length
def Es:Bool:= !da a b||vL d ((aH a b).1) (((aH a b).2).1) ((aH a b).2.2) e
def Et:Bool:= !da a b||leN (z7 c + z7 (vp a b d e)) 9223372036854775807
def Eu:Bool:= !da a b||leN ((z7 c + z7 (vp a b d e)) * 64) 140737488355328
def wF:Bool:=da a b||leI 0 a
def vn:Bool:=da a b||ltI a (↑b.length:Int)
def vo:Bool:=da a b||ltN a.toNat b.length
def CH:Bool:=da a b||Ft ((aH a b).1) (((aH a b).2).1) ((aH a b).2.2)
def CI:Bool:=da a b||leN (z7 c + z7 (vq a b d e)) 9223372036854775807
def CJ:Bool:=da a b||leN ((z7 c + z7 (vq a b d e)) * 64) 140737488355328
def CL:Int:=j6 .i64 (a + (1:Int))
def CM:aer:=bif da a b then c++vp a b d e else c++vq a b d e
end
def Wz:qC→List (Nat×SV)
 |(a,_,_,_,_)=> [(13,(al9 a)),(12,(al8 (.ref 0))),(11,(al8 (.ref 1))),(3,(al8 (.ptr 2 0)))]
def Wm:qC→List (Nat×Entry)
 |(_,a,b,c,d)=> [(0,(amh a)),(2,(.box 26 [al7 c,.ref 3])),(3,(ama d)),(1,(amm b))]
def WZ:Nat→qC→List (Nat×SV)
 |_,(_,_,_,_,_)=> [(11,(al8 (.ref 1)))]
def WM:Nat→qC→List (Nat×Entry)
 |_,(_,a,b,c,d)=> [(0,(amh a)),(1,(amm b)),(2,(.box 26 [al7 c,.ref 3])),(3,(ama d))]
def CF:qC→LT qC
 |(a,b,c,d,e)=> .ite (Au a b) (.need [Ep a,Au a b,Er a b] (.need [wC a b,wD a b,wE a b,wC a b,wD a b,wE a b,wC a b,wD a b,wE a b,Es a b d e,Et a b c d e,Eu a b c d e,wF a b,vn a b,vo a b,wF a b,vn a b,vo a b,wF a b,vn a b,vo a b,CH a b,CI a b c d e,CJ a b c d e] (.nrm ((CL a),b,CM a b c d e,d,e) [(0,0),(1,1920),(2,2),(3,3)]))) (.ext 0 [(0,0),(1,1),(2,2),(3,3)])
def Jg(s:St):Option qC:=do
 let some ⟨none,.one ⟨false,[.val (.int .i64 a)]⟩⟩:=s.look 13|none
 let some ⟨none,.one ⟨false,[.ref 1216]⟩⟩:=s.look 12|none
 let some ⟨none,.one ⟨false,[.ref 896]⟩⟩:=s.look 11|none
 let some ⟨none,.one ⟨false,[.ptr 128 0]⟩⟩:=s.look 3|none
 let some (.row true 85 (.pair (.int .i64) (.pair (.int .i64) (.int .i64))) b):=s.ent 1216|none
 let some (.box 26 [.val (.int .i64 d),.ref 0]):=s.ent 128|none
 let some (.row false 2 (.int .i64) e):=s.ent 0|none
 let some (.row true 70 (.pair .str (.pair (.sl 125 (.pair (.int .i64) (.pair (.int .i64) .bool))) (.sl 129 (.pair (.int .i64) (.int .i64))))) c):=s.ent 896|none
 some (a,b,c,d,e)
def jl:Lp qC where
 h:=⟨[48,49,50,51,54,55,56,57,58,59,60,61,62,63,64,65,66,67,68,69,70,71,72,73,74,75,76,77,78,79,11,80,81,82,83,84,85,86,87,88,89,90,91,92,93,94,95,96,97,98,99,52,53,13],[0,2,3],[1],[]⟩
 JL:=Wz
 JE:=Wm
 XL:=WZ
 XE:=WM
 q:=fun j=>match j with | _=> .exit 4
 tags:= [0]
 lt:=CF
 fuel:=fun(a,b,c,d,e)=>a.natAbs + b.length + c.length + d.natAbs + e.length
 fix:=fun(_,b,_,d,e) (a,_,c,_,_)=>(a,b,c,d,e)
 σ:= [(0,1216),(2,128),(3,0),(1,896)]
 rd:=Jg
theorem Up:LoopOk prog (fun k=>Nat.blt k Tryz.f55.ntmps) jl.F (aI f55 2):=by
 refine Lp.ok (tbl:= (T3z [eB,aF,mU,mS])) (lf:= []) aS jl (by kernel_rfl) (LOk.nil _) (fun _=>rfl) (fun _ _=>rfl) ?_ ?_ ?_ ?_ (fun _=>rfl) ?_
 ·intro _;kernel_rfl
 ·intro _;kernel_rfl
 ·intro s x h
  have h:Jg s=some x:=h
  unfold Jg at h
  repeat' split at h
  all_goals cases h
  constructor<;>repeat(first|refine aa ‹_› rfl ?_|refine ab rfl ‹_› rfl ?_|rfl)
 ·intro _;kernel_rfl
 ·intro _ _;exact(And.intro rfl trivial)
section
variable (a b:Int)(c:Bool)(d:al4)
def Np:Int×Int×al4×al4:=((0:Int),a,[],d)
def Nq:Int×Int×al4×al4×al4:=((0:Int),a,((Lp.res lp (Np a d)).2.2.2).1,d,d)
def DA:al4×al4×al4:=(Lp.res lq (Nq a d)).2.2.2
def Ij:al4:= [j6 .i64 (b + (1:Int))]
def Ik:al4:=((DA a d).2).1
def Nr:Int×al1×aeT×Int×al4:=((0:Int),kL d.length a.toNat b.toNat c,[],a,d)
def ri:al4:=(DA a d).1++Ij b
def rj:al4:=Ik a d++ [b]
def rk:aer:=((Lp.res jl (Nr a b c d)).2.2.2).1
def Fu:Bool:=allT [leN d.length (1048576:Nat),Lp.fin lp (Np a d),Lp.fin lq (Nq a d),isR a b d,Lp.fin jl (Nr a b c d),leN (z7 ((DA a d).1) + z7 (Ij b)) 9223372036854775807,leN ((z7 ((DA a d).1) + z7 (Ij b)) * 8) 140737488355328,leN (z7 (Ik a d) + z7 [b]) (9223372036854775807:Nat),leN ((z7 (Ik a d) + z7 [b]) * (8:Nat)) (140737488355328:Nat)]
end
def TJ:al6
 | [.one ⟨true,[.val (.int .i64 a),.ref 0]⟩,.one ⟨false,[.val (.int .i64 b)]⟩,.one ⟨false,[.val (.bool c)]⟩],[.row false 2 (.int .i64) d]=>some ⟨.one ⟨true,[.ref 1,.ref 2,.ref 3]⟩,[ama d],[amb (ri a b d),amb (rj a b d),amm (rk a b c d)],[Fu a b c d]⟩
 |_,_=>none
def mT:PF prog:=PF.ofG prog (T3z [eB,aF,mU,mS]) [lp.F,lq.F,jl.F] aS 55 f55 func55 (LOk.fnT (l:= [aI f55 0,aI f55 1,aI f55 2]) (by kernel_rfl) (.cons Un (.cons Uo (.cons Up (.nil _))))) TJ (by
 intro _ _ _ h;unfold TJ at h;split at h<;>cases h;kernel_rfl)
set_option maxHeartbeats 4000000
theorem S1:(∀ b:Bool,(b||false)=b)∧((false=true)=False)∧(∀ a b:Bool,((a&&b)=true)=(a=true∧b=true))∧(∀ a b:Int,(ltI a b=true)=(a < b))∧(∀ a b:Int,(leI a b=true)=(a≤b))∧(∀ a b:Int,(ltI a b=false)=(b≤a))∧(∀ a b:Int,(leI a b=false)=(b < a)):=by and_intros <;> intros <;> simp
theorem S2:(∀ (α:Type) (a b:List α),(a++b).length=a.length + b.length)∧(∀ (α:Type) (a:α) (l:List α),(a::l).length=l.length + 1)∧(∀ α:Type,([]:List α).length=0):=by and_intros <;> intros <;> simp
theorem afJ{b:Bool}{l:List Bool}:allT (b::l)=true↔b=true∧allT l=true:=by cases b <;> simp [allT]
theorem afK:allT []=true↔True:=by simp [allT]
theorem akT{t:Bool}{a a' s s':Int}{c:al4}(h:mE a s c=true)(h':mE a' s' c=true):mE (bif t then a else a') (bif t then s else s') c=true:=by cases t <;> assumption
theorem akD{α:Type}{t:Bool}{l l':List α}{n:Nat}(h:l.length≤n)(h':l'.length≤n):(bif t then l else l').length≤n:=by cases t <;> assumption
def LT.ok{X:Type}(J:X→Prop)(Q:Nat→Prop):LT X→Prop
 | .nrm x _=>J x
 | .ext j _=>Q j
 | .need nd t=>allT nd=true∧t.ok J Q
 | .ite b t e=>(b=true→t.ok J Q)∧(b=false→e.ok J Q)
theorem ZM(a s:Int)(c:al4)(h:mE a s c=true):Mr a s c=true∧mE (Qa a s c) (Qb a s c) c=true:=by
 have s1:=VK (n:=16) h
 obtain⟨l1,l2,l3⟩:=ab9 (nxA 16 a c) (nxS 16 a s c) c s1
 have n1:=ahf (n:=2) s1 (by omega)
 have Oc:neI (IntKind.i64.wrap (2 + nxV 2 (nxA 16 a c) (nxS 16 a s c) c)) 0=true:=aaZ (by rw [aB (by omega) (by omega)];omega)
 refine⟨?_,?_⟩
 all_goals simp only [cV,oN,vK,oO,JS,JT,JU,gS,Fs,JV,ui,ze,Ic,Ie,Dw,Ig,Dx,Ih,Ng,Dy,Ii,Nh,Ni,PX,PY,PZ,Qa,Qb,Qc,Mr,afJ,afK,and_true,Bool.or_eq_true,q8]
 all_goals repeat' refine And.intro ?_ ?_
 all_goals first
   |omega
   |(repeat (first | assumption | apply VK | apply agH | apply akT | refine Or.inr ?_ | refine And.intro ?_ ?_ | exact trivial | exact agn _ _ | rfl)
     done)
   |((repeat refine Or.inr ?_)
     exact iJ (by first | omega | (simp only [S2];omega)))
   |(simp only [S2]
     omega)
   |(repeat' apply akD
     all_goals first | omega | (simp only [S2];omega))
   |(try simp only [S1]at *
     rw [aB (by omega) (by omega)]
     first | omega | (simp only [S2];omega))
   |(simp only [S1]at *
     first | omega | (exfalso;omega))
   |(exfalso;simp_all;done)
theorem aiQ{k a b:Int}(hk:0≤k∧k≤6)(ha:0≤a∧a≤100)(hb:0≤b∧b≤100):Av k a b=true:=by
 have a2:=Ti ha.1 (by omega:a≤9223372036854775807)
 have b2:=Ti hb.1 (by omega:b≤9223372036854775807)
 have h5:(ByteArray.mk #[95]).size=1:=rfl
 have hs:(Ov k).size≤8:=by
  have hc:k=0∨k=1∨k=2∨k=3∨k=4∨k=5∨k=6:=by omega
  rcases hc with rfl | rfl | rfl | rfl | rfl | rfl | rfl <;> decide
 have s1:(Bi k).size≤9:=by rw [Bi,ByteArray.size_append,h5];omega
 have s2:(Bi k++Ge a).size≤30:=by rw [ByteArray.size_append];omega
 have s3:(Ka k a).size≤31:=by rw [Ka,ByteArray.size_append,h5];omega
 simp only [Av,afJ,afK,and_true]
 and_intros
 all_goals first
  |exact cw (by omega)
  |exact cK (by simp only [w5,w6];omega)
  |exact ip (by simp only [w5,w6];omega)
  |exact iJ (by omega)
  |rfl
  |(simp only [q8,HM,Eg,uk];omega)
def nmS(x:Int×Int×Int):al5:=DB x.1 x.2.1 x.2.2
def ruS(T:Nat)(n:Int)(x:Int×Int×Int):RuE:=(nmS x,gK T n x,eK T n x)
theorem akX(a b c n:Int)(ps:al4)(hp:ps.length≤4)(hb:0≤b∧b≤8)(hc:0≤c∧c≤8):
  iI.fin ((0:Int),a,b,c,n,[],ps)=true∧iI.res ((0:Int),a,b,c,n,[],ps)=(0,((ps.length:Int),a,b,c,n,Zx ps.length a b c,ps)):=by
 have key:=iI.gath (fun k l=>((k:Int),a,b,c,n,l,ps)) (fun x=>x.2.2.2.2.2.1) (fun(o:Nat)=>bif(o:Int)==a then []else oth b c (o:Int)) 0 ps.length 4 [] (by omega)
  (fun o _=>by cases (o:Int)==a <;> simp [oth]) (fun o l ho hL=> ?_) (fun l=> ?_)
 ·exact key
 ·simp only [w6]at hL
  have hw:IntKind.i64.wrap ((o:Int) + 1)=((o + 1:Nat):Int):=jv ho (by omega)
  have h3:ltI (o:Int) (ps.length:Int)=true:=cK (by omega)
  have q1:IntKind.i64.wrap (3 * b)=3 * b:=aB (by omega) (by omega)
  have q2:IntKind.i64.wrap (3 * b + 2)=3 * b + 2:=aB (by omega) (by omega)
  have q3:IntKind.i64.wrap (3 * c)=3 * c:=aB (by omega) (by omega)
  have q4:IntKind.i64.wrap (3 * c + 1)=3 * c + 1:=aB (by omega) (by omega)
  have q5:IntKind.i64.wrap (3 * c + 2)=3 * c + 2:=aB (by omega) (by omega)
  have l1:=FN (b:=4) (show l.length≤23 by omega) (by decide) (by decide)
  have l2:=Sf (b:=4) (show l.length≤23 by omega) (by decide) (by decide)
  refine⟨?_,?_,?_⟩
  ·cases ho2:(o:Int)==a <;> simp [tJ,tK,BI,BJ,xW,BK,BL,BM,zP,iI,LT.nds,allT,h3,ho2,l1,l2]
  ·cases ho2:(o:Int)==a <;> simp [tJ,tK,BI,BJ,xW,BK,BL,BM,zP,iI,LT.each,h3,hw,ho2]
  ·cases ho2:(o:Int)==a <;> simp [tJ,tK,BI,BJ,xW,BK,BL,BM,zP,iI,LT.fn,h3,ho2,oth,q1,q2,q3,q4,q5]
 ·have h3:ltI (ps.length:Int) (ps.length:Int)=false:=nA (by omega)
  simp [tJ,tK,BI,BJ,xW,BK,BL,BM,zP,iI,LT.out,h3]
theorem ahU{n k i b:Int}{ps:al4}(hT:isT n ps=true)(hk:0≤k∧k≤3)(hi:0≤i∧i < ps.length)(hb:0≤b∧b < n):
  (yf k i b,yg n k i b ps,yh n k i b)=ruS ps.length n (k,i,b)∧vL n k i b ps=true:=by
 obtain⟨h1,h2,_⟩:=gB.1 hT
 have hc:0≤Int.tmod (b + 1) n∧Int.tmod (b + 1) n < n:=by
  rcases NJ h1.1 hb with⟨h1,h2⟩ | ⟨h1,h2⟩ <;> rw [h1] <;> omega
 have q1:IntKind.i64.wrap (3 * b)=3 * b:=aB (by omega) (by omega)
 have q2:IntKind.i64.wrap (3 * b + 1)=3 * b + 1:=aB (by omega) (by omega)
 have q3:IntKind.i64.wrap (3 * b + 2)=3 * b + 2:=aB (by omega) (by omega)
 have q3b:IntKind.i64.wrap (3 * b + 1 + 1)=3 * b + 2:=by rw [aB (by omega) (by omega)];omega
 have q4:IntKind.i64.wrap (b + 1)=b + 1:=aB (by omega) (by omega)
 have q5:IntKind.i64.wrap ((ps.length:Int) + Int.tmod (b + 1) n)=(ps.length:Int) + Int.tmod (b + 1) n:=aB (by omega) (by omega)
 have q6:IntKind.i64.wrap (3 * Int.tmod (b + 1) n)=3 * Int.tmod (b + 1) n:=aB (by omega) (by omega)
 obtain⟨w1,w2⟩:=akX i b (Int.tmod (b + 1) n) n ps (by omega) (by omega) (by omega)
 have Oc:neI n 0=true:=by simp;omega
 have ho:(Zx ps.length i b (Int.tmod (b + 1) n)).length≤16:=Nat.le_trans (Fe _ 4 (fun o=>by cases (o:Int)==i <;> simp [oth]) ps.length) (by omega)
 have r0:=aiQ (k:=k) (a:=i) (b:=b) (by omega) (by omega) (by omega)
 have l1:leN (1 + ((Zx ps.length i b (Int.tmod (b + 1) n)).length + 1 + 1)) 9223372036854775807=true:=iJ (by omega)
 have l2:leN ((1 + ((Zx ps.length i b (Int.tmod (b + 1) n)).length + 1 + 1)) * 24) 140737488355328=true:=iJ (by omega)
 have l3:leN (2 + (Zx ps.length i b (Int.tmod (b + 1) n)).length) 9223372036854775807=true:=iJ (by omega)
 have l4:leN ((2 + (Zx ps.length i b (Int.tmod (b + 1) n)).length) * 24) 140737488355328=true:=iJ (by omega)
 have kc:k=0∨k=1∨k=2∨k=3:=by omega
 have f1:Dz n i b (Int.tmod (b + 1) n) ps=Zx ps.length i b (Int.tmod (b + 1) n):=by simp only [Dz,JZ,w2]
 have f2:Mt n i b (Int.tmod (b + 1) n) ps=true:=by simp only [Mt,JZ,w1,allT,cond_true]
 constructor
 ·rcases kc with rfl | rfl | rfl | rfl <;> simp [sg,wG,oS,wH,si,wI,wJ,sj,zf,wK,xX,yf,yg,yh,vL,q1,q2,q3,q3b,q4,q5,q6,f1,ruS,nmS,gK,eK]
 ·simp only [vL,afJ,afK,and_true]
  rcases kc with rfl | rfl | rfl | rfl <;> (and_intros <;> first
   |exact Oc
   |(simp only [Bool.or_eq_true];first
     |exact .inl rfl
     |exact .inr (.inl rfl)
     |exact .inr r0
     |exact .inr (.inr r0)
     |(refine .inr ?_;simp only [sg,wG,oS,wH,si,wI,wJ,sj,zf,wK,xX,yf,yg,yh,vL,q4,f1,f2];done)
     |(refine .inr ?_;simp only [sg,wG,oS,wH,si,wI,wJ,sj,zf,wK,xX,yf,yg,yh,vL,q4,f1];exact iJ (by simp only [w5,w6,w3];omega))
     |(refine .inr (.inr ?_);simp only [sg,wG,oS,wH,si,wI,wJ,sj,zf,wK,xX,yf,yg,yh,vL];exact iJ (by simp only [w5,w6,w3];omega))))
theorem ahS{n k b d:Int}{ps:al4}(hT:isT n ps=true)(hk:4≤k∧k≤6)(hb:0≤b∧b < n)(hd:1≤d∧d≤2):
  (JW k b d,JX n k b d ps,JY n k b d ps)=ruS ps.length n (k,b,d)∧Ft k b d=true:=by
 obtain⟨h1,h2,_⟩:=gB.1 hT
 have q1:IntKind.i64.wrap ((ps.length:Int) + b)=(ps.length:Int) + b:=aB (by omega) (by omega)
 have q2:IntKind.i64.wrap ((ps.length:Int) + n)=(ps.length:Int) + n:=aB (by omega) (by omega)
 have q3:IntKind.i64.wrap (d - 1)=d - 1:=aB (by omega) (by omega)
 have r0:=aiQ (k:=k) (a:=b) (b:=d) (by omega) (by omega) (by omega)
 have kc:k=4∨k=5∨k=6:=by omega
 constructor
 ·rcases kc with rfl | rfl | rfl <;> simp [Nj,Nk,JW,JX,JY,Ft,q1,q2,q3,ruS,nmS,gK,eK]
 ·simp only [Ft,allT,r0,cond_true]
set_option maxHeartbeats 1000000
theorem alw(n:Int)(ps:al4)(hn:0≤n∧n≤8)(hp:ps.length≤100):
  lp.fin ((0:Int),n,[],ps)=true∧lp.res ((0:Int),n,[],ps)=(0,((ps.length:Int),n,j7 ps.length (3 * n),ps)):=by
 have key:=lp.iter (fun i=>((i:Int),n,j7 i (3 * n),ps)) 0 ps.length (by omega) (fun i hi=> ?_) ?_
 ·exact key
 ·have hw:IntKind.i64.wrap ((i:Int) + 1)=((i + 1:Nat):Int):=jv hi (by omega)
  have h3:ltI (i:Int) (ps.length:Int)=true:=cK (by omega)
  have q1:IntKind.i64.wrap (3 * n)=3 * n:=aB (by omega) (by omega)
  have l1:=FN (b:=1) (show i≤500 by omega) (by decide) (by decide)
  have l2:=QM (b:=1) (show i≤500 by omega) (by decide) (by decide)
  simp only [yM,KM,KN,KO,KP,KQ,IG,lp,LT.out,allT,h3,hw,q1,l1,l2,ZE,w8,w5,w6,Nat.zero_add,cond_true]
 ·have h3:ltI (ps.length:Int) (ps.length:Int)=false:=nA (by omega)
  simp only [yM,KM,KN,KO,KP,KQ,IG,lp,LT.out,h3,cond_false]
theorem alx(m:Nat)(zs ps qs:al4)(hm:m≤8)(hz:zs.length≤100)(hp:ps.length≤100):
  lq.fin ((0:Int),(m:Int),zs,ps,qs)=true∧lq.res ((0:Int),(m:Int),zs,ps,qs)=(0,((m:Int),(m:Int),zs++j7 m 4,ps++j7 m 0,qs)):=by
 have key:=lq.iter (fun i=>((i:Int),(m:Int),zs++j7 i 4,ps++j7 i 0,qs)) 0 m (by omega) (fun i hi=> ?_) ?_
 ·simpa only [show ((0:Nat):Int)=0 from rfl,List.replicate_zero,List.append_nil] using key
 ·have hw:IntKind.i64.wrap ((i:Int) + 1)=((i + 1:Nat):Int):=jv hi (by omega)
  have h3:ltI (i:Int) (m:Int)=true:=cK (by omega)
  have l1:=FN (b:=1) (show zs.length + i≤500 by omega) (by decide) (by decide)
  have l2:=QM (b:=1) (show zs.length + i≤500 by omega) (by decide) (by decide)
  have l3:=FN (b:=1) (show ps.length + i≤500 by omega) (by decide) (by decide)
  have l4:=QM (b:=1) (show ps.length + i≤500 by omega) (by decide) (by decide)
  simp only [KR,KS,KT,KU,KV,KW,KX,KY,IH,lq,LT.out,allT,h3,hw,l1,l2,l3,l4,ZE,w3,w8,w5,w6,Nat.zero_add,cond_true,List.append_assoc]
 ·have h3:ltI (m:Int) (m:Int)=false:=nA (by omega)
  simp only [KR,KS,KT,KU,KV,KW,KX,KY,IH,lq,LT.out,h3,cond_false]
theorem aly(n:Int)(d:Nat)(L:al1)(ps:al4)(hT:isT n ps=true)(hd:d≤2)(hL:L.length≤500)(hk: ∀ x∈L,kOk ps.length n.toNat d x):
  jl.fin ((0:Int),L,[],n,ps)=true∧jl.res ((0:Int),L,[],n,ps)=(0,((L.length:Int),L,L.map (ruS ps.length n),n,ps)):=by
 obtain⟨h1,h2,_⟩:=gB.1 hT
 have key:=jl.iter (fun i=>((i:Int),L,(L.take i).map (ruS ps.length n),n,ps)) 0 L.length (by omega) (fun i hi=> ?_) ?_
 ·simpa only [show ((0:Nat):Int)=0 from rfl,List.take_zero,List.map_nil,List.take_length] using key
 ·have hw:IntKind.i64.wrap ((i:Int) + 1)=((i + 1:Nat):Int):=jv hi (by omega)
  have h3:ltI (i:Int) (L.length:Int)=true:=cK (by omega)
  have h4:leI 0 (i:Int)=true:=cw (by omega)
  have h5:ltN i L.length=true:=ip hi
  have hmi:min i L.length=i:=by omega
  have l1:=FN (b:=1) (show i≤500 by omega) (by decide) (by decide)
  have l2:=ae4 (b:=1) (show i≤500 by omega) (by decide) (by decide)
  have e0:aH (i:Int) L=L[i]:=by
   simp only [aH,q9,List.getElem?_eq_getElem hi];rfl
  have hx:=hk _ (List.getElem_mem hi)
  rcases hx with⟨g1,g2,g3⟩ | ⟨g1,g2,g3⟩
  ·have a1:leI L[i].1 3=true:=cw (by omega)
   obtain⟨t1,t2⟩:=ahU (k:=L[i].1) (i:=L[i].2.1) (b:=L[i].2.2) hT (by omega) (by omega) (by omega)
   have e2:vp (i:Int) L n ps= [ruS ps.length n L[i]]:=by
    simp only [vp,e0];rw [t1]
   simp only [jl,CF,Au,Ep,Er,wC,wD,wE,Es,Et,Eu,wF,vn,vo,CH,CI,CJ,CL,CM,da,e0,e2,a1,t2,LT.out,allT,h3,h4,h5,hw,l1,l2,hmi,RI hi,q9,
    List.length_map,w4,w5,w6,Nat.zero_add,cond_true,Bool.not_true,Bool.false_or,Bool.true_or]
  ·have a1:leI L[i].1 3=false:=aiH (by omega)
   obtain⟨t1,t2⟩:=ahS (k:=L[i].1) (b:=L[i].2.1) (d:=L[i].2.2) hT (by omega) (by omega) (by omega)
   have e2:vq (i:Int) L n ps= [ruS ps.length n L[i]]:=by
    simp only [vq,e0];rw [t1]
   simp only [jl,CF,Au,Ep,Er,wC,wD,wE,Es,Et,Eu,wF,vn,vo,CH,CI,CJ,CL,CM,da,e0,e2,a1,t2,LT.out,allT,h3,h4,h5,hw,l1,l2,hmi,RI hi,q9,
    List.length_map,w4,w5,w6,Nat.zero_add,cond_true,cond_false,Bool.not_false,Bool.false_or,Bool.true_or]
 ·have h3:ltI (L.length:Int) (L.length:Int)=false:=nA (by omega)
  simp only [aH,da,vp,vq,Au,Ep,Er,wC,wD,wE,Es,Et,Eu,wF,vn,vo,CH,CI,CJ,CL,CM,CF,jl,LT.out,h3,cond_false]
theorem ahT(n d:Int)(s:Bool)(ps:al4)(h:isR n d ps=true):
  rj n d ps=stM n d ps∧rk n d s ps=(kL ps.length n.toNat d.toNat s).map (ruS ps.length n)∧Fu n d s ps=true:=by
 obtain⟨hT,hd⟩:=LO.1 h
 obtain⟨h1,h2,_⟩:=gB.1 hT
 obtain⟨m,rfl⟩:=Int.eq_ofNat_of_zero_le (show 0≤n by omega)
 obtain⟨k,rfl⟩:=Int.eq_ofNat_of_zero_le hd.1
 have hk:=Se (s:=s) h
 simp only [q9]at hk
 obtain⟨a1,a2⟩:=alw m ps (by omega) (by omega)
 obtain⟨b1,b2⟩:=alx m (j7 ps.length (3 * (m:Int))) ps ps (by omega) (by rw [w8];omega) (by omega)
 obtain⟨c1,c2⟩:=aly m k (kL ps.length m k s) ps hT (by omega) (by omega) (fun x hx=>by simpa only [q9] using agl hx)
 have l1:=FN (b:=1) (show ps.length + m≤500 by omega) (by decide) (by decide)
 have l2:=QM (b:=1) (show ps.length + m≤500 by omega) (by decide) (by decide)
 have l4:leN ps.length 1048576=true:=iJ (by omega)
 simp only [Np,Nq,DA,Ij,Ik,Nr,ri,rj,rk,Fu,a1,a2,b1,b2,q9,c1,c2,l1,l2,l4,h,allT,stM,stV,List.append_assoc,w3,w8,w5,w6,Nat.zero_add,cond_true,and_self]
section
variable (a:al4)
def bo:Int:=PX 0 (frS a) a
def bT:Int:=PY 0 (frS a) a
def bU:Bool:=PZ 0 (frS a) a
def bp:al4:=Qc 0 (frS a) a
def wa:Bool:=allT [mE 0 0 a,Mr 0 (frS a) a]
end
def Im:al6
 | [.one ⟨false,[.ref 0]⟩],[.row false 5 (.int .u8) a]=>some ⟨.tup [⟨true,[al7 (bo a),.ref 1]⟩,⟨false,[al7 (bT a)]⟩,⟨false,[.val (.bool (bU a))]⟩],[ami a],[amb (bp a)],[wa a]⟩
 |_,_=>none
def AV:PF prog:=PF.ofG prog (T3z [PD,Pt]) [] aS 5 f5 func5 (fun c _=>LOk.nil c) Im (by
 intro _ _ _ h;unfold Im at h;split at h<;>cases h;kernel_rfl)
abbrev qu:=Int×Int×List Int×List Int
section
variable (a b:Int)(c d:al4)
def Kf:Bool:=ltI a b
def Eb:Bool:=leI 0 a
def Kg:Bool:=ltI a (↑c.length:Int)
def Kh:Bool:=ltN a.toNat c.length
def Ki:Bool:=ltI a (↑d.length:Int)
def Kj:Bool:=ltN a.toNat d.length
def Kk:Int:=j6 .i64 (a + (1:Int))
def Kl:al4:=List.set d a.toNat (j6 IntKind.u8 (z8 c[z6 a]? 0))
end
def Wq:qu→List (Nat×SV)
 |(a,b,_,_)=> [(11,(al9 a)),(10,(al9 b)),(9,(al8 (.ref 0))),(3,(al8 (.ref 1)))]
def Wd:qu→List (Nat×Entry)
 |(_,_,a,b)=> [(0,(ama a)),(1,(.row true 5 agc b))]
def WQ:Nat→qu→List (Nat×SV)
 |_,_=>[]
def IE:qu→LT qu
 |(a,b,c,d)=> .ite (Kf a b) (.need [Eb a,Kg a c,Kh a c] (.need [Eb a,Ki a d,Kj a d] (.nrm ((Kk a),b,c,(Kl a c d)) [(0,0),(1,1)]))) (.ext 0 [(0,0),(1,1)])
def IX(s:St):Option qu:=do
 let some ⟨none,.one ⟨false,[.val (.int .i64 a)]⟩⟩:=s.look 11|none
 let some ⟨none,.one ⟨false,[.val (.int .i64 b)]⟩⟩:=s.look 10|none
 let some ⟨none,.one ⟨false,[.ref 0]⟩⟩:=s.look 9|none
 let some ⟨none,.one ⟨false,[.ref 320]⟩⟩:=s.look 3|none
 let some (.row false 2 (.int .i64) c):=s.ent 0|none
 let some (.row true 5 (.int IntKind.u8) d):=s.ent 320|none
 some (a,b,c,d)
def oU:Lp qu where
 h:=⟨[12,13,14,15,4,5,16,17,18,19,20,21,11],[0,1],[],[]⟩
 JL:=Wq
 JE:=Wd
 XL:=WQ
 XE:=fun _=>Wd
 q:=fun j=>match j with | _=> .exit 0
 tags:= [0]
 lt:=IE
 fuel:=fun(a,b,c,d)=>a.natAbs + b.natAbs + c.length + d.length
 fix:=fun(_,b,c,_) (a,_,_,d)=>(a,b,c,d)
 σ:= [(0,0),(1,320)]
 rd:=IX
theorem Ug:LoopOk prog (fun k=>Nat.blt k Tryz.f96.ntmps) oU.F (aI f96 0):=by
 refine Lp.ok (tbl:= []) (lf:= []) aS oU (by kernel_rfl) (LOk.nil _) (fun _=>rfl) (fun _ _=>rfl) ?_ ?_ ?_ ?_ (fun _=>rfl) ?_
 ·intro _;kernel_rfl
 ·intro _;kernel_rfl
 ·intro s x h
  have h:IX s=some x:=h
  unfold IX at h
  repeat' split at h
  all_goals cases h
  constructor<;>repeat(first|refine aa ‹_› rfl ?_|refine ab rfl ‹_› rfl ?_|rfl)
 ·intro _;kernel_rfl
 ·intro _ _;exact(And.intro rfl trivial)
section
variable (a:al4)
def MU:Int×Int×al4×al4:=((0:Int),(↑a.length:Int),a,j7 (z6 (↑a.length:Int)) (0:Int))
def oj:al5:=strOfNums ((Lp.res oU (MU a)).2.2.2.2)
def Fh:Bool:=allT [leI 0 (↑a.length:Int),leI (↑a.length:Int) (↑a.length:Int),leI ((↑(1:Nat):Int) * (↑a.length:Int)) 281474976710656,leI (↑a.length:Int) 9223372036854775807,Lp.fin oU (MU a)]
end
def TC:al6
 | [.one ⟨false,[.ref 0]⟩],[.row false 2 (.int .i64) a]=>some ⟨al8 (.val (.string (oj a))),[ama a],[],[Fh a]⟩
 |_,_=>none
def sZ:PF prog:=PF.ofG prog [] [oU.F] aS 96 f96 func96 (LOk.fnT (l:= [aI f96 0]) (by kernel_rfl) (.cons Ug (.nil _))) TC (by
 intro _ _ _ h;unfold TC at h;split at h<;>cases h;kernel_rfl)
abbrev bD:=Int×Int×List (al5×((List (Int×(Int×Bool)))×(List (Int×Int))))×List Int×List Int
section
variable (a b:Int)(c:aer)(d e:al4)
def cX:al0:=((z8 c[z6 a]? (sW aa8)).2).1
def iK:Bool:=ltI a b
def uu:Bool:=leI 0 a
def uv:Bool:=ltI a (↑c.length:Int)
def uw:Bool:=ltN a.toNat c.length
def ux:Bool:=OP d (cX a c)
def uy:Bool:= !HH d (cX a c)||leN (z7 e + z7 [a]) (9223372036854775807:Nat)
def uz:Bool:= !HH d (cX a c)||leN ((z7 e + z7 [a]) * (8:Nat)) (140737488355328:Nat)
def iL:Bool:=HH d (cX a c)
def eD:Int:=j6 .i64 (a + (1:Int))
def iM:al4:=e++ [a]
end
def CU:bD→List (Nat×SV)
 |(a,b,_,_,_)=> [(11,(al9 a)),(10,(al9 b)),(9,(al8 (.ref 0))),(1,(al8 (.ref 1))),(5,(al8 (.ref 2)))]
def CP:bD→List (Nat×Entry)
 |(_,_,a,b,c)=> [(0,(amc a)),(1,(ama b)),(2,(amb c))]
def De:Nat→bD→List (Nat×SV)
 |_,(_,_,_,_,_)=> [(5,(al8 (.ref 2)))]
def ep:bD→LT bD
 |(a,b,c,d,e)=> .ite (iK a b) (.need [uu a,uv a c,uw a c] (.need [ux a c d] (.need [uy a c d e,uz a c d e] (.ite (iL a c d) (.nrm ((eD a),b,c,d,(iM a e)) [(0,0),(1,1),(2,960)]) (.nrm ((eD a),b,c,d,e) [(0,0),(1,1),(2,2)]))))) (.ext 0 [(0,0),(1,1),(2,2)])
def nn(s:St):Option bD:=do
 let some ⟨none,.one ⟨false,[.val (.int .i64 a)]⟩⟩:=s.look 11|none
 let some ⟨none,.one ⟨false,[.val (.int .i64 b)]⟩⟩:=s.look 10|none
 let some ⟨none,.one ⟨false,[.ref 2]⟩⟩:=s.look 9|none
 let some ⟨none,.one ⟨false,[.ref 3]⟩⟩:=s.look 1|none
 let some ⟨none,.one ⟨false,[.ref 448]⟩⟩:=s.look 5|none
 let some (.row false 70 (.pair .str (.pair (.sl 125 (.pair (.int .i64) (.pair (.int .i64) .bool))) (.sl 129 (.pair (.int .i64) (.int .i64))))) c):=s.ent 2|none
 let some (.row false 2 (.int .i64) d):=s.ent 3|none
 let some (.row true 2 (.int .i64) e):=s.ent 448|none
 some (a,b,c,d,e)
def aQ:Lp bD where
 h:=⟨[12,13,14,15,7,6,16,17,18,19,20,21,22,23,5,24,11],[0,1],[2],[]⟩
 JL:=CU
 JE:=CP
 XL:=De
 XE:=fun _=>CP
 q:=fun j=>match j with | _=> .exit 0
 tags:= [0]
 lt:=ep
 fuel:=fun(a,b,c,d,e)=>a.natAbs + b.natAbs + c.length + d.length + e.length
 fix:=fun(_,b,c,d,_) (a,_,_,_,e)=>(a,b,c,d,e)
 σ:= [(0,2),(1,3),(2,448)]
 rd:=nn
theorem BX:LoopOk prog (fun k=>Nat.blt k Tryz.f97.ntmps) aQ.F (aI f97 0):=by
 refine Lp.ok (tbl:= (T3z [HO])) (lf:= []) aS aQ (by kernel_rfl) (LOk.nil _) (fun _=>rfl) (fun _ _=>rfl) ?_ ?_ ?_ ?_ (fun _=>rfl) ?_
 ·intro _;kernel_rfl
 ·intro _;kernel_rfl
 ·intro s x h
  have h:nn s=some x:=h
  unfold nn at h
  repeat' split at h
  all_goals cases h
  constructor<;>repeat(first|refine aa ‹_› rfl ?_|refine ab rfl ‹_› rfl ?_|rfl)
 ·intro _;kernel_rfl
 ·intro _ _;exact(And.intro (And.intro rfl rfl) trivial)
section
variable (a:aeT)(b:al4)
def ol:Int×Int×aeT×al4×al4:=((0:Int),(↑a.length:Int),a,b,[])
def gn:al4:=(Lp.res aQ (ol a b)).2.2.2.2.2
def kx:Bool:=allT [Lp.fin aQ (ol a b)]
end
def wb:al6
 | [.one ⟨true,[.ref 0,.ref 1,.ref 2]⟩,.one ⟨false,[.ref 3]⟩],[.row false 2 (.int .i64) a,.row false 2 (.int .i64) b,.row false 70 (.pair (.str) (.pair (.sl 125 (.pair (.int .i64) (.pair (.int .i64) (.bool)))) (.sl 129 (.pair (.int .i64) (.int .i64))))) c,.row false 2 (.int .i64) d]=>some ⟨al8 (.ref 4),[ama a,ama b,aml c,ama d],[amb (gn c d)],[kx c d]⟩
 |_,_=>none
def bu:PF prog:=PF.ofG prog (T3z [HO]) [aQ.F] aS 97 f97 func97 (LOk.fnT (l:= [aI f97 0]) (by kernel_rfl) (.cons BX (.nil _))) wb (by
 intro _ _ _ h;unfold wb at h;split at h<;>cases h;kernel_rfl)
abbrev dM:=Int×Int×List Int
section
variable (a b:Int)(c:al4)
def qa:al4:=List.set c a.toNat (z8 c[z6 b]? 0)
def qq:Bool:=ltI a b
def vR:Bool:=leI 0 b
def Cs:Bool:=ltI b (↑c.length:Int)
def Ct:Bool:=ltN b.toNat c.length
def vS:Bool:=leI 0 a
def vT:Bool:=ltI a (↑c.length:Int)
def vU:Bool:=ltN a.toNat c.length
def Cu:Bool:=ltI b (↑(z7 (qa a b c)):Int)
def Cv:Bool:=ltN b.toNat (z7 (qa a b c))
def Cw:Int:=j6 .i64 (a + (1:Int))
def BB:Int:=j6 .i64 (b - (1:Int))
def BC:al4:=List.set (qa a b c) b.toNat (z8 c[z6 a]? 0)
end
def Lw:dM→List (Nat×SV)
 |(a,b,_)=> [(2,(al9 a)),(3,(al9 b)),(0,(al8 (.ref 0)))]
def Lv:dM→List (Nat×Entry)
 |(_,_,a)=> [(0,(amb a))]
def Ly:Nat→dM→List (Nat×SV)
 |_,_=>[]
def pU:dM→LT dM
 |(a,b,c)=> .ite (qq a b) (.need [vR b,Cs b c,Ct b c,vS a,vT a c,vU a c,vS a,vT a c,vU a c,vR b,Cu a b c,Cv a b c] (.nrm ((Cw a),BB b,(BC a b c)) [(0,0)])) (.ext 0 [(0,0)])
def uU(s:St):Option dM:=do
 let some ⟨none,.one ⟨false,[.val (.int .i64 a)]⟩⟩:=s.look 2|none
 let some ⟨none,.one ⟨false,[.val (.int .i64 b)]⟩⟩:=s.look 3|none
 let some ⟨none,.one ⟨false,[.ref 0]⟩⟩:=s.look 0|none
 let some (.row true 2 (.int .i64) c):=s.ent 0|none
 some (a,b,c)
def cU:Lp dM where
 h:=⟨[7,8,9,14,15,16,17,18,19,20,21,22,23,24,25,26,27,10,11,12,13,2,3],[0],[],[]⟩
 JL:=Lw
 JE:=Lv
 XL:=Ly
 XE:=fun _=>Lv
 q:=fun j=>match j with | _=> .exit 0
 tags:= [0]
 lt:=pU
 fuel:=fun(a,b,c)=>a.natAbs + b.natAbs + c.length
 fix:=fun(_,_,_) (a,b,c)=>(a,b,c)
 σ:= [(0,0)]
 rd:=uU
theorem Kn:LoopOk prog (fun k=>Nat.blt k Tryz.f49.ntmps) cU.F (aI f49 0):=by
 refine Lp.ok (tbl:= []) (lf:= []) aS cU (by kernel_rfl) (LOk.nil _) (fun _=>rfl) (fun _ _=>rfl) ?_ ?_ ?_ ?_ (fun _=>rfl) ?_
 ·intro _;kernel_rfl
 ·intro _;kernel_rfl
 ·intro s x h
  have h:uU s=some x:=h
  unfold uU at h
  repeat' split at h
  all_goals cases h
  constructor<;>repeat(first|refine aa ‹_› rfl ?_|refine ab rfl ‹_› rfl ?_|rfl)
 ·intro _;kernel_rfl
 ·intro _ _;exact(And.intro rfl trivial)
section
variable (a:al4)
def sF:Int×Int×al4:=((0:Int),j6 .i64 ((↑a.length:Int) - (1:Int)),a)
def tb:al4:=(Lp.res cU (sF a)).2.2.2
def tc:Bool:=allT [Lp.fin cU (sF a)]
end
def Ez:al6
 | [.one ⟨false,[.ref 0]⟩],[.row true 2 (.int .i64) a]=>some ⟨.tup [],[amb (tb a)],[],[tc a]⟩
 |_,_=>none
def lx:PF prog:=PF.ofG prog [] [cU.F] aS 49 f49 func49 (LOk.fnT (l:= [aI f49 0]) (by kernel_rfl) (.cons Kn (.nil _))) Ez (by
 intro _ _ _ h;unfold Ez at h;split at h<;>cases h;kernel_rfl)
abbrev sx:=Int×List ((List Int)×(Int×(Int×Int)))×List Int
section
variable (a:Int)(b:afG)(c:al4)
def zN:Int×Int×Int:=(z8 b[z6 a]? (sW aa9)).2
def Ec:al4:= [((zN a b).2).1]
def Bt:Bool:=leI 0 a
def Bu:Bool:=ltI a (↑b.length:Int)
def Bv:Bool:=ltN a.toNat b.length
def LN:Bool:=leI 0 ((zN a b).1)
def QI:Bool:=leN (z7 c + z7 (Ec a b)) 9223372036854775807
def QJ:Bool:=leN ((z7 c + z7 (Ec a b)) * 8) 140737488355328
def QK:Int:=(zN a b).1
def QL:al4:=c++Ec a b
end
def XM:sx→List (Nat×SV)
 |(a,_,_)=> [(0,(al8 (.ref 0))),(1,(al9 a)),(5,(al8 (.ref 1)))]
def XH:sx→List (Nat×Entry)
 |(_,a,b)=> [(0,(.row false 100 aa9 a)),(1,(amb b))]
def XU:Nat→sx→List (Nat×SV)
 |_,(_,_,_)=> [(5,(al8 (.ref 1)))]
def Ko:sx→LT sx
 |(a,b,c)=> .need [Bt a,Bu a b,Bv a b] (.ite (LN a b) (.need [Bt a,Bu a b,Bv a b,QI a b c,QJ a b c] (.need [Bt a,Bu a b,Bv a b] (.nrm ((QK a b),b,(QL a b c)) [(0,0),(1,896)]))) (.ext 0 [(0,0),(1,1)]))
def Ku(s:St):Option sx:=do
 let some ⟨none,.one ⟨false,[.ref 0]⟩⟩:=s.look 0|none
 let some ⟨none,.one ⟨false,[.val (.int .i64 a)]⟩⟩:=s.look 1|none
 let some ⟨none,.one ⟨false,[.ref 192]⟩⟩:=s.look 5|none
 let some (.row false 100 (.pair (.sl 2 (.int .i64)) (.pair (.int .i64) (.pair (.int .i64) (.int .i64)))) b):=s.ent 0|none
 let some (.row true 2 (.int .i64) c):=s.ent 192|none
 some (a,b,c)
def mi:Lp sx where
 h:=⟨[6,7,8,9,10,11,17,18,19,20,21,22,23,24,5,12,13,14,15,16,1],[0],[1],[]⟩
 JL:=XM
 JE:=XH
 XL:=XU
 XE:=fun _=>XH
 q:=fun j=>match j with | _=> .exit 0
 tags:= [0]
 lt:=Ko
 fuel:=fun(a,b,c)=>a.natAbs + b.length + c.length
 fix:=fun(_,b,_) (a,_,c)=>(a,b,c)
 σ:= [(0,0),(1,192)]
 rd:=Ku
theorem Vo:LoopOk prog (fun k=>Nat.blt k Tryz.f26.ntmps) mi.F (aI f26 0):=by
 refine Lp.ok (tbl:= (T3z [lx])) (lf:= []) aS mi (by kernel_rfl) (LOk.nil _) (fun _=>rfl) (fun _ _=>rfl) ?_ ?_ ?_ ?_ (fun _=>rfl) ?_
 ·intro _;kernel_rfl
 ·intro _;kernel_rfl
 ·intro s x h
  have h:Ku s=some x:=h
  unfold Ku at h
  repeat' split at h
  all_goals cases h
  constructor<;>repeat(first|refine aa ‹_› rfl ?_|refine ab rfl ‹_› rfl ?_|rfl)
 ·intro _;kernel_rfl
 ·intro _ _;exact(And.intro rfl trivial)
section
variable (a:Int)(b:af7)
def JG:Int×af7×al4:=(a,b,[])
def JH:al4:=(Lp.res mi (JG a b)).2.2.2
def LL:al4:=tb (JH a b)
def LM:Bool:=allT [Lp.fin mi (JG a b),tc (JH a b)]
end
def Uu:al6
 | [.one ⟨false,[.ref 0]⟩,.one ⟨false,[.val (.int .i64 a)]⟩],[.row false 100 (.pair (.sl 2 (.int .i64)) (.pair (.int .i64) (.pair (.int .i64) (.int .i64)))) b]=>some ⟨al8 (.ref 1),[ams b],[amb (LL a b)],[LM a b]⟩
 |_,_=>none
def Px:PF prog:=PF.ofG prog (T3z [lx]) [mi.F] aS 26 f26 func26 (LOk.fnT (l:= [aI f26 0]) (by kernel_rfl) (.cons Vo (.nil _))) Uu (by
 intro _ _ _ h;unfold Uu at h;split at h<;>cases h;kernel_rfl)
abbrev nK:=Int×List Int×List Int
section
variable (a:Int)(b c:al4)
def sJ:Int:=z8 b[z6 a]? 0
def sK:Int:=z8 c[z6 a]? 0
def rb:Bool:=ltI a (↑b.length:Int)
def nP:Bool:=leI 0 a
def uc:Bool:=ltN a.toNat b.length
def ud:Bool:=ltI a (↑c.length:Int)
def ue:Bool:=ltN a.toNat c.length
def xA:Bool:=ltI (sJ a b) (sK a c)
end
def rc:Int:=(-1:Int)
def xB(a:Int)(b c:al4):Bool:=ltI (sK a c) (sJ a b)
def xC(a:Int):Int:=j6 .i64 (a + (1:Int))
def TT:nK→List (Nat×SV)
 |(a,_,_)=> [(5,(al9 a)),(0,(al8 (.ref 0))),(1,(al8 (.ref 1)))]
def TR:nK→List (Nat×Entry)
 |(_,a,b)=> [(0,(ama a)),(1,(ama b))]
def TX:Nat→nK→List (Nat×SV)
 |0,(_,_,_)=> [(4,(al9 (rc)))]
 |1,(_,_,_)=> [(4,(al9 1))]
 |_,_=>[]
def wj:nK→LT nK
 |(a,b,c)=> .ite (rb a b) (.need [nP a,rb a b,uc a b,nP a,ud a c,ue a c] (.ite (xA a b c) (.ext 0 [(0,0),(1,1)]) (.need [nP a,rb a b,uc a b,nP a,ud a c,ue a c] (.ite (xB a b c) (.ext 1 [(0,0),(1,1)]) (.nrm ((xC a),b,c) [(0,0),(1,1)]))))) (.ext 2 [(0,0),(1,1)])
def FX(s:St):Option nK:=do
 let some ⟨none,.one ⟨false,[.val (.int .i64 a)]⟩⟩:=s.look 5|none
 let some ⟨none,.one ⟨false,[.ref 0]⟩⟩:=s.look 0|none
 let some ⟨none,.one ⟨false,[.ref 1]⟩⟩:=s.look 1|none
 let some (.row false 2 (.int .i64) b):=s.ent 0|none
 let some (.row false 2 (.int .i64) c):=s.ent 1|none
 some (a,b,c)
def eA:Lp nK where
 h:=⟨[6,7,8,9,12,13,14,15,16,17,18,19,20,4,21,22,23,24,25,26,27,28,29,10,11,5],[0,1],[],[]⟩
 JL:=TT
 JE:=TR
 XL:=TX
 XE:=fun _=>TR
 q:=fun j=>match j with | 0=> .ret | 1=> .ret | _=> .exit 0
 tags:= [0,1,2]
 lt:=wj
 fuel:=fun(a,b,c)=>a.natAbs + b.length + c.length
 fix:=fun(_,b,c) (a,_,_)=>(a,b,c)
 σ:= [(0,0),(1,1)]
 rd:=FX
theorem Sh:LoopOk prog (fun k=>Nat.blt k Tryz.f113.ntmps) eA.F (aI f113 0):=by
 refine Lp.ok (tbl:= []) (lf:= []) aS eA (by kernel_rfl) (LOk.nil _) (fun _=>rfl) (fun j _=>by unfold eA;match j with | 0=>rfl | 1=>rfl | _ + 2=>rfl) ?_ ?_ ?_ ?_ (fun _=>rfl) ?_
 ·intro _;kernel_rfl
 ·intro _;kernel_rfl
 ·intro s x h
  have h:FX s=some x:=h
  unfold FX at h
  repeat' split at h
  all_goals cases h
  constructor<;>repeat(first|refine aa ‹_› rfl ?_|refine ab rfl ‹_› rfl ?_|rfl)
 ·intro _;kernel_rfl
 ·intro _ _;exact(And.intro (And.intro trivial (And.intro trivial rfl)) trivial)
section
variable (a b:al4)
def Eo:Int×al4×al4:=((0:Int),a,b)
def vb:Int:=bif Nat.beq ((Lp.res eA (Eo a b)).1) 0 then rc else bif Nat.beq ((Lp.res eA (Eo a b)).1) 1 then(1:Int)else(0:Int)
def xV:Bool:=allT [Lp.fin eA (Eo a b)]
end
def Qw:al6
 | [.one ⟨false,[.ref 0]⟩,.one ⟨false,[.ref 1]⟩],[.row false 2 (.int .i64) a,.row false 2 (.int .i64) b]=>some ⟨al9 (vb a b),[ama a,ama b],[],[xV a b]⟩
 |_,_=>none
def xT:PF prog:=PF.ofG prog [] [eA.F] aS 113 f113 func113 (LOk.fnT (l:= [aI f113 0]) (by kernel_rfl) (.cons Sh (.nil _))) Qw (by
 intro _ _ _ h;unfold Qw at h;split at h<;>cases h;kernel_rfl)
abbrev qx:=Int×Int×List (List Int)×List Int
section
variable (a b:Int)(c:al2)
def oX:Int:=j6 .i64 (Int.tdiv (j6 .i64 (a + b)) 2)
def yK:al4:=z8 c[z6 (oX a b)]? (sW afH)
def Al:Bool:=ltI a b
end
def KF:Bool:=neI 2 0
section
variable (a b:Int)(c:al2)(d:al4)
def KG:Bool:=leI 0 (oX a b)
def KH:Bool:=ltI (oX a b) (↑c.length:Int)
def KI:Bool:=ltN (z6 (oX a b)) c.length
def KJ:Bool:=xV (yK a b c) d
def KK:Int:=bif ltI (vb (yK a b c) d) 0 then j6 .i64 (oX a b + (1:Int))else a
def KL:Int:=bif ltI (vb (yK a b c) d) 0 then b else oX a b
end
def Wu:qx→List (Nat×SV)
 |(a,b,_,_)=> [(6,(al9 a)),(7,(al9 b)),(0,(al8 (.ref 0))),(1,(al8 (.ref 1)))]
def Wh:qx→List (Nat×Entry)
 |(_,_,a,b)=> [(0,(amk a)),(1,(ama b))]
def WU:Nat→qx→List (Nat×SV)
 |_,(a,_,_,_)=> [(6,(al9 a))]
def yC:qx→LT qx
 |(a,b,c,d)=> .ite (Al a b) (.need [KF] (.need [KG a b,KH a b c,KI a b c,KJ a b c d] (.nrm ((KK a b c d),KL a b c d,c,d) [(0,0),(1,1)]))) (.ext 0 [(0,0),(1,1)])
def Jb(s:St):Option qx:=do
 let some ⟨none,.one ⟨false,[.val (.int .i64 a)]⟩⟩:=s.look 6|none
 let some ⟨none,.one ⟨false,[.val (.int .i64 b)]⟩⟩:=s.look 7|none
 let some ⟨none,.one ⟨false,[.ref 0]⟩⟩:=s.look 0|none
 let some ⟨none,.one ⟨false,[.ref 1]⟩⟩:=s.look 1|none
 let some (.row false 24 (.sl 2 (.int .i64)) c):=s.ent 0|none
 let some (.row false 2 (.int .i64) d):=s.ent 1|none
 some (a,b,c,d)
def ln:Lp qx where
 h:=⟨[11,12,13,14,15,16,17,8,18,19,20,21,22,23,24,25,26,6,27,7],[0,1],[],[]⟩
 JL:=Wu
 JE:=Wh
 XL:=WU
 XE:=fun _=>Wh
 q:=fun j=>match j with | _=> .exit 0
 tags:= [0]
 lt:=yC
 fuel:=fun(a,b,c,d)=>a.natAbs + b.natAbs + c.length + d.length
 fix:=fun(_,_,c,d) (a,b,_,_)=>(a,b,c,d)
 σ:= [(0,0),(1,1)]
 rd:=Jb
theorem Uk:LoopOk prog (fun k=>Nat.blt k Tryz.f101.ntmps) ln.F (aI f101 0):=by
 refine Lp.ok (tbl:= (T3z [xT])) (lf:= []) aS ln (by kernel_rfl) (LOk.nil _) (fun _=>rfl) (fun _ _=>rfl) ?_ ?_ ?_ ?_ (fun _=>rfl) ?_
 ·intro _;kernel_rfl
 ·intro _;kernel_rfl
 ·intro s x h
  have h:Jb s=some x:=h
  unfold Jb at h
  repeat' split at h
  all_goals cases h
  constructor<;>repeat(first|refine aa ‹_› rfl ?_|refine ab rfl ‹_› rfl ?_|rfl)
 ·intro _;kernel_rfl
 ·intro _ _;exact(And.intro rfl trivial)
section
variable (a:al2)(b:al4)
def Dt:Int×Int×al2×al4:=((0:Int),(↑a.length:Int),a,b)
def oR:Int:=((Lp.res ln (Dt a b)).2).1
def ug:Bool:=ltI (oR a b) (↑a.length:Int)&&true
def Du:al4:=bif ug a b then z8 a[z6 (oR a b)]? (sW afH)else []
def td:Int:=oR a b
def cg:Bool:=bif ltI (oR a b) (↑a.length:Int)then vb (Du a b) b==0 else false
def yc:Bool:=allT [Lp.fin ln (Dt a b),!ug a b||leI 0 (oR a b),!ug a b||ltI (oR a b) (↑a.length:Int),!ug a b||ltN (z6 (oR a b)) a.length,!ug a b||xV (Du a b) b]
end
def TG:al6
 | [.one ⟨false,[.ref 0]⟩,.one ⟨false,[.ref 1]⟩],[.row false 24 (.sl 2 (.int .i64)) a,.row false 2 (.int .i64) b]=>some ⟨.tup [⟨false,[al7 (td a b)]⟩,⟨false,[.val (.bool (cg a b))]⟩],[amr a,ama b],[],[yc a b]⟩
 |_,_=>none
def Bd:PF prog:=PF.ofG prog (T3z [xT]) [ln.F] aS 101 f101 func101 (LOk.fnT (l:= [aI f101 0]) (by kernel_rfl) (.cons Uk (.nil _))) TG (by
 intro _ _ _ h;unfold TG at h;split at h<;>cases h;kernel_rfl)
section
variable (a:al2)(b:al4)
def vc:al2:=List.drop (z6 0) (List.take (z6 (td a b)) a)
def BF:al2:=vc a b++ [b]
def BG:al2:=List.drop (z6 (td a b)) (List.take (z6 (↑a.length:Int)) a)
def Gm:Bool:=cg a b||leI 0 (td a b)
def Gn:Bool:=cg a b||leI (td a b) (↑a.length:Int)
def uf:al2:=bif cg a b then a else BF a b++BG a b
def Ds:Bool:=allT [yc a b,cg a b||leI 0 0,Gm a b,Gn a b,cg a b||leN (0 + z7 (vc a b)) 9223372036854775807,cg a b||leN ((0 + z7 (vc a b)) * 24) 140737488355328,cg a b||leN (z7 (vc a b) + z7 [b]) (9223372036854775807:Nat),cg a b||leN ((z7 (vc a b) + z7 [b]) * (24:Nat)) 140737488355328,Gm a b,Gn a b,cg a b||leI (↑a.length:Int) (↑a.length:Int),cg a b||leN (z7 (BF a b) + z7 (BG a b)) 9223372036854775807,cg a b||leN ((z7 (BF a b) + z7 (BG a b)) * 24) 140737488355328]
end
def RO:al6
 | [.one ⟨false,[.ref 0]⟩,.one ⟨false,[.ref 1]⟩],[.row false 24 (.sl 2 (.int .i64)) a,.row false 2 (.int .i64) b]=>some ⟨al8 (.ref 2),[amr a,ama b],[amr (uf a b)],[Ds a b]⟩
 |_,_=>none
def MZ:PF prog:=PF.ofG prog (T3z [Bd]) [] aS 102 f102 func102 (fun c _=>LOk.nil c) RO (by
 intro _ _ _ h;unfold RO at h;split at h<;>cases h;kernel_rfl)
section
variable (a b:al4)
def Ev:al4:=List.drop (z6 0) (List.take (z6 (↑a.length:Int)) b)
def qc:al4:=Ev a b
def Gs:Bool:=allT [leI 0 (↑a.length:Int),leI (↑a.length:Int) (↑b.length:Int),leN (z7 (Ev a b)) 1048576]
end
def Qy:al6
 | [.one ⟨true,[.val (.int .i64 a),.ref 0]⟩,.one ⟨false,[.ref 1]⟩],[.row false 2 (.int .i64) b,.row false 2 (.int .i64) c]=>some ⟨.one ⟨true,[al7 a,.ref 2]⟩,[ama b,ama c],[amb (qc b c)],[Gs b c]⟩
 |_,_=>none
def fv:PF prog:=PF.ofG prog (T3z [aF]) [] aS 34 f34 func34 (fun c _=>LOk.nil c) Qy (by
 intro _ _ _ h;unfold Qy at h;split at h<;>cases h;kernel_rfl)
section
variable (a:Bool)(b c:al4)(d e f:al2)
def nz:Bool:=(↑d.length:Int)==4000
def Ck:Bool:=bif cg f b then a else bif nz d then true else a
def Cl:al2:=bif cg f b then d else bif nz d then d else d++ [b]
def Cm:al2:=bif cg f b then e else bif nz d then e else e++ [c]
def yV:al2:=bif cg f b then f else bif nz d then f else uf f b
def Cn:Bool:=allT [yc f b,cg f b||(nz d||leN (z7 d + z7 [b]) (9223372036854775807:Nat)),cg f b||(nz d||leN ((z7 d + z7 [b]) * (24:Nat)) 140737488355328),cg f b||(nz d||leN (z7 e + z7 [c]) (9223372036854775807:Nat)),cg f b||(nz d||leN ((z7 e + z7 [c]) * (24:Nat)) 140737488355328),cg f b||(nz d||Ds f b)]
end
def Xm:al6
 | [.one ⟨false,[.ptr 0 0]⟩,.one ⟨false,[.ref 1]⟩,.one ⟨false,[.ref 2]⟩],[.box 79 [.ref 3,.ref 4,.ref 5,.val (.bool a)],.row false 2 (.int .i64) b,.row false 2 (.int .i64) c,.row true 24 (.sl 2 (.int .i64)) d,.row true 24 (.sl 2 (.int .i64)) e,.row false 24 (.sl 2 (.int .i64)) f]=>some ⟨.tup [],[.box 79 [.ref 6,.ref 7,.ref 8,.val (.bool (Ck a b d f))],ama b,ama c,.gone,.gone,amr f],[amt (Cl b d f),amt (Cm b c d e f),amr (yV b d f)],[Cn b c d e f]⟩
 |_,_=>none
def wR:PF prog:=PF.ofG prog (T3z [Bd,MZ]) [] aS 78 f78 func78 (fun c _=>LOk.nil c) Xm (by
 intro _ _ _ h;unfold Xm at h;split at h<;>cases h;kernel_rfl)
set_option maxHeartbeats 1000000
variable{X:Type}
theorem aef{m n:Nat}(h:m≤1000000):m≤big n:=by
 rw [ah7]
 have h1:1000≤n + 1000:=by omega
 have h2:1000 * 1000≤(n + 1000) * (n + 1000):=Nat.mul_le_mul h1 h1
 have h3:(n + 1000) * (n + 1000)≤(n + 1000) ^ 4:=by
  have:(n + 1000) ^ 4=(n + 1000) * (n + 1000) * ((n + 1000) * (n + 1000)):=by
   rw [show (4:Nat)=2 + 2 from rfl,Nat.pow_add,Nat.pow_two]
  rw [this]
  exact Nat.le_mul_of_pos_right _ (Nat.mul_pos (by omega) (by omega))
 omega
theorem Lp.iterM(p:Lp X)(st:Nat→X)(e n:Nat)(hn:n≤900000)
  (hs: ∀ i,i < n→(p.lt (st i)).out=some (.inr (st (i + 1)))) (he:(p.lt (st n)).out=some (.inl e)):
  p.fin (st 0)=true∧p.res (st 0)=(e,st n):=by
 have key:=p.run (OZ (fun i (_:Unit)=>st i) (fun(_:Nat) (a:Unit)=>(.inr a:Nat ⊕ Unit)) e (fun _ _=>True) (List.range n) (fun i b a hb _=>by
  obtain⟨rfl,gm⟩:=OY hb
  exact⟨hs b gm,fun _ _=>trivial⟩) (fun a _=>by rw [List.length_range];exact he) (List.range n) 0 () rfl (by simp) trivial) (aef (by rw [List.length_range];omega))
 rw [yW (g:=fun a _=>a) (fun _ _=>rfl),List.length_range,Nat.zero_add]at key
 exact key
def Qt(v:al4):al5:=strOfNums v
def byt(v:al4):Prop:= ∀ x∈v,0≤x∧x≤255
theorem aj8{x:Int}(h0:0≤x)(h1:x≤255):IntKind.u8.wrap x=x:=by
 have hb:IntKind.u8.bits=8:=rfl
 have hs:IntKind.u8.signed=false:=rfl
 simp only [j6,hb,hs,Bool.false_and]
 simp;omega
theorem aiC: ∀ {a b:al4},byt a→byt b→Qt a=Qt b→a=b:=by
 intro a b ha hb h
 unfold Qt strOfNums at h
 have h1:(a.map fun x=>UInt8.ofNat x.toNat)=(b.map fun x=>UInt8.ofNat x.toNat):=by
  simpa using h
 clear h
 induction a generalizing b with
 |nil=>cases b with
  |nil=>rfl
  |cons y ys=>simp at h1
 |cons x xs ih=>
  cases b with
  |nil=>simp at h1
  |cons y ys=>
   simp only [List.map_cons,List.cons.injEq]at h1
   have hx:=ha x (by simp)
   have hy:=hb y (by simp)
   have e:x=y:=by
    have:=congrArg UInt8.toNat h1.1
    simp only [UInt8.toNat_ofNat']at this
    omega
   rw [e,ih (fun z hz=>ha z (by simp [hz])) (fun z hz=>hb z (by simp [hz])) h1.2]
theorem agD(v:al4){i:Nat}(hi:i < v.length):(v.take i++j7 (v.length - i) 0).set i v[i]=v.take (i + 1)++j7 (v.length - (i + 1)) 0:=by
 rw [List.set_append_right _ _ (by rw [w4];omega),w4,Nat.min_eq_left (by omega),Nat.sub_self,List.take_add_one,List.getElem?_eq_getElem hi]
 rw [show v.length - i=(v.length - (i + 1)) + 1 by omega,List.replicate_succ]
 simp only [Option.toList,List.set_cons_zero,List.append_assoc,List.cons_append,List.nil_append]
theorem aiD(v:al4)(hl:v.length≤500)(h:byt v):oj v=Qt v∧Fh v=true:=by
 have key:=oU.iter (fun i=>((i:Int),(v.length:Int),v,v.take i++j7 (v.length - i) 0)) 0 v.length (by omega) (fun i hi=> ?_) ?_
 ·simp only [show ((0:Nat):Int)=0 from rfl,List.take_zero,List.nil_append,Nat.sub_zero,Nat.sub_self,List.take_length,List.replicate_zero,List.append_nil]at key
  have g1:leI 0 (v.length:Int)=true:=cw (by omega)
  have g2:leI (v.length:Int) (v.length:Int)=true:=cw (by omega)
  have g3:leI (((1:Nat):Int) * (v.length:Int)) 281474976710656=true:=cw (by omega)
  have g4:leI (v.length:Int) 9223372036854775807=true:=cw (by omega)
  simp only [MU,oj,Fh,q9,key.1,key.2,g1,g2,g3,g4,allT,cond_true,Qt,and_self]
 ·have hw:IntKind.i64.wrap ((i:Int) + 1)=((i + 1:Nat):Int):=jv hi (by omega)
  have h3:ltI (i:Int) (v.length:Int)=true:=cK (by omega)
  have h4:leI 0 (i:Int)=true:=cw (by omega)
  have h5:ltN i v.length=true:=ip hi
  have jL: ∀ d,z8 v[i]? d=v[i]:=fun d=>by rw [List.getElem?_eq_getElem hi];rfl
  have hh:=h _ (List.getElem_mem hi)
  have hw8:IntKind.u8.wrap v[i]=v[i]:=aj8 hh.1 hh.2
  have hl2:(v.take i++j7 (v.length - i) 0).length=v.length:=by simp;omega
  simp only [Kf,Eb,Kg,Kh,Ki,Kj,Kk,Kl,IE,oU,LT.out,allT,hw,h3,h4,h5,jL,hw8,hl2,agD v hi,q9,cond_true]
 ·have h3:ltI (v.length:Int) (v.length:Int)=false:=nA (by omega)
  simp only [Kf,Eb,Kg,Kh,Ki,Kj,Kk,Kl,IE,oU,LT.out,h3,cond_false]
theorem akl(a b:al4)(hl:a.length=b.length)(hm:a.length≤900):vb a b=cmpL a b∧xV a b=true:=by
 have key:=eA.inv (fun k x=> ∃ i:Nat,i + k=a.length∧x=((i:Int),a,b)∧cmpL a b=cmpL (a.drop i) (b.drop i)) (fun j x=>cmpL a b=(bif Nat.beq j 0 then -1 else bif Nat.beq j 1 then 1 else 0)) (fun k x hx=> ?_) (fun x hx=> ?_) a.length ((0:Int),a,b) (by omega) ⟨0,by omega,rfl,rfl⟩
 ·obtain⟨k1,j,y,k2,k3⟩:=key
  simp only [Eo,vb,xV,rc,k1,k2,k3,allT,cond_true,and_true]
 ·obtain⟨i,hi,rfl,hc⟩:=hx
  have gm:i < a.length:=by omega
  have hlt2:i < b.length:=by omega
  have hw:IntKind.i64.wrap ((i:Int) + 1)=((i + 1:Nat):Int):=jv gm (by omega)
  have h3:ltI (i:Int) (a.length:Int)=true:=cK (by omega)
  have h3b:ltI (i:Int) (b.length:Int)=true:=cK (by omega)
  have h4:leI 0 (i:Int)=true:=cw (by omega)
  have h5:ltN i a.length=true:=ip gm
  have h5b:ltN i b.length=true:=ip hlt2
  have jL: ∀ d,z8 a[i]? d=a[i]:=fun d=>by rw [List.getElem?_eq_getElem gm];rfl
  have hget2: ∀ d,z8 b[i]? d=b[i]:=fun d=>by rw [List.getElem?_eq_getElem hlt2];rfl
  rw [List.drop_eq_getElem_cons gm,List.drop_eq_getElem_cons hlt2,cmpL]at hc
  cases h1:ltI a[i] b[i]with
  |true=>
   refine .inl ⟨0,?_,?_⟩
   ·simp only [sJ,sK,rb,nP,uc,ud,ue,xA,rc,xB,xC,wj,eA,LT.out,allT,hw,h3,h3b,h4,h5,h5b,jL,hget2,h1,q9,cond_true]
   ·rw [hc,h1];rfl
  |false=>
   cases h2:ltI b[i] a[i]with
   |true=>
    refine .inl ⟨1,?_,?_⟩
    ·simp only [sJ,sK,rb,nP,uc,ud,ue,xA,rc,xB,xC,wj,eA,LT.out,allT,hw,h3,h3b,h4,h5,h5b,jL,hget2,h1,h2,q9,cond_true,cond_false]
    ·rw [hc,h1,h2];rfl
   |false=>
    refine .inr ⟨((i + 1:Nat),a,b),?_,i + 1,by omega,rfl,?_⟩
    ·simp only [sJ,sK,rb,nP,uc,ud,ue,xA,rc,xB,xC,wj,eA,LT.out,allT,hw,h3,h3b,h4,h5,h5b,jL,hget2,h1,h2,q9,cond_true,cond_false]
    ·rw [hc,h1,h2];rfl
 ·obtain⟨i,hi,rfl,hc⟩:=hx
  have:i=a.length:=by omega
  subst this
  have h3:ltI (a.length:Int) (a.length:Int)=false:=nA (by omega)
  refine⟨2,?_,?_⟩
  ·simp only [sJ,sK,rb,nP,uc,ud,ue,xA,rc,xB,xC,wj,eA,LT.out,h3,cond_false]
  ·rw [hc,List.drop_length,cmpL];rfl
   intro _ _ _ _ h;cases h
theorem akF{lo hi:Nat}(h:lo < hi)(hm:hi≤100000):oX (lo:Int) (hi:Int)=(((lo + hi) / 2:Nat):Int):=by
 unfold oX
 rw [aB (x:=(lo:Int) + hi) (by omega) (by omega),Int.tdiv_eq_ediv_of_nonneg (by omega),aB (by omega) (by omega)]
 omega
theorem afi(m:Nat)(l:al2)(v:al4)(hs:srtL m l)(hv:v.length=m)(hm:m≤900)(hl:l.length≤4000):
  ∃ r:Nat,PlcL l v r∧td l v=(r:Int)∧cg l v=decide (v∈l)∧yc l v=true:=by
 have hcmp: ∀ j (h:j < l.length),vb l[j] v=cmpL l[j] v∧xV l[j] v=true:=fun j h=>by
  have:=hs.1 _ (List.getElem_mem h)
  exact akl _ _ (by omega) (by omega)
 have key:=ln.inv (fun k x=> ∃ lo hi:Nat,x=((lo:Int),(hi:Int),l,v)∧lo≤hi∧hi≤l.length∧hi - lo < 2 ^ k∧(∀ j (h:j < l.length),j < lo→cmpL l[j] v < 0)∧(∀ j (h:j < l.length),hi≤j→0≤cmpL l[j] v))
  (fun _ x=> ∃ r:Nat,x=((r:Int),(r:Int),l,v)∧PlcL l v r) (fun k x hx=> ?_) (fun x hx=> ?_) 12 ((0:Int),(l.length:Int),l,v) (by omega) ⟨0,l.length,rfl,by omega,by omega,by simp;omega,fun j _ h=>by omega,fun j h h'=>by omega⟩
 ·obtain⟨k1,j,y,k2,r,rfl,hp⟩:=key
  refine⟨r,hp,?_,?_,?_⟩
  ·simp only [Dt,oR,ug,Du,td,cg,yc,k2]
  ·simp only [Dt,oR,ug,Du,td,cg,yc,k2]
   rcases Nat.lt_or_ge r l.length with hr | hr
   ·have h3:ltI (r:Int) (l.length:Int)=true:=cK (by omega)
    have jL:l[r]?.getD (sW (CTy.sl (2:Nat) af8))=l[r]:=by rw [List.getElem?_eq_getElem hr];rfl
    simp only [h3,Bool.and_self,cond_true,q9]
    erw [jL]
    rw [(hcmp r hr).1]
    rw [Bool.eq_iff_iff,beq_iff_eq,decide_eq_true_iff,← ahl hs hv hp]
    exact⟨fun h=>⟨hr,h⟩,fun⟨_,h⟩=>h⟩
   ·have h3:ltI (r:Int) (l.length:Int)=false:=nA (by omega)
    simp only [h3,cond_false]
    symm
    rw [decide_eq_false_iff_not,← ahl hs hv hp]
    rintro⟨h,_⟩;omega
  ·simp only [Dt,oR,ug,Du,td,cg,yc,k1,k2,allT,cond_true]
   rcases Nat.lt_or_ge r l.length with hr | hr
   ·have h3:ltI (r:Int) (l.length:Int)=true:=cK (by omega)
    have h4:leI 0 (r:Int)=true:=cw (by omega)
    have h5:ltN r l.length=true:=ip hr
    have jL:l[r]?.getD (sW (CTy.sl (2:Nat) af8))=l[r]:=by rw [List.getElem?_eq_getElem hr];rfl
    simp only [h3,h4,h5,Bool.and_self,cond_true,q9,w7]
    erw [jL]
    rw [(hcmp r hr).2,w7];rfl
   ·have h3:ltI (r:Int) (l.length:Int)=false:=nA (by omega)
    simp only [h3,Bool.false_and,Bool.not_false,Bool.true_or,cond_true]
 ·obtain⟨lo,hi,rfl,h1,h2,h3,h4,h5⟩:=hx
  rcases Nat.lt_or_ge lo hi with gm | hge
  ·have q1:ltI (lo:Int) (hi:Int)=true:=cK (by omega)
   have q2:neI 2 0=true:=rfl
   have hmid:=akF gm (by omega)
   have hml:(lo + hi) / 2 < l.length:=by omega
   generalize hmd:(lo + hi) / 2=md at hmid hml
   have hmb:lo≤md∧md < hi:=by omega
   have q3:leI 0 (md:Int)=true:=cw (by omega)
   have q4:ltI (md:Int) (l.length:Int)=true:=cK (by omega)
   have q5:ltN md l.length=true:=ip hml
   have ha1:yK (lo:Int) (hi:Int) l=l[md]:=by unfold yK;rw [hmid,q9,List.getElem?_eq_getElem hml];rfl
   have hw:IntKind.i64.wrap ((md:Int) + 1)=((md + 1:Nat):Int):=jv hml (by omega)
   obtain⟨c1,c2⟩:=hcmp md hml
   have hlv: ∀ j (h:j < l.length),l[j].length=m:=fun j h=>hs.1 _ (List.getElem_mem h)
   have hpow:2 ^ (k + 1)=2 ^ k * 2:=Nat.pow_succ ..
   cases hc:ltI (cmpL l[md] v) 0 with
   |true=>
    refine .inr ⟨(((md + 1:Nat):Int),(hi:Int),l,v),?_,md + 1,hi,rfl,by omega,h2,by omega,fun j h hj=> ?_,h5⟩
    ·simp only [ln,yC,Al,KF,KG,KH,KI,KJ,KK,KL,ha1,hmid,LT.out,allT,hw,q1,q2,q3,q4,q5,c1,c2,hc,q9,cond_true]
    ·have hc:=Eg.1 hc
     rcases Nat.lt_or_ge j md with h6 | h6
     ·exact Yc (by rw [hlv j h,hlv md hml]) (by rw [hlv md hml,hv]) (ael hs h6 hml) hc
     ·have:j=md:=by omega
      subst this;exact hc
   |false=>
    refine .inr ⟨((lo:Int),(md:Int),l,v),?_,lo,md,rfl,by omega,by omega,by omega,h4,fun j h hj=> ?_⟩
    ·simp only [ln,yC,Al,KF,KG,KH,KI,KJ,KK,KL,ha1,hmid,LT.out,allT,hw,q1,q2,q3,q4,q5,c1,c2,hc,q9,cond_true,cond_false]
    ·have hc:=Gf.1 hc
     rcases Nat.lt_or_ge md j with h6 | h6
     ·rcases Int.lt_or_le (cmpL l[j] v) 0 with h7 | h7
      ·have:=Yc (by rw [hlv md hml,hlv j h]) (by rw [hlv j h,hv]) (ael hs h6 h) h7
       omega
      ·exact h7
     ·have:j=md:=by omega
      subst this;exact hc
  ·have:lo=hi:=by omega
   subst this
   have q1:ltI (lo:Int) (lo:Int)=false:=nA (by omega)
   refine .inl ⟨0,?_,lo,rfl,h2,h4,h5⟩
   simp only [ln,yC,Al,LT.out,q1,cond_false]
 ·obtain⟨lo,hi,rfl,h1,h2,h3,h4,h5⟩:=hx
  have:lo=hi:=by simp at h3;omega
  subst this
  have q1:ltI (lo:Int) (lo:Int)=false:=nA (by omega)
  refine⟨0,?_,lo,rfl,h2,h4,h5⟩
  simp only [ln,yC,Al,LT.out,q1,cond_false]
theorem ahD(m:Nat)(l:al2)(v:al4)(hs:srtL m l)(hv:v.length=m)(hm:m≤900)(hl:l.length≤4000)(hn:v∉l):
  srtL m (uf l v)∧(∀ w,w∈uf l v↔w∈l∨w=v)∧(uf l v).length=l.length + 1∧Ds l v=true:=by
 obtain⟨r,hp,p0,p1,p2⟩:=afi m l v hs hv hm hl
 rw [decide_eq_false hn]at p1
 have Gt:=hp.le
 have e:uf l v=l.take r++ [v]++l.drop r:=by
  simp only [vc,BF,BG,Gm,Gn,uf,Ds,p0,p1,cond_false,q9,show z6 0=0 from rfl,List.drop_zero,List.take_length]
 rw [e]
 refine⟨ajN hs hv hp hn,fun w=>ajt r,?_,?_⟩
 ·simp only [w3,w4,List.length_drop,w5,w6];omega
 ·have g1:leI 0 (r:Int)=true:=cw (by omega)
  have g2:leI (r:Int) (l.length:Int)=true:=cw (by omega)
  have g3:leI (l.length:Int) (l.length:Int)=true:=cw (by omega)
  have l1:leN (0 + min r l.length) 9223372036854775807=true:=iJ (by omega)
  have l2:leN ((0 + min r l.length) * 24) 140737488355328=true:=iJ (by omega)
  have l3:leN (min r l.length + (0 + 1)) 9223372036854775807=true:=iJ (by omega)
  have l4:leN ((min r l.length + (0 + 1)) * 24) 140737488355328=true:=iJ (by omega)
  have l5:leN (min r l.length + (0 + 1) + (l.length - r)) 9223372036854775807=true:=iJ (by omega)
  have l6:leN ((min r l.length + (0 + 1) + (l.length - r)) * 24) 140737488355328=true:=iJ (by omega)
  simp only [vc,BF,BG,Gm,Gn,uf,Ds,p0,p1,p2,allT,q9,show z6 0=0 from rfl,show leI 0 0=true from rfl,List.drop_zero,List.take_length,w3,w4,List.length_drop,w5,w6,g1,g2,g3,l1,l2,l3,l4,l5,l6,w7,Bool.false_or,cond_true]
set_option maxHeartbeats 1000000
structure RuOf (T:Nat) (n:Int) (L:al1) (rs:List RuE):Prop where
 len:rs.length=L.length
 get: ∀ i (h:i < L.length),∃ nm,rs[i]? =some (nm,gK T n L[i],eK T n L[i])
theorem akO(T:Nat)(n:Int)(L:al1):RuOf T n L (L.map (ruK T n)):=
 ⟨List.length_map _,fun i h=>⟨_,by rw [List.getElem?_map,List.getElem?_eq_getElem h];rfl⟩⟩
theorem akP(T:Nat)(n:Int)(L:al1):RuOf T n L (L.map (ruS T n)):=
 ⟨List.length_map _,fun i h=>⟨_,by rw [List.getElem?_map,List.getElem?_eq_getElem h];rfl⟩⟩
def enL(T:Nat)(n:Int)(L:al1)(v:al4):al4:=(List.range L.length).flatMap fun(i:Nat)=>bif hoB v (gK T n (L[i]?.getD (0,0,0)))then [(i:Int)]else []
def apL(T:Nat)(n:Int)(L:al1)(b:Int)(v:al4):al4:=apE v (eK T n (atK L b))
theorem aby{T:Nat}{n:Int}{L:al1}{v:al4}{b:Int}(h:b∈enL T n L v):(0≤b∧b < L.length)∧hoB v (gK T n (atK L b))=true:=by
 simp only [enL,List.mem_flatMap,List.mem_range]at h
 obtain⟨i,hi,h⟩:=h
 cases hh:hoB v (gK T n (L[i]?.getD (0,0,0)))with
 |false=>rw [hh]at h;cases h
 |true=>
  rw [hh]at h
  simp only [cond_true,j8]at h
  subst h
  exact⟨by omega,by simp only [atK,q9];exact hh⟩
theorem agW(T:Nat)(n:Int)(L:al1)(v:al4):(enL T n L v).length≤L.length:=by
 have:=Fe (fun(i:Nat)=>bif hoB v (gK T n (L[i]?.getD (0,0,0)))then [(i:Int)]else []) 1 (fun i=>by cases hoB v (gK T n (L[i]?.getD (0,0,0))) <;> simp) L.length
 unfold enL
 omega
structure KndOk (T d:Nat) (n:Int) (L:al1):Prop where
 T4:T≤4
 n2:2≤n
 n8:n≤8
 d2:d≤2
 L5:L.length≤200
 kk: ∀ x∈L,kOk T n.toNat d x
theorem KndOk.ofB{T d:Nat}{n:Int}{L:al1}(h:KndOk T d n L){b:Int}(hb:0≤b∧b < L.length):kOk T n.toNat d (atK L b):=by
 have gm:b.toNat < L.length:=by omega
 rw [show atK L b=L[b.toNat] by simp [atK,List.getElem?_eq_getElem gm]]
 exact h.kk _ (List.getElem_mem gm)
theorem KndOk.gd{T d:Nat}{n:Int}{L:al1}(h:KndOk T d n L){x:Int×Int×Int}(hx:kOk T n.toNat d x):
  (inT (T + n.toNat + 1) (gK T n x)∧(gK T n x).length≤24)∧inA (T + n.toNat + 1) (eK T n x)∧(eK T n x).length≤4:=by
 obtain⟨r1,r2,r3⟩:=aej h.T4 h.n2 hx
 have:=akI r1
 rw [Tv]at this
 have h2:=aiR r2
 rw [Tv]at h2
 exact⟨this,h2,r3⟩
theorem akR(v:al4)(g:al0)(hg:g.length≤500)(h:inT v.length g):Bh v g=hoB v g∧JR v g=true:=by
 have key:=gO.along (fun i (_:Unit)=>((i:Int),g,v)) (fun _=>()) (fHo v) 1 (fun _ _=>True) g () trivial (by simp [gO] <;> omega) (fun i b a hb _=> ?_) (fun a _=> ?_)
 ·obtain⟨w1,w2⟩:=key
  have RX:=Ln (f:=fHo v) (P:=fun t=> !((v[t.1.toNat]?.getD 0==t.2.1)==t.2.2)) (e:=1) (j:=0) (a:=()) (fun b=>rfl) (r:=g) (i:=0)
  rw [ag7]at RX
  simp only [show ((0:Nat):Int)=0 from rfl]at w1 w2
  simp only [Nf,Bh,JR,w1,w2,RX,allT,cond_true,and_true]
  cases hoB v g <;> rfl
 ·have hi:=(w9.1 hb).1
  have hw:=jv hi (by omega)
  have h3:ltI (i:Int) (g.length:Int)=true:=cK (by omega)
  have h4:leI 0 (i:Int)=true:=cw (by omega)
  have h5:ltN i g.length=true:=ip hi
  have jL: ∀ d,z8 g[i]? d=b:=fun d=>by rw [hb];rfl
  have hv:=h b (List.mem_of_getElem? hb)
  have g1:leI 0 b.1=true:=cw hv.1
  have g2:ltI b.1 (v.length:Int)=true:=cK hv.2
  have g3:ltN b.1.toNat v.length=true:=ip (by omega)
  refine⟨?_,?_,?_,fun _ _=>trivial⟩
  ·cases hq:(z8 v[b.1.toNat]? 0==b.2.1)==b.2.2 <;> simp only [lr,re,tH,tI,Ag,Ah,Ai,Aj,Ak,yB,gO,LT.nds,allT,hw,h3,h4,h5,jL,g1,g2,g3,hq,q9,cond_true,cond_false,Bool.not_true,Bool.not_false] <;> (cases b.2.2 <;> cases (v[b.1.toNat]?.getD 0==b.2.1) <;> rfl)
  ·simp only [lr,re,tH,tI,Ag,Ah,Ai,Aj,Ak,yB,gO,LT.each,hw,true_and,and_true]
  ·simp only [lr,re,tH,tI,Ag,Ah,Ai,Aj,Ak,yB,gO,LT.fn,h3,jL,fHo,q9,cond_true]
 ·have h3:ltI (g.length:Int) (g.length:Int)=false:=nA (by omega)
  simp only [lr,re,tH,tI,Ag,Ah,Ai,Aj,Ak,yB,gO,LT.out,h3,cond_false]
theorem akg{T d:Nat}{n:Int}{L:al1}(hK:KndOk T d n L){v:al4}{b:Int}(hv:v.length=T + n.toNat + 1)(hb:0≤b∧b < L.length):
  im (eK T n (atK L b)) v=apL T n L b v∧io (eK T n (atK L b)) v=true:=by
 have hgd:=hK.gd (hK.ofB hb)
 have h4:=hK.T4
 have h8:=hK.n8
 exact ah6 _ v (by omega) (by omega) (by rw [hv];exact hgd.2.1)
section
variable{T d:Nat}{n:Int}{L:al1}{rs:List RuE}(hK:KndOk T d n L)(hr:RuOf T n L rs)
 include hK hr
theorem akn{v:al4}(hv:v.length=T + n.toNat + 1):gn rs v=enL T n L v∧kx rs v=true:=by
 have hl:=hr.len
 have h5:=hK.L5
 have key:=aQ.gath (fun i a=>((i:Int),(rs.length:Int),rs,v,a)) (fun x=>x.2.2.2.2) (fun(i:Nat)=>bif hoB v (gK T n (L[i]?.getD (0,0,0)))then [(i:Int)]else []) 0 rs.length 1 [] (by omega)
  (fun i _=>by cases hoB v (gK T n (L[i]?.getD (0,0,0))) <;> simp) (fun i a hi ha=> ?_) (fun a=> ?_)
 ·simp only [show ((0:Nat):Int)=0 from rfl,List.nil_append]at key
  rw [hl]at key
  simp only [ol,gn,kx,hl,key.1,key.2,allT,cond_true,enL,and_self]
 ·have hiL:i < L.length:=by omega
  have hw:IntKind.i64.wrap ((i:Int) + 1)=((i + 1:Nat):Int):=jv hi (by omega)
  have h3:ltI (i:Int) (rs.length:Int)=true:=cK (by omega)
  have h4:leI 0 (i:Int)=true:=cw (by omega)
  have h6:ltN i rs.length=true:=ip hi
  obtain⟨nm,hg⟩:=hr.get i hiL
  have ha0:cX (i:Int) rs=gK T n L[i]:=by
   unfold cX;rw [q9,hg];rfl
  have hgd:=hK.gd (hK.kk _ (List.getElem_mem hiL))
  obtain⟨k1,k2⟩:=aiy v (gK T n L[i]) (by omega) (by rw [hv];exact hgd.1.1)
  have hgl:L[i]?.getD (0,0,0)=L[i]:=by rw [List.getElem?_eq_getElem hiL];rfl
  simp only [w6]at ha
  have l1:leN (a.length + (0 + 1)) 9223372036854775807=true:=iJ (by omega)
  have l2:leN ((a.length + (0 + 1)) * 8) 140737488355328=true:=iJ (by omega)
  refine⟨?_,?_,?_⟩
  ·cases hq:hoB v (gK T n L[i]) <;> simp only [aQ,ep,iK,uu,uv,uw,ux,uy,uz,iL,eD,iM,ha0,k1,k2,hq,LT.nds,allT,h3,h4,h6,l1,l2,q9,w5,w6,w7,Bool.true_or,Bool.not_false,Bool.not_true,cond_true,cond_false]
  ·cases hq:hoB v (gK T n L[i]) <;> simp only [aQ,ep,iL,eD,iM,ha0,k1,hq,LT.each,hw,true_and,and_true,and_self]
  ·cases hq:hoB v (gK T n L[i]) <;> simp only [aQ,ep,iK,iL,eD,iM,ha0,k1,hq,hgl,LT.fn,h3,cond_true,cond_false,List.append_nil]
 ·have h3:ltI (rs.length:Int) (rs.length:Int)=false:=nA (by omega)
  simp only [aQ,ep,iK,LT.out,h3,cond_false]
theorem ako{sz st v:al4}(hv:v.length=T + n.toNat + 1):Gk sz st rs v=enL T n L v∧Gl sz st rs v=true:=by
 have hl:=hr.len
 have h5:=hK.L5
 have key:=iF.gath (fun i a=>((i:Int),v,a,sz,st,rs)) (fun x=>x.2.2.1) (fun(i:Nat)=>bif hoB v (gK T n (L[i]?.getD (0,0,0)))then [(i:Int)]else []) 0 rs.length 1 [] (by omega)
  (fun i _=>by cases hoB v (gK T n (L[i]?.getD (0,0,0))) <;> simp) (fun i a hi ha=> ?_) (fun a=> ?_)
 ·simp only [show ((0:Nat):Int)=0 from rfl,List.nil_append]at key
  rw [hl]at key
  simp only [KE,Gk,Gl,hl,key.1,key.2,allT,cond_true,enL,and_self]
 ·have hiL:i < L.length:=by omega
  have hw:IntKind.i64.wrap ((i:Int) + 1)=((i + 1:Nat):Int):=jv hi (by omega)
  have h3:ltI (i:Int) (rs.length:Int)=true:=cK (by omega)
  have h4:leI 0 (i:Int)=true:=cw (by omega)
  have h6:ltN i rs.length=true:=ip hi
  obtain⟨nm,hg⟩:=hr.get i hiL
  have ha0:sL (i:Int) rs=gK T n L[i]:=by
   unfold sL;rw [q9,hg];rfl
  have hgd:=hK.gd (hK.kk _ (List.getElem_mem hiL))
  obtain⟨k1,k2⟩:=akR v (gK T n L[i]) (by omega) (by rw [hv];exact hgd.1.1)
  have hgl:L[i]?.getD (0,0,0)=L[i]:=by rw [List.getElem?_eq_getElem hiL];rfl
  simp only [w6]at ha
  have l1:leN (a.length + (0 + 1)) 9223372036854775807=true:=iJ (by omega)
  have l2:leN ((a.length + (0 + 1)) * 8) 140737488355328=true:=iJ (by omega)
  refine⟨?_,?_,?_⟩
  ·cases hq:hoB v (gK T n L[i]) <;> simp only [iF,wl,xD,NN,NO,NP,NQ,NR,BD,xE,BE,ha0,k1,k2,hq,LT.nds,allT,h3,h4,h6,l1,l2,q9,w5,w6,w7,Bool.true_or,Bool.not_false,Bool.not_true,cond_true,cond_false]
  ·cases hq:hoB v (gK T n L[i]) <;> simp only [iF,wl,xE,BD,BE,ha0,k1,hq,LT.each,hw,true_and,and_true,and_self]
  ·cases hq:hoB v (gK T n L[i]) <;> simp only [iF,wl,xD,xE,BD,BE,ha0,k1,hq,hgl,LT.fn,h3,cond_true,cond_false,List.append_nil]
 ·have h3:ltI (rs.length:Int) (rs.length:Int)=false:=nA (by omega)
  simp only [iF,wl,xD,LT.out,h3,cond_false]
theorem akh{v:al4}{b:Int}(hv:v.length=T + n.toNat + 1)(hb:0≤b∧b < L.length):
  vJ b rs v=apL T n L b v∧JQ b rs v=true:=by
 have hgd:=hK.gd (hK.ofB hb)
 have ht4:=hK.T4
 have hn8:=hK.n8
 have gm:b.toNat < L.length:=by omega
 have hab:atK L b=L[b.toNat]:=by simp [atK,List.getElem?_eq_getElem gm]
 obtain⟨nm,hg⟩:=hr.get b.toNat gm
 have ha0:Ib b rs v=((0:Int),eK T n (atK L b),v):=by
  unfold Ib;rw [hg,hab];rfl
 have h:=hgd.2.1
 rw [← hv]at h
 have he:=hgd.2.2
 unfold apL
 generalize eK T n (atK L b)=es at ha0 h he ⊢
 have key:=oV.iter (fun i=>((i:Int),es,apE v (es.take i))) 0 es.length (by omega) (fun i hi=> ?_) ?_
 ·simp only [show ((0:Nat):Int)=0 from rfl,List.take_zero,List.take_length,show apE v []=v from rfl]at key
  have g1:leN v.length 1048576=true:=iJ (by omega)
  have g2:leI 0 b=true:=cw hb.1
  have g3:ltI b (rs.length:Int)=true:=cK (by rw [hr.len];exact hb.2)
  have g4:ltN b.toNat rs.length=true:=ip (by rw [hr.len];exact gm)
  simp only [vJ,JQ,ha0,key.1,key.2,g1,g2,g3,g4,allT,cond_true,and_self]
 ·have hw:IntKind.i64.wrap ((i:Int) + 1)=((i + 1:Nat):Int):=jv hi (by omega)
  have h3:ltI (i:Int) (es.length:Int)=true:=cK (by omega)
  have h4:leI 0 (i:Int)=true:=cw (by omega)
  have h5:ltN i es.length=true:=ip hi
  have jL: ∀ d,z8 es[i]? d=es[i]:=fun d=>by rw [List.getElem?_eq_getElem hi];rfl
  have hv2:=h _ (List.getElem_mem hi)
  have hl:=abr (es.take i) v
  have g1:leI 0 es[i].1=true:=cw hv2.1
  have g2:ltI es[i].1 (v.length:Int)=true:=cK hv2.2
  have g3:ltN es[i].1.toNat v.length=true:=ip (by omega)
  simp only [sv,Af,Em,En,Kz,KA,KB,KC,KD,IF,oV,LT.out,allT,hw,h3,h4,h5,jL,hl,g1,g2,g3,aey hi,q9,cond_true]
 ·have h3:ltI (es.length:Int) (es.length:Int)=false:=nA (by omega)
  simp only [sv,Af,Em,En,Kz,KA,KB,KC,KD,IF,oV,LT.out,h3,cond_false]
end
abbrev bh:=Int×Int×Int×List Int×List ((List Int)×(Int×(Int×Int)))×List al5×List Int×List Int×List (al5×((List (Int×(Int×Bool)))×(List (Int×Int))))
section
variable (a b c:Int)(d:al4)(e:afG)(f:List al5)(g:aer)
def bL:Int:=z8 d[z6 a]? 0
def gF:Bool:=ltI c (↑e.length:Int)
def gG:Bool:=ltN c.toNat e.length
def gH:al3:=(z8 g[z6 (bL a d)]? (sW aa8)).2.2
def dC:al4×Int×Int×Int:=z8 e[z6 c]? (sW aa9)
def az:al4:=im (gH a d g) ((dC c e).1)
def dD:af7:= [(az a c d e g,c,bL a d,j6 .i64 ((dC c e).2.2.2 + (1:Int)))]
def gU:Bool:=ltI a b
def lV:Bool:=leI 0 a
def lW:Bool:=ltI a (↑d.length:Int)
def lX:Bool:=ltN a.toNat d.length
def lY:Bool:=leI 0 (bL a d)
def lZ:Bool:=ltI (bL a d) (↑g.length:Int)
def ma:Bool:=ltN (z6 (bL a d)) g.length
def mb:Bool:=leI 0 c
def mc:Bool:=gF c e
def me:Bool:=gG c e
def lA:Bool:=io (gH a d g) ((dC c e).1)
def lB:Bool:=Fh (az a c d e g)
def lC:Bool:= !!Xe f (oj (az a c d e g))||leI 0 c
def lD:Bool:= !!Xe f (oj (az a c d e g))||gF c e
def lE:Bool:= !!Xe f (oj (az a c d e g))||gG c e
def lF:Bool:= !!Xe f (oj (az a c d e g))||leN (z7 e + z7 (dD a c d e g)) 9223372036854775807
def lG:Bool:= !!Xe f (oj (az a c d e g))||leN ((z7 e + z7 (dD a c d e g)) * 48) 140737488355328
def lH:Bool:= !Xe f (oj (az a c d e g))
def gE:Int:=j6 .i64 (a + (1:Int))
def sD:afG:=e++dD a c d e g
def sE:List al5:=aex f (oj (az a c d e g))
end
def Bk:bh→List (Nat×SV)
 |(a,b,c,_,_,_,_,_,_)=> [(35,(al9 a)),(34,(al9 b)),(33,(al8 (.ref 0))),(1,(al8 (.ptr 1 0))),(4,(al8 (.ref 2))),(6,(al9 c)),(5,(al8 (.ref 3)))]
def Bj:bh→List (Nat×Entry)
 |(_,_,_,a,b,c,d,e,f)=> [(0,(amb a)),(1,(.box 94 [.ref 4,.ref 5,.ref 6])),(3,(.mp c)),(4,(ama d)),(5,(ama e)),(6,(amc f)),(2,(amo b))]
def Bm:Nat→bh→List (Nat×SV)
 |_,(a,_,_,_,_,_,_,_,_)=> [(4,(al8 (.ref 2))),(35,(al9 a))]
def Bl:Nat→bh→List (Nat×Entry)
 |_,(_,_,_,a,b,c,d,e,f)=> [(0,(amb a)),(1,(.box 94 [.ref 4,.ref 5,.ref 6])),(2,(amo b)),(3,(.mp c)),(4,(ama d)),(5,(ama e)),(6,(amc f))]
def gI:bh→LT bh
 |(a,b,c,d,e,f,g,i,j)=> .ite (gU a b) (.need [lV a,lW a d,lX a d] (.need [lY a d,lZ a d j,ma a d j,mb c,mc c e,me c e,lA a c d e j] (.need [lB a c d e j] (.need [lC a c d e f j,lD a c d e f j,lE a c d e f j,lF a c d e f j,lG a c d e f j] (.ite (lH a c d e f j) (.nrm ((gE a),b,c,d,sD a c d e j,sE a c d e f j,g,i,j) [(0,0),(1,1),(2,2496),(3,3),(4,4),(5,5),(6,6)]) (.nrm ((gE a),b,c,d,e,f,g,i,j) [(0,0),(1,1),(2,2),(3,3),(4,4),(5,5),(6,6)])))))) (.ext 0 [(0,0),(1,1),(2,2),(3,3),(4,4),(5,5),(6,6)])
def lN(s:St):Option bh:=do
 let some ⟨none,.one ⟨false,[.val (.int .i64 a)]⟩⟩:=s.look 35|none
 let some ⟨none,.one ⟨false,[.val (.int .i64 b)]⟩⟩:=s.look 34|none
 let some ⟨none,.one ⟨false,[.ref 704]⟩⟩:=s.look 33|none
 let some ⟨none,.one ⟨false,[.ptr 1 0]⟩⟩:=s.look 1|none
 let some ⟨none,.one ⟨false,[.ref 0]⟩⟩:=s.look 4|none
 let some ⟨none,.one ⟨false,[.val (.int .i64 c)]⟩⟩:=s.look 6|none
 let some ⟨none,.one ⟨false,[.ref 2]⟩⟩:=s.look 5|none
 let some (.row true 2 (.int .i64) d):=s.ent 704|none
 let some (.box 94 [.ref 3,.ref 4,.ref 5]):=s.ent 1|none
 let some (.mp f):=s.ent 2|none
 let some (.row false 2 (.int .i64) g):=s.ent 3|none
 let some (.row false 2 (.int .i64) i):=s.ent 4|none
 let some (.row false 70 (.pair .str (.pair (.sl 125 (.pair (.int .i64) (.pair (.int .i64) .bool))) (.sl 129 (.pair (.int .i64) (.int .i64))))) j):=s.ent 5|none
 let some (.row true 100 (.pair (.sl 2 (.int .i64)) (.pair (.int .i64) (.pair (.int .i64) (.int .i64)))) e):=s.ent 0|none
 some (a,b,c,d,e,f,g,i,j)
def aA:Lp bh where
 h:=⟨[36,37,38,8,39,40,41,42,43,44,45,46,47,48,49,9,50,51,10,52,53,54,55,56,57,58,59,60,61,62,63,64,65,66,67,68,69,70,4,71,35],[0,1,3,4,5,6],[2],[]⟩
 JL:=Bk
 JE:=Bj
 XL:=Bm
 XE:=Bl
 q:=fun j=>match j with | _=> .exit 2
 tags:= [0]
 lt:=gI
 fuel:=fun(a,b,c,d,e,f,g,i,k)=>a.natAbs + b.natAbs + c.natAbs + d.length + e.length + f.length + g.length + i.length + k.length
 fix:=fun(_,b,c,d,_,_,g,i,k) (a,_,_,_,e,f,_,_,_)=>(a,b,c,d,e,f,g,i,k)
 σ:= [(0,704),(1,1),(3,2),(4,3),(5,4),(6,5),(2,0)]
 rd:=lN
theorem AJ:LoopOk prog (memN [21,22,23,24,27,28,29,30,31,32,33,34,35,36,37,38,8,39,40,41,42,43,44,45,46,47,48,49,9,50,51,10,52,53,54,55,56,57,58,59,60,61,62,63,64,65,66,67,68,69,70,4,71,72,73,74,2,3,25,26,6]) aA.F (AP (aI f70 0) 0):=by
 refine Lp.ok (tbl:= (T3z [ac,sZ,bu,bS])) (lf:= []) aS aA (by kernel_rfl) (LOk.nil _) (fun _=>rfl) (fun _ _=>rfl) ?_ ?_ ?_ ?_ (fun _=>rfl) ?_
 ·intro _;kernel_rfl
 ·intro _;kernel_rfl
 ·intro s x h
  have h:lN s=some x:=h
  unfold lN at h
  repeat' split at h
  all_goals cases h
  constructor<;>repeat(first|refine aa ‹_› rfl ?_|refine ab rfl ‹_› rfl ?_|rfl)
 ·intro _;kernel_rfl
 ·intro _ _;exact(And.intro (And.intro rfl rfl) trivial)
abbrev bE:=Int×List ((List Int)×(Int×(Int×Int)))×List al5×List Int×List Int×List (al5×((List (Int×(Int×Bool)))×(List (Int×Int))))
section
variable (a:Int)(b:afG)(c:List al5)(d e:al4)(f:aer)
def em:al4:=(z8 b[z6 a]? (sW aa9)).1
def ij:Int×Int×Int×al4×af7×List al5×al4×al4×aeT:=((0:Int),(↑(z7 (gn f (em a b))):Int),a,gn f (em a b),b,c,d,e,f)
def ik:af7×List al5×al4×al4×aeT:=(Lp.res aA (ij a b c d e f)).2.2.2.2.2
def nf:af7:=(ik a b c d e f).1
def iN:Bool:=ltI a (↑b.length:Int)
def uA:Bool:=leI 0 a
def uB:Bool:=ltN a.toNat b.length
def uC:Bool:=kx f (em a b)
def uD:Bool:=Lp.fin aA (ij a b c d e f)
def uE:Bool:=ltI 4000 (↑(z7 (nf a b c d e f)):Int)
def nF:List al5:=((ik a b c d e f).2).1
def uF:Int:=j6 .i64 (a + (1:Int))
def uG:afG:=nf a b c d e f
end
def CV:bE→List (Nat×SV)
 |(a,_,_,_,_,_)=> [(6,(al9 a)),(4,(al8 (.ref 0))),(1,(al8 (.ptr 1 0))),(5,(al8 (.ref 2)))]
def CQ:bE→List (Nat×Entry)
 |(_,a,b,c,d,e)=> [(1,(.box 94 [.ref 3,.ref 4,.ref 5])),(2,(.mp b)),(3,(ama c)),(4,(ama d)),(5,(amc e)),(0,(amo a))]
def Df:Nat→bE→List (Nat×SV)
 |0,(_,_,_,_,_,_)=> [(2,(al8 (.ref 6))),(3,(al8 (.val (.bool false))))]
 |_,(_,_,_,_,_,_)=> [(4,(al8 (.ref 0)))]
def Da:Nat→bE→List (Nat×Entry)
 |0,(a,b,c,d,e,f)=> [(1,(.box 94 [.ref 3,.ref 4,.ref 5])),(2,(.mp (nF a b c d e f))),(3,(ama d)),(4,(ama e)),(5,(amc f)),(6,(amo []))]
 |_,(_,b,c,d,e,f)=> [(0,(amo b)),(1,(.box 94 [.ref 3,.ref 4,.ref 5])),(2,(.mp c)),(3,(ama d)),(4,(ama e)),(5,(amc f))]
def nh:bE→LT bE
 |(a,b,c,d,e,f)=> .ite (iN a b) (.need [uA a,iN a b,uB a b,uC a b f] (.need [uD a b c d e f] (.ite (uE a b c d e f) (.ext 0 [(1,1),(2,2),(3,3),(4,4),(5,5),(6,1152)]) (.nrm ((uF a),uG a b c d e f,nF a b c d e f,d,e,f) [(0,896),(1,1),(2,2),(3,3),(4,4),(5,5)])))) (.ext 1 [(0,0),(1,1),(2,2),(3,3),(4,4),(5,5)])
def np(s:St):Option bE:=do
 let some ⟨none,.one ⟨false,[.val (.int .i64 a)]⟩⟩:=s.look 6|none
 let some ⟨none,.one ⟨false,[.ref 704]⟩⟩:=s.look 4|none
 let some ⟨none,.one ⟨false,[.ptr 256 0]⟩⟩:=s.look 1|none
 let some ⟨none,.one ⟨false,[.ref 832]⟩⟩:=s.look 5|none
 let some (.box 94 [.ref 0,.ref 1,.ref 2]):=s.ent 256|none
 let some (.mp c):=s.ent 832|none
 let some (.row false 2 (.int .i64) d):=s.ent 0|none
 let some (.row false 2 (.int .i64) e):=s.ent 1|none
 let some (.row false 70 (.pair .str (.pair (.sl 125 (.pair (.int .i64) (.pair (.int .i64) .bool))) (.sl 129 (.pair (.int .i64) (.int .i64))))) f):=s.ent 2|none
 let some (.row true 100 (.pair (.sl 2 (.int .i64)) (.pair (.int .i64) (.pair (.int .i64) (.int .i64)))) b):=s.ent 704|none
 some (a,b,c,d,e,f)
def an:Lp bE where
 h:=⟨[21,22,23,24,27,28,29,30,31,32,33,34,35,36,37,38,8,39,40,41,42,43,44,45,46,47,48,49,9,50,51,10,52,53,54,55,56,57,58,59,60,61,62,63,64,65,66,67,68,69,70,4,71,72,73,74,2,3,25,26,6],[1,2,3,4,5],[0],[6]⟩
 JL:=CV
 JE:=CQ
 XL:=Df
 XE:=Da
 q:=fun j=>match j with | 0=> .ret | _=> .exit 0
 tags:= [0,1]
 lt:=nh
 fuel:=fun(a,b,c,d,e,f)=>a.natAbs + b.length + c.length + d.length + e.length + f.length
 fix:=fun(_,_,_,d,e,f) (a,b,c,_,_,_)=>(a,b,c,d,e,f)
 σ:= [(1,256),(2,832),(3,0),(4,1),(5,2),(0,704)]
 rd:=np
theorem BZ:LoopOk prog (fun k=>Nat.blt k Tryz.f70.ntmps) an.F (aI f70 0):=by
 refine Lp.ok (tbl:= (T3z [ac,sZ,bu,bS])) (lf:= [aA.F]) aS an (by kernel_rfl) (LOk.allT (l:= [AP (aI f70 0) 0]) (by kernel_rfl) (.cons AJ (.nil _))) (fun _=>rfl) (fun j _=>by unfold an;match j with | 0=>rfl | _ + 1=>rfl) ?_ ?_ ?_ ?_ (fun _=>rfl) ?_
 ·intro _;kernel_rfl
 ·intro _;kernel_rfl
 ·intro s x h
  have h:np s=some x:=h
  unfold np at h
  repeat' split at h
  all_goals cases h
  constructor<;>repeat(first|refine aa ‹_› rfl ?_|refine ab rfl ‹_› rfl ?_|rfl)
 ·intro _;kernel_rfl
 ·intro _ _;exact(And.intro (And.intro trivial rfl) trivial)
section
variable (a b:al4)(c:aeT)
def fJ:Int×af7×List al5×al4×al4×aeT:=((0:Int),[(b,(-1:Int),(0:Int),(0:Int))],aex [] (oj b),a,b,c)
def om:Bool:=Nat.beq ((Lp.res an (fJ a b c)).1) 0
def gp:Bool:=bif om a b c then false else true
def ky:afG:=bif om a b c then []else ((Lp.res an (fJ a b c)).2.2).1
def kz:Bool:=allT [leN 1 b.length&&leN b.length (1048576:Nat),Fh b,Lp.fin an (fJ a b c)]
end
def wc:al6
 | [.one ⟨true,[.ref 0,.ref 1,.ref 2]⟩],[.row false 2 (.int .i64) a,.row false 2 (.int .i64) b,.row false 70 (.pair (.str) (.pair (.sl 125 (.pair (.int .i64) (.pair (.int .i64) (.bool)))) (.sl 129 (.pair (.int .i64) (.int .i64))))) c]=>some ⟨.tup [⟨false,[.ref 3]⟩,⟨false,[.val (.bool (gp a b c))]⟩],[ama a,ama b,aml c],[amo (ky a b c)],[kz a b c]⟩
 |_,_=>none
def pN:PF prog:=PF.ofG prog (T3z [ac,sZ,bu,bS]) [an.F] aS 70 f70 func70 (LOk.fnT (l:= [aI f70 0]) (by kernel_rfl) (.cons BZ (.nil _))) wc (by
 intro _ _ _ h;unfold wc at h;split at h<;>cases h;kernel_rfl)
abbrev mN:=Int×Int×List Int×Bool×List (List Int)×List (List Int)×List (List Int)×List Int×List Int×List (al5×((List (Int×(Int×Bool)))×(List (Int×Int))))
section
variable (a b:Int)(c:al4)(d:Bool)(e f g:al2)(i:aer)
def ib:Int:=z8 c[z6 a]? 0
def nQ:al4:=z8 e[z6 b]? (sW afH)
def uh:al4:=z8 f[z6 b]? (sW afH)
def BH:al4:=uh b f++ [ib a c]
def yL:Bool:=bif ltI a (↑c.length:Int)then !d else false
def Ji:Bool:=leI 0 b
def OG:Bool:=ltI b (↑e.length:Int)
def OH:Bool:=ltN b.toNat e.length
def Jj:Bool:=leI 0 a
def Jk:Bool:=ltI a (↑c.length:Int)
def Jl:Bool:=ltN a.toNat c.length
def OI:Bool:=JQ (ib a c) i (nQ b e)
def OJ:Bool:=ltI b (↑f.length:Int)
def OK:Bool:=ltN b.toNat f.length
def NS:Bool:=leN (z7 (uh b f)) 1048576
def NT:Bool:=leN (z7 (uh b f) + z7 [ib a c]) (9223372036854775807:Nat)
def NU:Bool:=leN ((z7 (uh b f) + z7 [ib a c]) * (8:Nat)) 140737488355328
def NV:Bool:=Cn (vJ (ib a c) i (nQ b e)) (BH a b c f) e f g
def NW:Int:=j6 .i64 (a + (1:Int))
def NX:Bool:=Ck d (vJ (ib a c) i (nQ b e)) e g
def NY:al2:=Cl (vJ (ib a c) i (nQ b e)) e g
def NZ:al2:=Cm (vJ (ib a c) i (nQ b e)) (BH a b c f) e f g
def Oa:al2:=yV (vJ (ib a c) i (nQ b e)) e g
end
def UK:mN→List (Nat×SV)
 |(a,b,_,_,_,_,_,_,_,_)=> [(6,(al9 a)),(5,(al8 (.ref 0))),(3,(al8 (.ptr 1 0))),(1,(al8 (.ptr 2 0))),(4,(al9 b))]
def UH:mN→List (Nat×Entry)
 |(_,_,a,b,c,d,e,f,g,i)=> [(0,(amb a)),(1,(.box 79 [.ref 3,.ref 4,.ref 5,.val (.bool b)])),(2,(.box 94 [.ref 6,.ref 7,.ref 8])),(6,(ama f)),(7,(ama g)),(8,(amc i)),(3,(ame c)),(4,(ame d)),(5,(amk e))]
def UV:Nat→mN→List (Nat×SV)
 |_,(a,_,_,_,_,_,_,_,_,_)=> [(6,(al9 a))]
def US:Nat→mN→List (Nat×Entry)
 |_,(_,_,a,b,c,d,e,f,g,i)=> [(0,(amb a)),(1,(.box 79 [.ref 3,.ref 4,.ref 5,.val (.bool b)])),(2,(.box 94 [.ref 6,.ref 7,.ref 8])),(3,(ame c)),(4,(ame d)),(5,(amk e)),(6,(ama f)),(7,(ama g)),(8,(amc i))]
def xk:mN→LT mN
 |(a,b,c,d,e,f,g,i,j,k)=> .ite (yL a c d) (.need [Ji b,OG b e,OH b e,Jj a,Jk a c,Jl a c,OI a b c e k,Ji b,OJ b f,OK b f,NS b f,Jj a,Jk a c,Jl a c,NT a b c f,NU a b c f,NV a b c e f g k] (.nrm ((NW a),b,c,NX a b c d e g k,NY a b c e g k,NZ a b c e f g k,Oa a b c e g k,i,j,k) [(0,0),(1,1),(2,2),(3,2560),(4,2561),(5,2562),(6,6),(7,7),(8,8)])) (.ext 0 [(0,0),(1,1),(2,2),(3,3),(4,4),(5,5),(6,6),(7,7),(8,8)])
def Hs(s:St):Option mN:=do
 let some ⟨none,.one ⟨false,[.val (.int .i64 a)]⟩⟩:=s.look 6|none
 let some ⟨none,.one ⟨false,[.ref 1472]⟩⟩:=s.look 5|none
 let some ⟨none,.one ⟨false,[.ptr 0 0]⟩⟩:=s.look 3|none
 let some ⟨none,.one ⟨false,[.ptr 1 0]⟩⟩:=s.look 1|none
 let some ⟨none,.one ⟨false,[.val (.int .i64 b)]⟩⟩:=s.look 4|none
 let some (.row true 2 (.int .i64) c):=s.ent 1472|none
 let some (.box 79 [.ref 2,.ref 3,.ref 4,.val (.bool d)]):=s.ent 0|none
 let some (.box 94 [.ref 5,.ref 6,.ref 7]):=s.ent 1|none
 let some (.row false 2 (.int .i64) i):=s.ent 5|none
 let some (.row false 2 (.int .i64) j):=s.ent 6|none
 let some (.row false 70 (.pair .str (.pair (.sl 125 (.pair (.int .i64) (.pair (.int .i64) .bool))) (.sl 129 (.pair (.int .i64) (.int .i64))))) k):=s.ent 7|none
 let some (.row true 24 (.sl 2 (.int .i64)) e):=s.ent 2|none
 let some (.row true 24 (.sl 2 (.int .i64)) f):=s.ent 3|none
 let some (.row false 24 (.sl 2 (.int .i64)) g):=s.ent 4|none
 some (a,b,c,d,e,f,g,i,j,k)
def fM:Lp mN where
 h:=⟨[40,41,42,43,44,45,46,47,48,49,50,53,54,55,56,57,58,59,60,61,62,63,64,65,66,67,68,69,70,71,72,73,74,75,76,77,78,79,80,81,51,52,6],[0,1,2,6,7,8],[3,4,5],[]⟩
 JL:=UK
 JE:=UH
 XL:=UV
 XE:=US
 q:=fun j=>match j with | _=> .exit 2
 tags:= [0]
 lt:=xk
 fuel:=fun(a,b,c,_,e,f,g,i,k,l)=>a.natAbs + b.natAbs + c.length + e.length + f.length + g.length + i.length + k.length + l.length
 fix:=fun(_,b,c,_,_,_,_,i,k,l) (a,_,_,d,e,f,g,_,_,_)=>(a,b,c,d,e,f,g,i,k,l)
 σ:= [(0,1472),(1,0),(2,1),(6,5),(7,6),(8,7),(3,2),(4,3),(5,4)]
 rd:=Hs
theorem Tm:LoopOk prog (memN [15,16,17,18,19,20,21,22,23,24,25,26,27,28,31,32,33,34,35,36,37,38,39,5,6,40,41,42,43,44,45,46,47,48,49,50,53,54,55,56,57,58,59,60,61,62,63,64,65,66,67,68,69,70,71,72,73,74,75,76,77,78,79,80,81,51,52,29,30,4]) fM.F (AP (aI f54 0) 0):=by
 refine Lp.ok (tbl:= [aF,PF.lend aF,PF.fz aF,wR,PF.fzBut 24 wR,PF.fzBut 24 (PF.frAt 5 wR),pV,PF.lend pV,PF.fz pV,ta,PF.lend ta,PF.fz ta]) (lf:= []) aS fM (by kernel_rfl) (LOk.nil _) (fun _=>rfl) (fun _ _=>rfl) ?_ ?_ ?_ ?_ (fun _=>rfl) ?_
 ·intro _;kernel_rfl
 ·intro _;kernel_rfl
 ·intro s x h
  have h:Hs s=some x:=h
  unfold Hs at h
  repeat' split at h
  all_goals cases h
  constructor<;>repeat(first|refine aa ‹_› rfl ?_|refine ab rfl ‹_› rfl ?_|rfl)
 ·intro _;kernel_rfl
 ·intro _ _;exact(And.intro rfl trivial)
abbrev rr:=Int×Bool×List (List Int)×List (List Int)×List (List Int)×List Int×List Int×List (al5×((List (Int×(Int×Bool)))×(List (Int×Int))))
section
variable (a:Int)(b:Bool)(c d e:al2)(f g:al4)(i:aer)
def Gp:al4:=z8 c[z6 a]? (sW afH)
def Gq:Int×Int×al4×Bool×al2×al2×al2×al4×al4×aeT:=((0:Int),a,Gk f g i (Gp a c),b,c,d,e,f,g,i)
def Gr:Bool×al2×al2×al2×al4×al4×aeT:=(Lp.res fM (Gq a b c d e f g i)).2.2.2.2
def Mp:al2×al2×al2×al4×al4×aeT:=(Gr a b c d e f g i).2
def Mq:al2×al2×al4×al4×aeT:=(Mp a b c d e f g i).2
def Dv:Bool:=bif ltI a (↑c.length:Int)then !b else false
def Sq:Bool:=leI 0 a
def Sr:Bool:=ltI a (↑c.length:Int)
def Ss:Bool:=ltN a.toNat c.length
def Su:Bool:=Gl f g i (Gp a c)
def Sv:Bool:=Lp.fin fM (Gq a b c d e f g i)
def Sw:Int:=j6 .i64 (a + (1:Int))
def Sx:Bool:=(Gr a b c d e f g i).1
def Sy:al2:=(Mp a b c d e f g i).1
def Sz:al2:=(Mq a b c d e f g i).1
def Re:al2:=((Mq a b c d e f g i).2).1
end
def YL:rr→List (Nat×SV)
 |(a,_,_,_,_,_,_,_)=> [(4,(al9 a)),(3,(al8 (.ptr 0 0))),(1,(al8 (.ptr 1 0)))]
def YJ:rr→List (Nat×Entry)
 |(_,a,b,c,d,e,f,g)=> [(0,(.box 79 [.ref 2,.ref 3,.ref 4,.val (.bool a)])),(1,(.box 94 [.ref 5,.ref 6,.ref 7])),(5,(ama e)),(6,(ama f)),(7,(amc g)),(2,(ame b)),(3,(ame c)),(4,(amk d))]
def YP:Nat→rr→List (Nat×SV)
 |_,_=>[]
def YN:Nat→rr→List (Nat×Entry)
 |_,(_,a,b,c,d,e,f,g)=> [(0,(.box 79 [.ref 2,.ref 3,.ref 4,.val (.bool a)])),(1,(.box 94 [.ref 5,.ref 6,.ref 7])),(2,(ame b)),(3,(ame c)),(4,(amk d)),(5,(ama e)),(6,(ama f)),(7,(amc g))]
def Bz:rr→LT rr
 |(a,b,c,d,e,f,g,i)=> .ite (Dv a b c) (.need [Sq a,Sr a c,Ss a c,Su a c f g i] (.need [Sv a b c d e f g i] (.nrm ((Sw a),Sx a b c d e f g i,Sy a b c d e f g i,Sz a b c d e f g i,Re a b c d e f g i,f,g,i) [(0,0),(1,1),(2,1664),(3,1665),(4,1666),(5,5),(6,6),(7,7)]))) (.ext 0 [(0,0),(1,1),(2,2),(3,3),(4,4),(5,5),(6,6),(7,7)])
def Ma(s:St):Option rr:=do
 let some ⟨none,.one ⟨false,[.val (.int .i64 a)]⟩⟩:=s.look 4|none
 let some ⟨none,.one ⟨false,[.ptr 448 0]⟩⟩:=s.look 3|none
 let some ⟨none,.one ⟨false,[.ptr 256 0]⟩⟩:=s.look 1|none
 let some (.box 79 [.ref 896,.ref 897,.ref 898,.val (.bool b)]):=s.ent 448|none
 let some (.box 94 [.ref 0,.ref 1,.ref 2]):=s.ent 256|none
 let some (.row false 2 (.int .i64) f):=s.ent 0|none
 let some (.row false 2 (.int .i64) g):=s.ent 1|none
 let some (.row false 70 (.pair .str (.pair (.sl 125 (.pair (.int .i64) (.pair (.int .i64) .bool))) (.sl 129 (.pair (.int .i64) (.int .i64))))) i):=s.ent 2|none
 let some (.row true 24 (.sl 2 (.int .i64)) c):=s.ent 896|none
 let some (.row true 24 (.sl 2 (.int .i64)) d):=s.ent 897|none
 let some (.row false 24 (.sl 2 (.int .i64)) e):=s.ent 898|none
 some (a,b,c,d,e,f,g,i)
def jW:Lp rr where
 h:=⟨[15,16,17,18,19,20,21,22,23,24,25,26,27,28,31,32,33,34,35,36,37,38,39,5,6,40,41,42,43,44,45,46,47,48,49,50,53,54,55,56,57,58,59,60,61,62,63,64,65,66,67,68,69,70,71,72,73,74,75,76,77,78,79,80,81,51,52,29,30,4],[0,1,5,6,7],[2,3,4],[]⟩
 JL:=YL
 JE:=YJ
 XL:=YP
 XE:=YN
 q:=fun j=>match j with | _=> .exit 0
 tags:= [0]
 lt:=Bz
 fuel:=fun(a,_,c,d,e,f,g,i)=>a.natAbs + c.length + d.length + e.length + f.length + g.length + i.length
 fix:=fun(_,_,_,_,_,f,g,i) (a,b,c,d,e,_,_,_)=>(a,b,c,d,e,f,g,i)
 σ:= [(0,448),(1,256),(5,0),(6,1),(7,2),(2,896),(3,897),(4,898)]
 rd:=Ma
theorem Xd:LoopOk prog (fun k=>Nat.blt k Tryz.f54.ntmps) jW.F (aI f54 0):=by
 refine Lp.ok (tbl:= [aF,PF.lend aF,PF.fz aF,wR,PF.fzBut 24 wR,PF.fzBut 24 (PF.frAt 5 wR),pV,PF.lend pV,PF.fz pV,ta,PF.lend ta,PF.fz ta]) (lf:= [fM.F]) aS jW (by kernel_rfl) (LOk.allT (l:= [AP (aI f54 0) 0]) (by kernel_rfl) (.cons Tm (.nil _))) (fun _=>rfl) (fun _ _=>rfl) ?_ ?_ ?_ ?_ (fun _=>rfl) ?_
 ·intro _;kernel_rfl
 ·intro _;kernel_rfl
 ·intro s x h
  have h:Ma s=some x:=h
  unfold Ma at h
  repeat' split at h
  all_goals cases h
  constructor<;>repeat(first|refine aa ‹_› rfl ?_|refine ab rfl ‹_› rfl ?_|rfl)
 ·intro _;kernel_rfl
 ·intro _ _;exact(And.intro rfl trivial)
section
variable (a b:al4)(c:aeT)
def Mn:Int×Bool×al2×al2×al2×al4×al4×aeT:=((0:Int),Ck false b [] [],Cl b [] [],Cm b [] [] [] [],yV b [] [],a,b,c)
def Mo:Bool×al2×al2×al2×al4×al4×aeT:=(Lp.res jW (Mn a b c)).2.2
def PV:al2×al2×al2×al4×al4×aeT:=(Mo a b c).2
def PW:al2×al2×al4×al4×aeT:=(PV a b c).2
def Co:Bool:=(Mo a b c).1
def JD:al2:=(PV a b c).1
def JF:al2:=(PW a b c).1
def RH:al2:=((PW a b c).2).1
def Fw:Bool:=allT [leN b.length (1048576:Nat),Cn b [] [] [] [],Lp.fin jW (Mn a b c)]
end
def Xn:al6
 | [.one ⟨true,[.ref 0,.ref 1,.ref 2]⟩],[.row false 2 (.int .i64) a,.row false 2 (.int .i64) b,.row false 70 (.pair (.str) (.pair (.sl 125 (.pair (.int .i64) (.pair (.int .i64) (.bool)))) (.sl 129 (.pair (.int .i64) (.int .i64))))) c]=>some ⟨al8 (.ptr 3 0),[ama a,ama b,aml c],[.box 79 [.ref 4,.ref 5,.ref 6,.val (.bool (Co a b c))],ame (JD a b c),ame (JF a b c),amk (RH a b c)],[Fw a b c]⟩
 |_,_=>none
def ac0:PF prog:=PF.ofG prog [aF,PF.lend aF,PF.fz aF,wR,PF.fzBut 24 wR,PF.fzBut 24 (PF.frAt 5 wR),pV,PF.lend pV,PF.fz pV,ta,PF.lend ta,PF.fz ta] [jW.F] aS 54 f54 func54 (LOk.fnT (l:= [aI f54 0]) (by kernel_rfl) (.cons Xd (.nil _))) Xn (by
 intro _ _ _ h;unfold Xn at h;split at h<;>cases h;kernel_rfl)
end Go.SX
