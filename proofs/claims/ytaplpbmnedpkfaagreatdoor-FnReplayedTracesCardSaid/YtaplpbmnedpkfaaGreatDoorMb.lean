/- What functions of the program come to, and what that says in plain words: part 2. -/
import Derived.Test.YtaplpbmnedpkfaaGreatDoorMa
import Derived.Test.YtaplpbmnedpkfaaGreatDoorTXh
import Derived.Test.YtaplpbmnedpkfaaGreatDoorProg
import Derived.Test.YtaplpbmnedpkfaaGreatDoorTXi
set_option linter.unusedSimpArgs false
set_option linter.unusedVariables false
open Bool renaming and_eq_true → q8
open Int renaming toNat_natCast → q9
open List renaming length_append → w5
open List renaming length_cons → w6
open List renaming length_nil → w7
open Bool renaming or_true → w8
open List renaming length_replicate → w9
open List renaming getElem?_eq_some_iff → z1
open Int renaming toNat → z6
open List renaming length → z7
open Option renaming getD → z8
open Go.IntKind renaming wrap → j6
open List renaming replicate → j7
namespace Go.SX
open Go.Proofs Go.Proofs.Tryz
set_option maxRecDepth 100000
variable{X C:Type}
theorem Lp.gath(p:Lp X)(st:Nat→List C→X)(pr:X→List C)(g:Nat→List C)(e n m:Nat)(acc:List C)(hn:n≤999)
  (hg: ∀ i,i < n→(g i).length≤m)
  (hs: ∀ i a,i < n→a.length≤acc.length + i * m→(p.lt (st i a)).nds=true∧(p.lt (st i a)).each (fun y=>y=st (i + 1) (pr y))∧(p.lt (st i a)).fn pr= .inr (a++g i))
  (he: ∀ a,(p.lt (st n a)).out=some (.inl e)):
  p.fin (st 0 acc)=true∧p.res (st 0 acc)=(e,st n (acc++(List.range n).flatMap g)):=by
 have kn:=p.run (Lf st (fun(i:Nat) (a:List C)=>(.inr (a++g i):Nat ⊕ List C)) e (fun i a=>a.length≤acc.length + i * m) (List.range n) (fun i b a hb hI=>by
  obtain⟨rfl,iM⟩:=Ld hb
  obtain⟨h1,h2,h3⟩:=hs b a iM hI
  refine⟨by rw [LT.out_of h1 h2,h3],fun a' ha=> ?_⟩
  cases ha
  have:=hg b iM
  rw [w5,Nat.succ_mul];omega) (fun a _=>by rw [List.length_range];exact he a) (List.range n) 0 acc rfl (by simp) (by simp)) (Uq (by rw [List.length_range];omega))
 rw [CB (g:=fun a i=>a++g i) (fun _ _=>rfl)]at kn
 have hf: ∀ (l:List Nat) (a:List C),l.foldl (fun a i=>a++g i) a=a++l.flatMap g:=by
  intro l
  induction l with
  |nil=>intro a;simp
  |cons i l ih=>intro a;rw [List.foldl_cons,ih,List.flatMap_cons,List.append_assoc]
 rw [hf,List.length_range,Nat.zero_add]at kn
 exact kn
theorem xK{a b m:Nat}(h:a≤m)(hb:b≤999)(hm:m≤100000):leN (a + b) 9223372036854775807=true:=qf (by omega)
theorem IG{a b m:Nat}(h:a≤m)(hb:b≤999)(hm:m≤100000):leN ((a + b) * 24) 140737488355328=true:=qf (by omega)
theorem XJ{a b m:Nat}(h:a≤m)(hb:b≤999)(hm:m≤100000):leN ((a + b) * 88) 140737488355328=true:=qf (by omega)
theorem adh(i b:Int)(s:Bool)(acc:aeh)(hl:acc.length≤1000):
  cV.fin ((0:Int),s,i,b,acc)=true∧cV.res ((0:Int),s,i,b,acc)=(0,((4:Nat):Int),s,i,b,acc++trK s i b):=by
 have kn:=cV.gath (fun k a=>((k:Int),s,i,b,a)) (fun x=>x.2.2.2.2) (fun(k:Nat)=>bif((k:Int)!=2||s)then [((k:Int),i,b)]else []) 0 4 1 acc (by decide)
  (fun k _=>by cases ((k:Int)!=2||s) <;> simp) (fun k a hk ha=> ?_) (fun a=>by rfl)
 ·have e:trK s i b=(List.range 4).flatMap (fun(k:Nat)=>bif((k:Int)!=2||s)then [((k:Int),i,b)]else []):=by cases s <;> rfl
  rw [e];exact kn
 ·have hw:IntKind.i64.wrap ((k:Int) + 1)=((k + 1:Nat):Int):=mO hk (by decide)
  have h3:leI (k:Int) 3=true:=du (by omega)
  have l1:=xK (b:=1) (show a.length≤1004 by omega) (by decide) (by decide)
  have l2:=IG (b:=1) (show a.length≤1004 by omega) (by decide) (by decide)
  refine⟨?_,?_,?_⟩
  ·simp [md,me,te,tf,tg,th,qp,ti,sk,cV,LT.nds,allT,h3,l1,l2]
  ·simp [md,me,te,tf,tg,th,qp,ti,sk,cV,LT.each,h3,hw]
  ·cases hk2:(k:Int)==2 <;> cases s <;> simp [md,me,te,tf,tg,th,qp,ti,sk,cV,LT.fn,h3,hk2,bne]
theorem TL(s:Bool)(i b:Int):(trK s i b).length≤4:=by cases s <;> simp [trK]
theorem TE(s:Bool)(b k:Int):(ftK s b k).length≤3:=by cases s <;> simp [ftK]
theorem TK(s:Bool)(B i:Nat):(tkL s B i).length≤B * 4:=BZ _ 4 (fun(b:Nat)=>TL s i b) B
theorem ZD(s:Bool)(d b:Nat):(fkL s d b).length≤d * 3:=BZ _ 3 (fun(j:Nat)=>TE s b _) d
theorem adi(i n:Int)(s:Bool)(ps:aek)(acc:aeh)(hn:0≤n∧n≤8)(hl:acc.length≤400):
  dv.fin ((0:Int),s,i,n,acc,ps)=true∧dv.res ((0:Int),s,i,n,acc,ps)=(0,(n,s,i,n,acc++(List.range n.toNat).flatMap fun(b:Nat)=>trK s i b,ps)):=by
 obtain⟨m,rfl⟩:=Int.eq_ofNat_of_zero_le hn.1
 simp only [q9]
 have kn:=dv.gath (fun k a=>((k:Int),s,i,(m:Int),a,ps)) (fun x=>x.2.2.2.2.1) (fun(b:Nat)=>trK s i b) 0 m 4 acc (by omega)
  (fun b _=>TL s i b) (fun b a hb ha=> ?_) (fun a=> ?_)
 ·exact kn
 ·have hw:IntKind.i64.wrap ((b:Int) + 1)=((b + 1:Nat):Int):=mO hb (by omega)
  have h3:ltI (b:Int) (m:Int)=true:=eV (by omega)
  obtain⟨w1,w2⟩:=adh i (b:Int) s a (by omega)
  refine⟨?_,?_,?_⟩
  ·simp [pH,sx,sy,sA,sB,rz,dv,LT.nds,allT,h3,w1]
  ·simp [pH,sx,sy,sA,sB,rz,dv,LT.each,h3,hw]
  ·simp [pH,sx,sy,sA,sB,rz,dv,LT.fn,h3,w2]
 ·have h3:ltI (m:Int) (m:Int)=false:=qW (by omega)
  simp [pH,sx,sy,sA,sB,rz,dv,LT.out,h3]
theorem adj(n:Int)(s:Bool)(ps:aek)(hT:isT n ps=true):
  fT.fin ((0:Int),s,n,[],ps)=true∧fT.res ((0:Int),s,n,[],ps)=(0,((ps.length:Int),s,n,(List.range ps.length).flatMap (tkL s n.toNat),ps)):=by
 obtain⟨h1,h2,_⟩:=gt.1 hT
 have kn:=fT.gath (fun k a=>((k:Int),s,n,a,ps)) (fun x=>x.2.2.2.1) (tkL s n.toNat) 0 ps.length 32 [] (by omega)
  (fun i _=>Nat.le_trans (TK s n.toNat i) (by omega)) (fun i a hi ha=> ?_) (fun a=> ?_)
 ·exact kn
 ·simp only [w7]at ha
  have hw:IntKind.i64.wrap ((i:Int) + 1)=((i + 1:Nat):Int):=mO hi (by omega)
  have h3:ltI (i:Int) (ps.length:Int)=true:=eV (by omega)
  obtain⟨w1,w2⟩:=adi (i:Int) n s ps a (by omega) (by omega)
  refine⟨?_,?_,?_⟩
  ·simp [rL,vM,vN,vO,vP,ui,fT,LT.nds,allT,h3,w1]
  ·simp [rL,vM,vN,vO,vP,ui,fT,LT.each,h3,hw]
  ·simp [rL,vM,vN,vO,vP,ui,fT,LT.fn,h3,w2,tkL]
 ·have h3:ltI (ps.length:Int) (ps.length:Int)=false:=qW (by omega)
  simp [rL,vM,vN,vO,vP,ui,fT,LT.out,h3]
theorem adk(b k:Int)(s:Bool)(acc:aeh)(hl:acc.length≤1000):
  cW.fin ((4:Int),s,b,k,acc)=true∧cW.res ((4:Int),s,b,k,acc)=(0,((7:Int),s,b,k,acc++ftK s b k)):=by
 have kn:=cW.gath (fun j a=>(((j + 4:Nat):Int),s,b,k,a)) (fun x=>x.2.2.2.2) (fun(j:Nat)=>bif(((j + 4:Nat):Int)!=6||s)then [(((j + 4:Nat):Int),b,k)]else []) 0 3 1 acc (by decide)
  (fun j _=>by cases (((j + 4:Nat):Int)!=6||s) <;> simp) (fun j a hj ha=> ?_) (fun a=>by rfl)
 ·have e:ftK s b k=(List.range 3).flatMap (fun(j:Nat)=>bif(((j + 4:Nat):Int)!=6||s)then [(((j + 4:Nat):Int),b,k)]else []):=by cases s <;> rfl
  rw [e];exact kn
 ·have hw:IntKind.i64.wrap (((j + 4:Nat):Int) + 1)=((j + 1 + 4:Nat):Int):=by rw [aC (by omega) (by omega)];omega
  have h3:leI ((j + 4:Nat):Int) 6=true:=du (by omega)
  have l1:=xK (b:=1) (show a.length≤1003 by omega) (by decide) (by decide)
  have l2:=IG (b:=1) (show a.length≤1003 by omega) (by decide) (by decide)
  generalize ((j + 4:Nat):Int)=q at hw h3
  refine⟨?_,?_,?_⟩
  ·simp [mf,mg,tj,tm,tn,tp,qq,tq,sm,cW,LT.nds,allT,h3,l1,l2]
  ·simp [mf,mg,tj,tm,tn,tp,qq,tq,sm,cW,LT.each,h3,hw]
  ·cases hk2:q==6 <;> cases s <;> simp [mf,mg,tj,tm,tn,tp,qq,tq,sm,cW,LT.fn,h3,hk2,bne]
theorem adl(b d:Int)(s:Bool)(acc:aeh)(hd:0≤d∧d≤2)(hl:acc.length≤400):
  dw.fin (d,s,b,acc)=true∧dw.res (d,s,b,acc)=(0,((0:Int),s,b,acc++(List.range d.toNat).flatMap fun(j:Nat)=>ftK s b ((d.toNat:Int) - (j:Int)))):=by
 obtain⟨m,rfl⟩:=Int.eq_ofNat_of_zero_le hd.1
 simp only [q9]
 have kn:=dw.gath (fun j a=>(((m:Int) - (j:Int)),s,b,a)) (fun x=>x.2.2.2) (fun(j:Nat)=>ftK s b ((m:Int) - (j:Int))) 0 m 3 acc (by omega)
  (fun j _=>TE s b _) (fun j a hj ha=> ?_) (fun a=> ?_)
 ·have e1:(m:Int) - ((0:Nat):Int)=(m:Int):=by omega
  have e2:(m:Int) - ((m:Nat):Int)=0:=by omega
  simp only [e1,e2]at kn
  exact kn
 ·have hw:IntKind.i64.wrap ((m:Int) - (j:Int) - 1)=(m:Int) - ((j + 1:Nat):Int):=by rw [aC (by omega) (by omega)];omega
  have h3:ltI 0 ((m:Int) - (j:Int))=true:=eV (by omega)
  obtain⟨w1,w2⟩:=adk b ((m:Int) - (j:Int)) s a (by omega)
  refine⟨?_,?_,?_⟩
  ·simp [pI,sC,sD,sE,sF,rA,dw,LT.nds,allT,h3,w1]
  ·simp [pI,sC,sD,sE,sF,rA,dw,LT.each,h3,hw]
  ·simp [pI,sC,sD,sE,sF,rA,dw,LT.fn,h3,w2]
 ·have h3:ltI 0 ((m:Int) - ((m:Nat):Int))=false:=qW (by omega)
  simp [pI,sC,sD,sE,sF,rA,dw,LT.out,h3]
theorem adm(n d:Int)(s:Bool)(ps:aek)(acc:aeh)(hn:0≤n∧n≤8)(hd:0≤d∧d≤2)(hl:acc.length≤200):
  fU.fin ((0:Int),d,s,n,acc,ps)=true∧fU.res ((0:Int),d,s,n,acc,ps)=(0,(n,d,s,n,acc++(List.range n.toNat).flatMap (fkL s d.toNat),ps)):=by
 obtain⟨m,rfl⟩:=Int.eq_ofNat_of_zero_le hn.1
 simp only [q9]
 have kn:=fU.gath (fun k a=>((k:Int),d,s,(m:Int),a,ps)) (fun x=>x.2.2.2.2.1) (fkL s d.toNat) 0 m 6 acc (by omega)
  (fun b _=>Nat.le_trans (ZD s d.toNat b) (by omega)) (fun b a hb ha=> ?_) (fun a=> ?_)
 ·exact kn
 ·have hw:IntKind.i64.wrap ((b:Int) + 1)=((b + 1:Nat):Int):=mO hb (by omega)
  have h3:ltI (b:Int) (m:Int)=true:=eV (by omega)
  obtain⟨w1,w2⟩:=adl (b:Int) d s a hd (by omega)
  refine⟨?_,?_,?_⟩
  ·simp [rM,vQ,vR,vS,vT,uj,fU,LT.nds,allT,h3,w1]
  ·simp [rM,vQ,vR,vS,vT,uj,fU,LT.each,h3,hw]
  ·simp [rM,vQ,vR,vS,vT,uj,fU,LT.fn,h3,w2,fkL]
 ·have h3:ltI (m:Int) (m:Int)=false:=qW (by omega)
  simp [rM,vQ,vR,vS,vT,uj,fU,LT.out,h3]
def isR(n d:Int)(ps:aek):Bool:=isT n ps&&inR d 0 2
theorem Hj{n d:Int}{ps:aek}:isR n d ps=true↔isT n ps=true∧0≤d∧d≤2:=by rw [isR,q8,pa]
theorem abc(n d:Int)(s:Bool)(ps:aek)(h:isR n d ps=true):HS n d s ps=kL ps.length n.toNat d.toNat s∧HT n d s ps=true:=by
 obtain⟨hT,hd⟩:=Hj.1 h
 obtain⟨h1,h2,_⟩:=gt.1 hT
 obtain⟨a1,a2⟩:=adj n s ps hT
 have hl:((List.range ps.length).flatMap (tkL s n.toNat)).length≤128:=by
  have:=BZ (tkL s n.toNat) 32 (fun i=>Nat.le_trans (TK s n.toNat i) (by omega)) ps.length
  omega
 obtain⟨b1,b2⟩:=adm n d s ps ((List.range ps.length).flatMap (tkL s n.toNat)) (by omega) hd (by omega)
 simp [GZ,Ha,HS,HT,a1,a2,b1,b2,kL,allT]
def Mx:aem
 | [.one ⟨true,[.val (.int .i64 a),.ref 0]⟩,.one ⟨false,[.val (.int .i64 b)]⟩,.one ⟨false,[.val (.bool c)]⟩],[.row false 2 (.int .i64) d]=>some ⟨aeo (.ref 1),[aeq d],[aex (kL d.length a.toNat b.toNat c)],[isR a b d]⟩
 |_,_=>none
def ed:PF prog:=PF.alt Tx Mx (by
 intro args es o h ec;unfold Mx at h;split at h
 ·rename_i a b c d
  cases h
  have ec:=Bq ec
  have hh:=abc a b c d ec
  obtain⟨e0,en⟩:=hh
  exact yF rfl (tw en) rfl rfl (by simp only [e0] <;> rfl)
 ·cases h)
def nmK(x:Int×Int×Int):ael:=jg x.1 x.2.1 x.2.2
abbrev Zx:=(ael×((List (Int×(Int×Bool)))×(List (Int×Int))))×(Int×(Int×Int))
def ruK(T:Nat)(n:Int)(x:Int×Int×Int):ael×((aec)×(aej)):=(nmK x,gK T n x,eK T n x)
def rrK(T:Nat)(n:Int)(x:Int×Int×Int):Zx:=(ruK T n x,x)
theorem aby{a:Int}(ha:0≤a∧a≤100):Ci a=true∧(mq a).size≤21:=by
 have h1:leI (-9223372036854775808) a=true:=du (by omega)
 have h2:leI a 9223372036854775807=true:=du (by omega)
 refine⟨by simp [Ci,allT,h1,h2],?_⟩
 exact LU ha.1 (by omega)
theorem Qt{k a b:Int}(hk:0≤k∧k≤6)(ha:0≤a∧a≤100)(hb:0≤b∧b≤100):ml k a b=true:=by
 obtain⟨a1,a2⟩:=aby ha
 obtain⟨b1,b2⟩:=aby hb
 have h0:leI 0 k=true:=du hk.1
 have h1:ltI k (Yf.length:Int)=true:=eV (by have:Yf.length=7:=rfl;omega)
 have h2:ltN k.toNat Yf.length=true:=lR (by have:Yf.length=7:=rfl;omega)
 have hs:(rG k).size≤8:=by
  have hc:k=0∨k=1∨k=2∨k=3∨k=4∨k=5∨k=6:=by omega
  rcases hc with rfl | rfl | rfl | rfl | rfl | rfl | rfl <;> decide
 have h5:(ByteArray.mk #[95]).size=1:=rfl
 have s1:(lj k).size≤9:=by rw [lj,ByteArray.size_append,h5];omega
 have s2:(lj k++mq a).size≤30:=by rw [ByteArray.size_append];omega
 have s3:(rH k a).size≤31:=by rw [rH,ByteArray.size_append,h5];omega
 have t1:leN ((rG k).size + (ByteArray.mk #[95]).size) 9223372036854775807=true:=qf (by omega)
 have t2:leN ((lj k).size + (mq a).size) 9223372036854775807=true:=qf (by omega)
 have t3:leN ((lj k++mq a).size + (ByteArray.mk #[95]).size) 9223372036854775807=true:=qf (by omega)
 have t4:leN ((rH k a).size + (mq b).size) 9223372036854775807=true:=qf (by omega)
 simp only [ml,allT,h0,h1,h2,t1,a1,t2,t3,b1,t4,cond_true]
theorem adq(T:Nat)(a b c:Int)(acc:aeg)(hT:T≤4)(hb:0≤b∧b≤8)(hc:0≤c∧c≤8)(hl:acc.length≤3):
  aw.fin ((0:Int),(T:Int),a,b,c,acc)=true∧aw.res ((0:Int),(T:Int),a,b,c,acc)=(0,((T:Int),(T:Int),a,b,c,acc++Rs T a b c)):=by
 have kn:=aw.gath (fun k l=>((k:Int),(T:Int),a,b,c,l)) (fun x=>x.2.2.2.2.2) (fun(o:Nat)=>bif(o:Int)==a then []else oth b c (o:Int)) 0 T 4 acc (by omega)
  (fun o _=>by cases (o:Int)==a <;> simp [oth]) (fun o l ho hL=> ?_) (fun l=> ?_)
 ·exact kn
 ·have hw:IntKind.i64.wrap ((o:Int) + 1)=((o + 1:Nat):Int):=mO ho (by omega)
  have h3:ltI (o:Int) (T:Int)=true:=eV (by omega)
  have q1:IntKind.i64.wrap (3 * b)=3 * b:=aC (by omega) (by omega)
  have q2:IntKind.i64.wrap (3 * b + 2)=3 * b + 2:=aC (by omega) (by omega)
  have q3:IntKind.i64.wrap (3 * c)=3 * c:=aC (by omega) (by omega)
  have q4:IntKind.i64.wrap (3 * c + 1)=3 * c + 1:=aC (by omega) (by omega)
  have q5:IntKind.i64.wrap (3 * c + 2)=3 * c + 2:=aC (by omega) (by omega)
  have l1:=xK (b:=4) (show l.length≤23 by omega) (by decide) (by decide)
  have l2:=IG (b:=4) (show l.length≤23 by omega) (by decide) (by decide)
  refine⟨?_,?_,?_⟩
  ·cases ho2:(o:Int)==a <;> simp [bD,bE,dG,dH,dI,dJ,cG,dK,dr,aw,LT.nds,allT,h3,ho2,bne,l1,l2]
  ·cases ho2:(o:Int)==a <;> simp [bD,bE,dG,dH,dI,dJ,cG,dK,dr,aw,LT.each,h3,hw,ho2,bne]
  ·cases ho2:(o:Int)==a <;> simp [bD,bE,dG,dH,dI,dJ,cG,dK,dr,aw,LT.fn,h3,ho2,bne,oth,q1,q2,q3,q4,q5]
 ·have h3:ltI (T:Int) (T:Int)=false:=qW (by omega)
  simp [bD,bE,dG,dH,dI,dJ,cG,dK,dr,aw,LT.out,h3]
theorem GG(ps:aek)(h:ps.length≤1000000):ax ps=(ps.length:Int):=by
 first
  |rfl
  |(simp only [ax];rw [aC (by omega) (by omega)])
theorem abA{n:Int}{s:Bool}{i b:Int}{ps:aek}(hT:isT n ps=true)(hi:0≤i∧i < ps.length)(hb:0≤b∧b < n):
  cj n s i b ps=(trK s i b).map (rrK ps.length n)∧eU n s i b ps=true:=by
 obtain⟨h1,h2,_⟩:=gt.1 hT
 have hc:0≤Int.tmod (b + 1) n∧Int.tmod (b + 1) n < n:=by
  rcases HC h1.1 hb with⟨h1,h2⟩ | ⟨h1,h2⟩ <;> rw [h1] <;> omega
 have q1:IntKind.i64.wrap (3 * b)=3 * b:=aC (by omega) (by omega)
 have q2:IntKind.i64.wrap (3 * b + 1)=3 * b + 1:=aC (by omega) (by omega)
 have q3:IntKind.i64.wrap (3 * b + 2)=3 * b + 2:=aC (by omega) (by omega)
 have q4:IntKind.i64.wrap (b + 1)=b + 1:=aC (by omega) (by omega)
 have q5:IntKind.i64.wrap ((ps.length:Int) + Int.tmod (b + 1) n)=(ps.length:Int) + Int.tmod (b + 1) n:=aC (by omega) (by omega)
 have q6:IntKind.i64.wrap (3 * Int.tmod (b + 1) n)=3 * Int.tmod (b + 1) n:=aC (by omega) (by omega)
 have hln:=GG ps (by omega)
 obtain⟨w1,w2⟩:=adq ps.length i b (Int.tmod (b + 1) n) [(i,3 * b + 1,true),((ps.length:Int) + Int.tmod (b + 1) n,2,false),((ps.length:Int) + Int.tmod (b + 1) n,3,false)] (by omega) (by omega) (by omega) (by simp)
 have Hy:neI n 0=true:=by simp;omega
 have r0:=Qt (k:=0) (a:=i) (b:=b) (by omega) (by omega) (by omega)
 have r1:=Qt (k:=1) (a:=i) (b:=b) (by omega) (by omega) (by omega)
 have r2:=Qt (k:=2) (a:=i) (b:=b) (by omega) (by omega) (by omega)
 have r3:=Qt (k:=3) (a:=i) (b:=b) (by omega) (by omega) (by omega)
 constructor
 ·cases s <;> simp [ew,ex,ey,ez,gO,gP,gQ,bx,eA,eB,bm,cj,eU,hln,q1,q2,q3,q4,q5,q6,w2,trK,rrK,ruK,nmK,gK,eK]
 ·cases s <;> simp [ew,ex,ey,ez,gO,gP,gQ,bx,eA,eB,bm,cj,eU,allT,hln,q1,q2,q3,q4,q5,q6,w1,Hy,r0,r1,r2,r3,leN]
theorem aa2{n:Int}{s:Bool}{b k:Int}{ps:aek}(hT:isT n ps=true)(hb:0≤b∧b < n)(hk:1≤k∧k≤2):
  ci n s b k ps=(ftK s b k).map (rrK ps.length n)∧eT n s b k ps=true:=by
 obtain⟨h1,h2,_⟩:=gt.1 hT
 have q1:IntKind.i64.wrap ((ps.length:Int) + b)=(ps.length:Int) + b:=aC (by omega) (by omega)
 have q2:IntKind.i64.wrap ((ps.length:Int) + n)=(ps.length:Int) + n:=aC (by omega) (by omega)
 have q3:IntKind.i64.wrap (k - 1)=k - 1:=aC (by omega) (by omega)
 have hln:=GG ps (by omega)
 have r4:=Qt (k:=4) (a:=b) (b:=k) (by omega) (by omega) (by omega)
 have r5:=Qt (k:=5) (a:=b) (b:=k) (by omega) (by omega) (by omega)
 have r6:=Qt (k:=6) (a:=b) (b:=k) (by omega) (by omega) (by omega)
 constructor
 ·cases s <;> simp [gN,cO,ee,ci,eT,bR,cL,bS,bT,hln,q1,q2,q3,ftK,rrK,ruK,nmK,gK,eK]
 ·cases s <;> simp [gN,cO,ee,ci,eT,bR,cL,bS,bT,allT,hln,r4,r5,r6,leN]
theorem Ri{A B C:Type}(f:A→List B)(h:B→C)(l:List A):(l.flatMap f).map h=l.flatMap fun a=>(f a).map h:=by
 induction l with
 |nil=>rfl
 |cons a l ih=>rw [List.flatMap_cons,List.flatMap_cons,List.map_append,ih]
theorem ads(i:Nat)(n d:Int)(s:Bool)(ps:aek)(acc:List Zx)(hT:isT n ps=true)(hi:i < ps.length)(hl:acc.length≤400):
  aA.fin ((0:Int),n,(i:Int),acc,n,d,s,ps)=true∧aA.res ((0:Int),n,(i:Int),acc,n,d,s,ps)=(0,(n,n,(i:Int),acc++(tkL s n.toNat i).map (rrK ps.length n),n,d,s,ps)):=by
 obtain⟨h1,h2,_⟩:=gt.1 hT
 obtain⟨m,rfl⟩:=Int.eq_ofNat_of_zero_le (show 0≤n by omega)
 simp only [q9]
 have kn:=aA.gath (fun k a=>((k:Int),(m:Int),(i:Int),a,(m:Int),d,s,ps)) (fun x=>x.2.2.2.1) (fun(b:Nat)=>(trK s i b).map (rrK ps.length m)) 0 m 4 acc (by omega)
  (fun b _=>by rw [List.length_map];exact TL s i b) (fun b a hb ha=> ?_) (fun a=> ?_)
 ·rw [tkL,Ri];exact kn
 ·have hw:IntKind.i64.wrap ((b:Int) + 1)=((b + 1:Nat):Int):=mO hb (by omega)
  have h3:ltI (b:Int) (m:Int)=true:=eV (by omega)
  obtain⟨w1,w2⟩:=abA (s:=s) (i:=(i:Int)) (b:=(b:Int)) hT (by omega) (by omega)
  have hb4:=TL s (i:Int) (b:Int)
  have l1:=xK (b:=((trK s (i:Int) (b:Int)).map (rrK ps.length m)).length) (show a.length≤500 by omega) (by rw [List.length_map];omega) (by decide)
  have l2:=XJ (b:=((trK s (i:Int) (b:Int)).map (rrK ps.length m)).length) (show a.length≤500 by omega) (by rw [List.length_map];omega) (by decide)
  refine⟨?_,?_,?_⟩
  ·simp only [ef,eg,ei,ej,ek,em,dU,aA,LT.nds,allT,h3,w1,w2,l1,l2,cond_true,Bool.and_self,Bool.true_and]
  ·simp [ef,eg,ei,ej,ek,em,dU,aA,LT.each,h3,hw]
  ·simp only [ef,eg,ei,ej,ek,em,dU,aA,LT.fn,h3,w1,cond_true]
 ·have h3:ltI (m:Int) (m:Int)=false:=qW (by omega)
  simp [ef,eg,ei,ej,ek,em,dU,aA,LT.out,h3]
theorem adt(n d:Int)(s:Bool)(ps:aek)(hT:isT n ps=true):
  aE.fin ((0:Int),(ps.length:Int),n,d,s,[],ps)=true∧aE.res ((0:Int),(ps.length:Int),n,d,s,[],ps)=(0,((ps.length:Int),(ps.length:Int),n,d,s,((List.range ps.length).flatMap (tkL s n.toNat)).map (rrK ps.length n),ps)):=by
 obtain⟨h1,h2,_⟩:=gt.1 hT
 have kn:=aE.gath (fun k a=>((k:Int),(ps.length:Int),n,d,s,a,ps)) (fun x=>x.2.2.2.2.2.1) (fun i=>(tkL s n.toNat i).map (rrK ps.length n)) 0 ps.length 32 [] (by omega)
  (fun i _=>by rw [List.length_map];exact Nat.le_trans (TK s n.toNat i) (by omega)) (fun i a hi ha=> ?_) (fun a=> ?_)
 ·rw [Ri];exact kn
 ·simp only [w7]at ha
  have hw:IntKind.i64.wrap ((i:Int) + 1)=((i + 1:Nat):Int):=mO hi (by omega)
  have h3:ltI (i:Int) (ps.length:Int)=true:=eV (by omega)
  obtain⟨w1,w2⟩:=ads i n d s ps a hT hi (by omega)
  refine⟨?_,?_,?_⟩
  ·simp only [cZ,fF,fG,fH,fJ,fg,aE,LT.nds,allT,h3,w1,cond_true,Bool.and_self,Bool.true_and]
  ·simp [cZ,fF,fG,fH,fJ,fg,aE,LT.each,h3,hw]
  ·simp only [cZ,fF,fG,fH,fJ,fg,aE,LT.fn,h3,w2,cond_true]
 ·have h3:ltI (ps.length:Int) (ps.length:Int)=false:=qW (by omega)
  simp [cZ,fF,fG,fH,fJ,fg,aE,LT.out,h3]
theorem adu(b:Nat)(n d:Int)(s:Bool)(ps:aek)(acc:List Zx)(hT:isT n ps=true)(hb:(b:Int) < n)(hd:0≤d∧d≤2)(hl:acc.length≤400):
  aB.fin (d,(b:Int),acc,n,d,s,ps)=true∧aB.res (d,(b:Int),acc,n,d,s,ps)=(0,((0:Int),(b:Int),acc++(fkL s d.toNat b).map (rrK ps.length n),n,d,s,ps)):=by
 obtain⟨h1,h2,_⟩:=gt.1 hT
 obtain⟨m,rfl⟩:=Int.eq_ofNat_of_zero_le hd.1
 simp only [q9]
 have kn:=aB.gath (fun j a=>((m:Int) - (j:Int),(b:Int),a,n,(m:Int),s,ps)) (fun x=>x.2.2.1) (fun(j:Nat)=>(ftK s b ((m:Int) - (j:Int))).map (rrK ps.length n)) 0 m 3 acc (by omega)
  (fun j _=>by rw [List.length_map];exact TE s b _) (fun j a hj ha=> ?_) (fun a=> ?_)
 ·have e1:(m:Int) - ((0:Nat):Int)=m:=by omega
  have e2:(m:Int) - (m:Int)=0:=by omega
  simp only [e1,e2]at kn
  rw [fkL,Ri];exact kn
 ·have hw:IntKind.i64.wrap ((m:Int) - (j:Int) - 1)=(m:Int) - ((j + 1:Nat):Int):=by rw [aC (by omega) (by omega)];omega
  have h3:ltI 0 ((m:Int) - (j:Int))=true:=eV (by omega)
  obtain⟨w1,w2⟩:=aa2 (s:=s) (b:=(b:Int)) (k:=(m:Int) - (j:Int)) hT (by omega) (by omega)
  have hb4:=TE s (b:Int) ((m:Int) - (j:Int))
  have l1:=xK (b:=((ftK s (b:Int) ((m:Int) - (j:Int))).map (rrK ps.length n)).length) (show a.length≤500 by omega) (by rw [List.length_map];omega) (by decide)
  have l2:=XJ (b:=((ftK s (b:Int) ((m:Int) - (j:Int))).map (rrK ps.length n)).length) (show a.length≤500 by omega) (by rw [List.length_map];omega) (by decide)
  refine⟨?_,?_,?_⟩
  ·simp only [eo,ep,eq,er,et,eu,dV,aB,LT.nds,allT,h3,w1,w2,l1,l2,cond_true,Bool.and_self,Bool.true_and]
  ·simp [eo,ep,eq,er,et,eu,dV,aB,LT.each,h3,hw]
  ·simp only [eo,ep,eq,er,et,eu,dV,aB,LT.fn,h3,w1,cond_true]
 ·have h3:ltI 0 ((m:Int) - (m:Int))=false:=qW (by omega)
  simp [eo,ep,eq,er,et,eu,dV,aB,LT.out,h3]
theorem adv(n d:Int)(s:Bool)(ps:aek)(acc:List Zx)(hT:isT n ps=true)(hd:0≤d∧d≤2)(hl:acc.length≤200):
  aF.fin ((0:Int),n,n,d,s,acc,ps)=true∧aF.res ((0:Int),n,n,d,s,acc,ps)=(0,(n,n,n,d,s,acc++((List.range n.toNat).flatMap (fkL s d.toNat)).map (rrK ps.length n),ps)):=by
 obtain⟨h1,h2,_⟩:=gt.1 hT
 obtain⟨m,rfl⟩:=Int.eq_ofNat_of_zero_le (show 0≤n by omega)
 simp only [q9]
 have kn:=aF.gath (fun k a=>((k:Int),(m:Int),(m:Int),d,s,a,ps)) (fun x=>x.2.2.2.2.2.1) (fun b=>(fkL s d.toNat b).map (rrK ps.length m)) 0 m 6 acc (by omega)
  (fun b _=>by rw [List.length_map];exact Nat.le_trans (ZD s d.toNat b) (by omega)) (fun b a hb ha=> ?_) (fun a=> ?_)
 ·rw [Ri];exact kn
 ·have hw:IntKind.i64.wrap ((b:Int) + 1)=((b + 1:Nat):Int):=mO hb (by omega)
  have h3:ltI (b:Int) (m:Int)=true:=eV (by omega)
  obtain⟨w1,w2⟩:=adu b m d s ps a hT (by omega) hd (by omega)
  refine⟨?_,?_,?_⟩
  ·simp only [da,fK,fL,fM,fN,fh,aF,LT.nds,allT,h3,w1,cond_true,Bool.and_self,Bool.true_and]
  ·simp [da,fK,fL,fM,fN,fh,aF,LT.each,h3,hw]
  ·simp only [da,fK,fL,fM,fN,fh,aF,LT.fn,h3,w2,cond_true]
 ·have h3:ltI (m:Int) (m:Int)=false:=qW (by omega)
  simp [da,fK,fL,fM,fN,fh,aF,LT.out,h3]
theorem abu(n d:Int)(s:Bool)(ps:aek)(h:isR n d ps=true):pb n d s ps=(kL ps.length n.toNat d.toNat s).map (rrK ps.length n)∧pc n d s ps=true:=by
 obtain⟨hT,hd⟩:=Hj.1 h
 obtain⟨h1,h2,_⟩:=gt.1 hT
 have hln:=GG ps (by omega)
 obtain⟨a1,a2⟩:=adt n d s ps hT
 have hl:(((List.range ps.length).flatMap (tkL s n.toNat)).map (rrK ps.length n)).length≤128:=by
  have:=BZ (tkL s n.toNat) 32 (fun i=>Nat.le_trans (TK s n.toNat i) (by omega)) ps.length
  rw [List.length_map];omega
 obtain⟨b1,b2⟩:=adv n d s ps _ hT hd (by omega:(((List.range ps.length).flatMap (tkL s n.toNat)).map (rrK ps.length n)).length≤200)
 simp [oL,oM,pb,pc,hln,a1,a2,b1,b2,kL,allT]
def tJ:aem
 | [.one ⟨true,[.val (.int .i64 a),.ref 0,.val (.int .i64 b),.val (.bool c)]⟩],[.row false 2 (.int .i64) d]=>some ⟨aeo (.ref 1),[aeq d],[aew ((kL d.length a.toNat b.toNat c).map (rrK d.length a))],[isR a b d]⟩
 |_,_=>none
def ak:PF prog:=PF.alt CT tJ (by
 intro args es o h ec;unfold tJ at h;split at h
 ·rename_i a b c d
  cases h
  have ec:=Bq ec
  have hh:=abu a b c d ec
  obtain⟨e0,en⟩:=hh
  exact yF rfl (tw en) rfl rfl (by simp only [e0] <;> rfl)
 ·cases h)
def Sc(a:Int):Bool:= !aP a 1 32
def Kw:aem
 | [.one ⟨false,[.val (.int .i64 a)]⟩],[]=>some ⟨aeo (.val (.bool (Sc a))),[],[],[]⟩
 |_,_=>none
def Sn:PF prog:=PF.ofG prog [kb] [] bB 48 f48 func48 (fun c _=>LOk.nil c) Kw (by
 intro _ _ _ h;unfold Kw at h;split at h<;>cases h;kernel_rfl)
section
variable (a b:Int)(c:aek)
def gu:Bool:=aP a 0 (j6 .i64 (ax c - (1:Int)))
def de:Bool:=bif gu a c then aP b 0 (j6 .i64 (z8 c[z6 a]? 0 - (1:Int)))else false
def df:Bool:=allT [!(gu a c&&true)||leI 0 a,!(gu a c&&true)||ltI a (↑c.length:Int),!(gu a c&&true)||ltN a.toNat c.length]
end
def tX:aem
 | [.one ⟨true,[.ref 0,.ref 1,.ref 2]⟩,.one ⟨false,[.val (.int .i64 a)]⟩,.one ⟨false,[.val (.int .i64 b)]⟩],[.row false 2 (.int .i64) c,.row false 2 (.int .i64) d,.row false 60 (.pair (.str) (.pair (.sl 100 (.pair (.int .i64) (.pair (.int .i64) (.bool)))) (.sl 103 (.pair (.int .i64) (.int .i64))))) e]=>some ⟨aeo (.val (.bool (de a b c))),[aeq c,aeq d,aeC e],[],[df a c]⟩
 |_,_=>none
def ai:PF prog:=PF.ofG prog (T3z [kb,ae]) [] bB 70 f70 func70 (fun c _=>LOk.nil c) tX (by
 intro _ _ _ h;unfold tX at h;split at h<;>cases h;kernel_rfl)
abbrev bu:=Int×Int×List Int×List Int×List Int×List (ael×((List (Int×(Int×Bool)))×(List (Int×Int))))
section
variable (a b:Int)(c d:aek)
def za:Bool:=ltI a b
def zb:Bool:=leI 0 a
def zc:Bool:=ltI a (↑c.length:Int)
def zd:Bool:=ltN a.toNat c.length
def ze:Bool:=df a d
def zf:Bool:= !de a (z8 c[z6 a]? 0) d
def zg:Int:=j6 .i64 (a + (1:Int))
end
def yw:bu→List (Nat×SV)
 |(a,b,_,_,_,_)=> [(15,(aep a)),(14,(aep b)),(13,(aeo (.ref 0))),(2,(aeo (.ptr 1 0)))]
def yq:bu→List (Nat×Entry)
 |(_,_,a,b,c,d)=> [(0,(aeq a)),(1,(.box 35 [.ref 2,.ref 3,.ref 4])),(2,(aeq b)),(3,(aeq c)),(4,(aes d))]
def yC:Nat→bu→List (Nat×SV)
 |0,(_,_,_,_,_,_)=> [(4,(aeo (.val (.bool false))))]
 |_,_=>[]
def yJ:bu→LT bu
 |(a,b,c,d,e,f)=> .ite (za a b) (.need [zb a,zc a c,zd a c] (.need [ze a d] (.ite (zf a c d) (.ext 0 [(0,0),(1,1),(2,2),(3,3),(4,4)]) (.nrm ((zg a),b,c,d,e,f) [(0,0),(1,1),(2,2),(3,3),(4,4)])))) (.ext 1 [(0,0),(1,1),(2,2),(3,3),(4,4)])
def lI(s:St):Option bu:=do
 let some ⟨none,.one ⟨false,[.val (.int .i64 a)]⟩⟩:=s.look 15|none
 let some ⟨none,.one ⟨false,[.val (.int .i64 b)]⟩⟩:=s.look 14|none
 let some ⟨none,.one ⟨false,[.ref 3]⟩⟩:=s.look 13|none
 let some ⟨none,.one ⟨false,[.ptr 320 0]⟩⟩:=s.look 2|none
 let some (.row false 2 (.int .i64) c):=s.ent 3|none
 let some (.box 35 [.ref 0,.ref 1,.ref 2]):=s.ent 320|none
 let some (.row false 2 (.int .i64) d):=s.ent 0|none
 let some (.row false 2 (.int .i64) e):=s.ent 1|none
 let some (.row false 60 (.pair .str (.pair (.sl 100 (.pair (.int .i64) (.pair (.int .i64) .bool))) (.sl 103 (.pair (.int .i64) (.int .i64))))) f):=s.ent 2|none
 some (a,b,c,d,e,f)
def cI:Lp bu where
 h:=⟨[16,17,18,19,5,6,20,21,22,23,24,4,25,15],[0,1,2,3,4],[],[]⟩
 JL:=yw
 JE:=yq
 XL:=yC
 XE:=fun _=>yq
 q:=fun j=>match j with | 0=> .ret | _=> .exit 0
 tags:= [0,1]
 lt:=yJ
 fuel:=fun(a,b,c,d,e,f)=>a.natAbs + b.natAbs + c.length + d.length + e.length + f.length
 fix:=fun(_,b,c,d,e,f) (a,_,_,_,_,_)=>(a,b,c,d,e,f)
 σ:= [(0,3),(1,320),(2,0),(3,1),(4,2)]
 rd:=lI
theorem xL:LoopOk prog (fun k=>Nat.blt k Tryz.f49.ntmps) cI.F (bf f49 0):=by
 refine Lp.ok (tbl:= (T3z [ai])) (lf:= []) bB cI (by kernel_rfl) (LOk.nil _) (fun _=>rfl) (fun j _=>by unfold cI;match j with | 0=>rfl | _ + 1=>rfl) ?_ ?_ ?_ ?_ (fun _=>rfl) ?_
 ·intro _;kernel_rfl
 ·intro _;kernel_rfl
 ·intro s x h
  have h:lI s=some x:=h
  unfold lI at h
  repeat' split at h
  all_goals cases h
  constructor<;>repeat(first|refine aa ‹_› rfl ?_|refine ab rfl ‹_› rfl ?_|rfl)
 ·intro _;kernel_rfl
 ·intro _ _;exact(And.intro (And.intro trivial rfl) trivial)
section
variable (a b:aek)(c:ad9)(d:aek)
def rX:Bool:=(↑d.length:Int)!=(↑a.length:Int)
def rY:Int×Int×aek×aek×aek×ad9:=((0:Int),(↑d.length:Int),d,a,b,c)
def Bl:Bool:=bif rX a d then false else bif Nat.beq ((Lp.res cI (rY a b c d)).1) 0 then false else true
def Bm:Bool:=allT [rX a d||Lp.fin cI (rY a b c d)]
end
def sn:aem
 | [.one ⟨true,[.ref 0,.ref 1,.ref 2]⟩,.one ⟨false,[.ref 3]⟩],[.row false 2 (.int .i64) a,.row false 2 (.int .i64) b,.row false 60 (.pair (.str) (.pair (.sl 100 (.pair (.int .i64) (.pair (.int .i64) (.bool)))) (.sl 103 (.pair (.int .i64) (.int .i64))))) c,.row false 2 (.int .i64) d]=>some ⟨aeo (.val (.bool (Bl a b c d))),[aeq a,aeq b,aeC c,aeq d],[],[Bm a b c d]⟩
 |_,_=>none
def nJ:PF prog:=PF.ofG prog (T3z [ai]) [cI.F] bB 49 f49 func49 (LOk.fnT (l:= [bf f49 0]) (by kernel_rfl) (.cons xL (.nil _))) sn (by
 intro _ _ _ h;unfold sn at h;split at h<;>cases h;kernel_rfl)
def zy(a:Int):Bool:= !aP a 1 32
def Fi:aem
 | [.one ⟨false,[.val (.int .i64 a)]⟩],[]=>some ⟨aeo (.val (.bool (zy a))),[],[],[]⟩
 |_,_=>none
def Fy:PF prog:=PF.ofG prog [kb] [] bB 48 f48 func48 (fun c _=>LOk.nil c) Fi (by
 intro _ _ _ h;unfold Fi at h;split at h<;>cases h;kernel_rfl)
abbrev bV:=Int×Int×List Int
section
variable (a b:Int)(c:aek)
def nW:Bool:=ltI a b
def nX:Bool:=leI 0 a
def nY:Bool:=ltI a (↑c.length:Int)
def nZ:Bool:=ltN a.toNat c.length
def oa:Bool:=zy (z8 c[z6 a]? 0)
def oc:Int:=j6 .i64 (a + (1:Int))
end
def AR:bV→List (Nat×SV)
 |(a,b,_)=> [(8,(aep a)),(7,(aep b)),(1,(aeo (.val (.func (.func 48) ⟨[]⟩ ⟨[]⟩)))),(0,(aeo (.ref 0)))]
def AP:bV→List (Nat×Entry)
 |(_,_,a)=> [(0,(aeq a))]
def AX:Nat→bV→List (Nat×SV)
 |0,(a,_,_)=> [(4,(aep a))]
 |_,_=>[]
def nH:bV→LT bV
 |(a,b,c)=> .ite (nW a b) (.need [nX a,nY a c,nZ a c] (.ite (oa a c) (.ext 0 [(0,0)]) (.nrm ((oc a),b,c) [(0,0)]))) (.ext 1 [(0,0)])
def nK(s:St):Option bV:=do
 let some ⟨none,.one ⟨false,[.val (.int .i64 a)]⟩⟩:=s.look 8|none
 let some ⟨none,.one ⟨false,[.val (.int .i64 b)]⟩⟩:=s.look 7|none
 let some ⟨none,.one ⟨false,[.val (.func (.func 48) ⟨[]⟩ ⟨[]⟩)]⟩⟩:=s.look 1|none
 let some ⟨none,.one ⟨false,[.ref 0]⟩⟩:=s.look 0|none
 let some (.row false 2 (.int .i64) c):=s.ent 0|none
 some (a,b,c)
def aG:Lp bV where
 h:=⟨[9,10,5,11,12,13,14,15,16,17,4,18,8],[0],[],[]⟩
 JL:=AR
 JE:=AP
 XL:=AX
 XE:=fun _=>AP
 q:=fun j=>match j with | 0=> .ret | _=> .exit 0
 tags:= [0,1]
 lt:=nH
 fuel:=fun(a,b,c)=>a.natAbs + b.natAbs + c.length
 fix:=fun(_,b,c) (a,_,_)=>(a,b,c)
 σ:= [(0,0)]
 rd:=nK
theorem zE:LoopOk prog (fun k=>Nat.blt k Tryz.f53.ntmps) aG.F (bf f53 0):=by
 refine Lp.ok (tbl:= [Fy]) (lf:= []) bB aG (by kernel_rfl) (LOk.nil _) (fun _=>rfl) (fun j _=>by unfold aG;match j with | 0=>rfl | _ + 1=>rfl) ?_ ?_ ?_ ?_ (fun _=>rfl) ?_
 ·intro _;kernel_rfl
 ·intro _;kernel_rfl
 ·intro s x h
  have h:nK s=some x:=h
  unfold nK at h
  repeat' split at h
  all_goals cases h
  constructor<;>repeat(first|refine aa ‹_› rfl ?_|refine ab rfl ‹_› rfl ?_|rfl)
 ·intro _;kernel_rfl
 ·intro _ _;exact(And.intro (And.intro trivial rfl) trivial)
section
variable (a:aek)
def kV:Int×Int×aek:=((0:Int),(↑a.length:Int),a)
def pT:Int:=bif Nat.beq ((Lp.res aG (kV a)).1) 0 then ((Lp.res aG (kV a)).2).1else(-1:Int)
def pU:Bool:=allT [Lp.fin aG (kV a)]
end
def tZ:aem
 | [.one ⟨false,[.ref 0]⟩,.one ⟨false,[.val (.func (.func 48) ⟨[]⟩ ⟨[]⟩)]⟩],[.row false 2 (.int .i64) a]=>some ⟨aep (pT a),[aeq a],[],[pU a]⟩
 |_,_=>none
def pR:PF prog:=PF.ofG prog [Fy] [aG.F] bB 53 f53 func53 (LOk.fnT (l:= [bf f53 0]) (by kernel_rfl) (.cons zE (.nil _))) tZ (by
 intro _ _ _ h;unfold tZ at h;split at h<;>cases h;kernel_rfl)
def fR(a:aek):Bool:=leI 0 (pT a)
def nU(a:aek):Bool:=allT [pU a]
def sZ:aem
 | [.one ⟨false,[.ref 0]⟩,.one ⟨false,[.val (.func (.func 48) ⟨[]⟩ ⟨[]⟩)]⟩],[.row false 2 (.int .i64) a]=>some ⟨aeo (.val (.bool (fR a))),[aeq a],[],[nU a]⟩
 |_,_=>none
def nT:PF prog:=PF.ofG prog (T3z [pR]) [] bB 27 f27 func27 (fun c _=>LOk.nil c) sZ (by
 intro _ _ _ h;unfold sZ at h;split at h<;>cases h;kernel_rfl)
abbrev aY:=Int×Int×List Int×List Int×List (ael×((List (Int×(Int×Bool)))×(List (Int×Int))))
section
variable (a b:Int)(c d:aek)
def jJ:Bool:=ltI a b
def jK:Bool:=leI 0 a
def jL:Bool:=ltI a (↑c.length:Int)
def jM:Bool:=ltN a.toNat c.length
def jN:Bool:=df a d
def jO:Bool:= !de a (z8 c[z6 a]? 0) d
def jP:Int:=j6 .i64 (a + (1:Int))
end
def uR:aY→List (Nat×SV)
 |(a,b,_,_,_)=> [(15,(aep a)),(14,(aep b)),(13,(aeo (.ref 0))),(2,(aeo (.ptr 1 0)))]
def uP:aY→List (Nat×Entry)
 |(_,_,a,b,c)=> [(0,(aeq a)),(1,(.box 35 [.ref 2,.ref 0,.ref 3])),(2,(aeq b)),(3,(aes c))]
def uV:Nat→aY→List (Nat×SV)
 |0,(_,_,_,_,_)=> [(4,(aeo (.val (.bool false))))]
 |_,_=>[]
def jh:aY→LT aY
 |(a,b,c,d,e)=> .ite (jJ a b) (.need [jK a,jL a c,jM a c] (.need [jN a d] (.ite (jO a c d) (.ext 0 [(0,0),(1,1),(2,2),(3,3)]) (.nrm ((jP a),b,c,d,e) [(0,0),(1,1),(2,2),(3,3)])))) (.ext 1 [(0,0),(1,1),(2,2),(3,3)])
def jm(s:St):Option aY:=do
 let some ⟨none,.one ⟨false,[.val (.int .i64 a)]⟩⟩:=s.look 15|none
 let some ⟨none,.one ⟨false,[.val (.int .i64 b)]⟩⟩:=s.look 14|none
 let some ⟨none,.one ⟨false,[.ref 1]⟩⟩:=s.look 13|none
 let some ⟨none,.one ⟨false,[.ptr 256 0]⟩⟩:=s.look 2|none
 let some (.row false 2 (.int .i64) c):=s.ent 1|none
 let some (.box 35 [.ref 0,.ref 1,.ref 2]):=s.ent 256|none
 let some (.row false 2 (.int .i64) d):=s.ent 0|none
 let some (.row false 60 (.pair .str (.pair (.sl 100 (.pair (.int .i64) (.pair (.int .i64) .bool))) (.sl 103 (.pair (.int .i64) (.int .i64))))) e):=s.ent 2|none
 some (a,b,c,d,e)
def ap:Lp aY where
 h:=⟨[16,17,18,19,5,6,20,21,22,23,24,4,25,15],[0,1,2,3],[],[]⟩
 JL:=uR
 JE:=uP
 XL:=uV
 XE:=fun _=>uP
 q:=fun j=>match j with | 0=> .ret | _=> .exit 0
 tags:= [0,1]
 lt:=jh
 fuel:=fun(a,b,c,d,e)=>a.natAbs + b.natAbs + c.length + d.length + e.length
 fix:=fun(_,b,c,d,e) (a,_,_,_,_)=>(a,b,c,d,e)
 σ:= [(0,1),(1,256),(2,0),(3,2)]
 rd:=jm
theorem uz:LoopOk prog (fun k=>Nat.blt k Tryz.f49.ntmps) ap.F (bf f49 0):=by
 refine Lp.ok (tbl:= (T3z [ai])) (lf:= []) bB ap (by kernel_rfl) (LOk.nil _) (fun _=>rfl) (fun j _=>by unfold ap;match j with | 0=>rfl | _ + 1=>rfl) ?_ ?_ ?_ ?_ (fun _=>rfl) ?_
 ·intro _;kernel_rfl
 ·intro _;kernel_rfl
 ·intro s x h
  have h:jm s=some x:=h
  unfold jm at h
  repeat' split at h
  all_goals cases h
  constructor<;>repeat(first|refine aa ‹_› rfl ?_|refine ab rfl ‹_› rfl ?_|rfl)
 ·intro _;kernel_rfl
 ·intro _ _;exact(And.intro (And.intro trivial rfl) trivial)
section
variable (a b:aek)(c:ad9)
def ko:Bool:=(↑b.length:Int)!=(↑a.length:Int)
def kq:Int×Int×aek×aek×ad9:=((0:Int),(↑b.length:Int),b,a,c)
def kC:Bool:=bif ko a b then false else bif Nat.beq ((Lp.res ap (kq a b c)).1) 0 then false else true
def kD:Bool:=allT [ko a b||Lp.fin ap (kq a b c)]
end
def qj:aem
 | [.one ⟨true,[.ref 0,.ref 1,.ref 2]⟩,.one ⟨false,[.ref 1]⟩],[.row false 2 (.int .i64) a,.row false 2 (.int .i64) b,.row false 60 (.pair .str (.pair (.sl 100 (.pair (.int .i64) (.pair (.int .i64) .bool))) (.sl 103 (.pair (.int .i64) (.int .i64))))) c]=>some ⟨aeo (.val (.bool (kC a b c))),[aeq a,aeq b,aes c],[],[kD a b c]⟩
 |_,_=>none
def kG:PF prog:=PF.ofG prog (T3z [ai]) [ap.F] bB 49 f49 func49 (LOk.fnT (l:= [bf f49 0]) (by kernel_rfl) (.cons uz (.nil _))) qj (by
 intro _ _ _ h;unfold qj at h;split at h<;>cases h;kernel_rfl)
def oC(a:ael)(b:Int):Int:=ibs a b
def tt:aem
 | [.one ⟨false,[.val (.string a)]⟩,.one ⟨false,[.val (.int IntKind.u8 b)]⟩],[]=>some ⟨aep (oC a b),[],[],[]⟩
 |_,_=>none
def Cq:PF prog:=PF.ofG prog [] [] bB 96 f96 func96 (fun c _=>LOk.nil c) tt (by
 intro _ _ _ h;unfold tt at h;split at h<;>cases h;kernel_rfl)
def wK(a:ael)(b:Int):Int:=oC a b
def Dg:aem
 | [.one ⟨false,[.val (.string a)]⟩,.one ⟨false,[.val (.int IntKind.u8 b)]⟩],[]=>some ⟨aep (wK a b),[],[],[]⟩
 |_,_=>none
def Di:PF prog:=PF.ofG prog [Cq] [] bB 93 f93 func93 (fun c _=>LOk.nil c) Dg (by
 intro _ _ _ h;unfold Dg at h;split at h<;>cases h;kernel_rfl)
abbrev mS:=Int×Int×ael×ael
section
variable (a b:Int)(c d:ael)
def qV:Bool:=ltI (j6 .i64 (a + b)) (↑(ByteArray.size c):Int)
def Do:Bool:= !(qV a b c&&true)||leI 0 (j6 .i64 (a + b))
def Dp:Bool:= !(qV a b c&&true)||qV a b c
def Dq:Bool:=bif qV a b c then leI 0 (wK d (↑(UInt8.toNat (z8 c[z6 (j6 .i64 (a + b))]? (0:UInt8))):Int))else false
def Dr:Int:=j6 .i64 (b + (1:Int))
end
def Nh:mS→List (Nat×SV)
 |(a,b,c,d)=> [(1,(aep a)),(7,(aep b)),(0,(aeo (.val (.string c)))),(2,(aeo (.val (.string d))))]
def Nf:mS→List (Nat×Entry)
 |(_,_,_,_)=> []
def Ns:Nat→mS→List (Nat×SV)
 |_,(_,a,_,_)=> [(7,(aep a))]
def Cl:mS→LT mS
 |(a,b,c,d)=> .need [Do a b c,Dp a b c] (.ite (Dq a b c d) (.nrm (a,Dr b,c,d) []) (.ext 0 []))
def Cs(s:St):Option mS:=do
 let some ⟨none,.one ⟨false,[.val (.int .i64 a)]⟩⟩:=s.look 1|none
 let some ⟨none,.one ⟨false,[.val (.int .i64 b)]⟩⟩:=s.look 7|none
 let some ⟨none,.one ⟨false,[.val (.string c)]⟩⟩:=s.look 0|none
 let some ⟨none,.one ⟨false,[.val (.string d)]⟩⟩:=s.look 2|none
 some (a,b,c,d)
def iG:Lp mS where
 h:=⟨[8,9,10,11,12,13,14,15,16,17,18,19,20,21,22,23,24,25,7],[],[],[]⟩
 JL:=Nh
 JE:=Nf
 XL:=Ns
 XE:=fun _=>Nf
 q:=fun j=>match j with | _=> .exit 0
 tags:= [0]
 lt:=Cl
 fuel:=fun(a,b,c,d)=>a.natAbs + b.natAbs + c.size + d.size
 fix:=fun(a,_,c,d) (_,b,_,_)=>(a,b,c,d)
 σ:= []
 rd:=Cs
theorem LV:LoopOk prog (fun k=>Nat.blt k Tryz.f85.ntmps) iG.F (bf f85 0):=by
 refine Lp.ok (tbl:= [Di]) (lf:= []) bB iG (by kernel_rfl) (LOk.nil _) (fun _=>rfl) (fun _ _=>rfl) ?_ ?_ ?_ ?_ (fun _=>rfl) ?_
 ·intro _;kernel_rfl
 ·intro _;kernel_rfl
 ·intro s x h
  have h:Cs s=some x:=h
  unfold Cs at h
  repeat' split at h
  all_goals cases h
  exact⟨aa ‹_› rfl (aa ‹_› rfl (aa ‹_› rfl (aa ‹_› rfl (rfl)))),rfl⟩
 ·intro _;kernel_rfl
 ·intro _ _;exact(And.intro rfl trivial)
section
variable (a:ael)(b:Int)(c:ael)
def Fu:Int×Int×ael×ael:=(b,(0:Int),a,c)
def GD:Int:=((Lp.res iG (Fu a b c)).2.2).1
def GF:Bool:=allT [Lp.fin iG (Fu a b c)]
end
def KB:aem
 | [.one ⟨false,[.val (.string a)]⟩,.one ⟨false,[.val (.int .i64 b)]⟩,.one ⟨false,[.val (.string c)]⟩],[]=>some ⟨aep (GD a b c),[],[],[GF a b c]⟩
 |_,_=>none
def Ss:PF prog:=PF.ofG prog [Di] [iG.F] bB 85 f85 func85 (LOk.fnT (l:= [bf f85 0]) (by kernel_rfl) (.cons LV (.nil _))) KB (by
 intro _ _ _ h;unfold KB at h;split at h<;>cases h;kernel_rfl)
section
variable (a:ael)
def xJ:Bool:=aP (↑(ByteArray.size a):Int) 1 16
def qP:Bool:=bif xJ a then GD a 0 (ByteArray.mk #[97,98,99,100,101,102,103,104,105,106,107,108,109,110,111,112,113,114,115,116,117,118,119,120,121,122,48,49,50,51,52,53,54,55,56,57,95])==(↑(ByteArray.size a):Int)else false
def tL:Bool:=allT [!(xJ a&&true)||GF a 0 (ByteArray.mk #[97,98,99,100,101,102,103,104,105,106,107,108,109,110,111,112,113,114,115,116,117,118,119,120,121,122,48,49,50,51,52,53,54,55,56,57,95])]
end
def EV:aem
 | [.one ⟨false,[.val (.string a)]⟩],[]=>some ⟨aeo (.val (.bool (qP a))),[],[],[tL a]⟩
 |_,_=>none
def Fc:PF prog:=PF.ofG prog [kb,Ss] [] bB 72 f72 func72 (fun c _=>LOk.nil c) EV (by
 intro _ _ _ h;unfold EV at h;split at h<;>cases h;kernel_rfl)
def jH(a b:Int)(c:aek):Bool:= !de a b c
def jI(a:Int)(b:aek):Bool:=allT [df a b]
def oX:aem
 | [.one ⟨true,[.val (.int .i64 a),.val (.int .i64 b),.val (.bool _x2)]⟩,.one ⟨false,[.ptr 0 0]⟩],[.box 35 [.ref 1,.ref 2,.ref 3],.row false 2 (.int .i64) c,.row false 2 (.int .i64) d,.row false 60 (.pair .str (.pair (.sl 100 (.pair (.int .i64) (.pair (.int .i64) .bool))) (.sl 103 (.pair (.int .i64) (.int .i64))))) e]=>some ⟨aeo (.val (.bool (jH a b c))),[.box 35 [.ref 1,.ref 2,.ref 3],aeq c,aeq d,aes e],[],[jI a c]⟩
 |_,_=>none
def ce:PF prog:=PF.ofG prog (T3z [ai]) [] bB 86 f86 func86 (fun c _=>LOk.nil c) oX (by
 intro _ _ _ h;unfold oX at h;split at h<;>cases h;kernel_rfl)
abbrev cm:=Int×Int×List (Int×(Int×Bool))×List Int×List Int×List (ael×((List (Int×(Int×Bool)))×(List (Int×Int))))
section
variable (a b:Int)(c:aec)(d:aek)
def gi:Int×Int×Bool:=z8 c[z6 a]? ((0:Int),(0:Int),false)
def pA:Bool:=ltI a b
def pB:Bool:=leI 0 a
def pC:Bool:=ltI a (↑c.length:Int)
def pD:Bool:=ltN a.toNat c.length
def pE:Bool:=jI ((gi a c).1) d
def pF:Bool:=jH ((gi a c).1) (((gi a c).2).1) d
def pG:Int:=j6 .i64 (a + (1:Int))
end
def BN:cm→List (Nat×SV)
 |(a,b,_,_,_,_)=> [(8,(aep a)),(7,(aep b)),(1,(aeo (.clo 86 [0]))),(0,(aeo (.ref 1)))]
def BK:cm→List (Nat×Entry)
 |(_,_,a,b,c,d)=> [(0,(.box 35 [.ref 2,.ref 3,.ref 4])),(1,(aeu a)),(2,(aeq b)),(3,(aeq c)),(4,(aes d))]
def BV:Nat→cm→List (Nat×SV)
 |0,(a,_,_,_,_,_)=> [(4,(aep a))]
 |_,_=>[]
def oO:cm→LT cm
 |(a,b,c,d,e,f)=> .ite (pA a b) (.need [pB a,pC a c,pD a c,pE a c d] (.ite (pF a c d) (.ext 0 [(0,0),(1,1),(2,2),(3,3),(4,4)]) (.nrm ((pG a),b,c,d,e,f) [(0,0),(1,1),(2,2),(3,3),(4,4)]))) (.ext 1 [(0,0),(1,1),(2,2),(3,3),(4,4)])
def oR(s:St):Option cm:=do
 let some ⟨none,.one ⟨false,[.val (.int .i64 a)]⟩⟩:=s.look 8|none
 let some ⟨none,.one ⟨false,[.val (.int .i64 b)]⟩⟩:=s.look 7|none
 let some ⟨none,.one ⟨false,[.clo 86 [1]]⟩⟩:=s.look 1|none
 let some ⟨none,.one ⟨false,[.ref 0]⟩⟩:=s.look 0|none
 let some (.box 35 [.ref 2,.ref 3,.ref 4]):=s.ent 1|none
 let some (.row false 100 (.pair (.int .i64) (.pair (.int .i64) .bool)) c):=s.ent 0|none
 let some (.row false 2 (.int .i64) d):=s.ent 2|none
 let some (.row false 2 (.int .i64) e):=s.ent 3|none
 let some (.row false 60 (.pair .str (.pair (.sl 100 (.pair (.int .i64) (.pair (.int .i64) .bool))) (.sl 103 (.pair (.int .i64) (.int .i64))))) f):=s.ent 4|none
 some (a,b,c,d,e,f)
def aN:Lp cm where
 h:=⟨[9,10,5,11,12,13,14,15,16,17,4,18,8],[0,1,2,3,4],[],[]⟩
 JL:=BN
 JE:=BK
 XL:=BV
 XE:=fun _=>BK
 q:=fun j=>match j with | 0=> .ret | _=> .exit 0
 tags:= [0,1]
 lt:=oO
 fuel:=fun(a,b,c,d,e,f)=>a.natAbs + b.natAbs + c.length + d.length + e.length + f.length
 fix:=fun(_,b,c,d,e,f) (a,_,_,_,_,_)=>(a,b,c,d,e,f)
 σ:= [(0,1),(1,0),(2,2),(3,3),(4,4)]
 rd:=oR
theorem Bo:LoopOk prog (fun k=>Nat.blt k Tryz.f74.ntmps) aN.F (bf f74 0):=by
 refine Lp.ok (tbl:= (T3z [ce])) (lf:= []) bB aN (by kernel_rfl) (LOk.nil _) (fun _=>rfl) (fun j _=>by unfold aN;match j with | 0=>rfl | _ + 1=>rfl) ?_ ?_ ?_ ?_ (fun _=>rfl) ?_
 ·intro _;kernel_rfl
 ·intro _;kernel_rfl
 ·intro s x h
  have h:oR s=some x:=h
  unfold oR at h
  repeat' split at h
  all_goals cases h
  constructor<;>repeat(first|refine aa ‹_› rfl ?_|refine ab rfl ‹_› rfl ?_|rfl)
 ·intro _;kernel_rfl
 ·intro _ _;exact(And.intro (And.intro trivial rfl) trivial)
section
variable (a:aeg)(b c:aek)(d:ad9)
def lT:Int×Int×aeg×aek×aek×ad9:=((0:Int),(↑a.length:Int),a,b,c,d)
def qD:Int:=bif Nat.beq ((Lp.res aN (lT a b c d)).1) 0 then ((Lp.res aN (lT a b c d)).2).1else(-1:Int)
def qE:Bool:=allT [Lp.fin aN (lT a b c d)]
end
def uN:aem
 | [.one ⟨false,[.ref 0]⟩,.one ⟨false,[.clo 86 [1]]⟩],[.row false 100 (.pair (.int .i64) (.pair (.int .i64) .bool)) a,.box 35 [.ref 2,.ref 3,.ref 4],.row false 2 (.int .i64) b,.row false 2 (.int .i64) c,.row false 60 (.pair .str (.pair (.sl 100 (.pair (.int .i64) (.pair (.int .i64) .bool))) (.sl 103 (.pair (.int .i64) (.int .i64))))) d]=>some ⟨aep (qD a b c d),[aeu a,.box 35 [.ref 2,.ref 3,.ref 4],aeq b,aeq c,aes d],[],[qE a b c d]⟩
 |_,_=>none
def qz:PF prog:=PF.ofG prog (T3z [ce]) [aN.F] bB 74 f74 func74 (LOk.fnT (l:= [bf f74 0]) (by kernel_rfl) (.cons Bo (.nil _))) uN (by
 intro _ _ _ h;unfold uN at h;split at h<;>cases h;kernel_rfl)
def pp(a:aeg)(b c:aek)(d:ad9):Bool:=leI 0 (qD a b c d)
def pq(a:aeg)(b c:aek)(d:ad9):Bool:=allT [qE a b c d]
def tH:aem
 | [.one ⟨false,[.ref 0]⟩,.one ⟨false,[.clo 86 [1]]⟩],[.row false 100 (.pair (.int .i64) (.pair (.int .i64) .bool)) a,.box 35 [.ref 2,.ref 3,.ref 4],.row false 2 (.int .i64) b,.row false 2 (.int .i64) c,.row false 60 (.pair .str (.pair (.sl 100 (.pair (.int .i64) (.pair (.int .i64) .bool))) (.sl 103 (.pair (.int .i64) (.int .i64))))) d]=>some ⟨aeo (.val (.bool (pp a b c d))),[aeu a,.box 35 [.ref 2,.ref 3,.ref 4],aeq b,aeq c,aes d],[],[pq a b c d]⟩
 |_,_=>none
def ph:PF prog:=PF.ofG prog (T3z [qz]) [] bB 54 f54 func54 (fun c _=>LOk.nil c) tH (by
 intro _ _ _ h;unfold tH at h;split at h<;>cases h;kernel_rfl)
section
variable (a b:aek)(c:ad9)(d:aeg)
def ki:Bool:=leI (↑d.length:Int) 24
def fO:Bool:=bif ki d then !pp d a b c else false
def fP:Bool:=allT [!(ki d&&true)||pq d a b c]
end
def pZ:aem
 | [.one ⟨true,[.ref 0,.ref 1,.ref 2]⟩,.one ⟨false,[.ref 3]⟩],[.row false 2 (.int .i64) a,.row false 2 (.int .i64) b,.row false 60 (.pair .str (.pair (.sl 100 (.pair (.int .i64) (.pair (.int .i64) .bool))) (.sl 103 (.pair (.int .i64) (.int .i64))))) c,.row false 100 (.pair (.int .i64) (.pair (.int .i64) .bool)) d]=>some ⟨aeo (.val (.bool (fO a b c d))),[aeq a,aeq b,aes c,aeu d],[],[fP a b c d]⟩
 |_,_=>none
def co:PF prog:=PF.ofG prog (T3z [ph]) [] bB 73 f73 func73 (fun c _=>LOk.nil c) pZ (by
 intro _ _ _ h;unfold pZ at h;split at h<;>cases h;kernel_rfl)
abbrev bd:=Int×Int×List (Int×Int)×ael×List Int×List Int×List (ael×((List (Int×(Int×Bool)))×(List (Int×Int))))×List (Int×(Int×Bool))
section
variable (a b:Int)(c:aej)(d:aek)
def bn:Int×Int:=z8 c[z6 a]? ((0:Int),(0:Int))
def cT:Bool:= !de ((bn a c).1) ((bn a c).2) d
def cd:Bool:= !(ltI 0 a&&(!cT a c d&&true))
def bo:Int:=j6 .i64 (a - (1:Int))
def fl:Bool:=ltI a b
def fm:Bool:=leI 0 a
def fo:Bool:=ltI a (↑c.length:Int)
def fq:Bool:=ltN a.toNat c.length
def ft:Bool:=df ((bn a c).1) d
def fu:Bool:=cd a c d||leI 0 (bo a)
def fv:Bool:=cd a c d||ltI (bo a) (↑c.length:Int)
def fw:Bool:=cd a c d||ltN (z6 (bo a)) c.length
def fy:Bool:=bif cT a c d then true else bif ltI 0 a then leI ((bn a c).1) ((z8 c[z6 (bo a)]? ((0:Int),(0:Int))).1)else false
def fA:Int:=j6 .i64 (a + (1:Int))
end
def wx:bd→List (Nat×SV)
 |(a,b,_,_,_,_,_,_)=> [(10,(aep a)),(9,(aep b)),(8,(aeo (.ref 0))),(2,(aeo (.ptr 1 0))),(3,(aeo (.ptr 2 0)))]
def ww:bd→List (Nat×Entry)
 |(_,_,a,b,c,d,e,f)=> [(0,(aeA a)),(1,(.box 35 [.ref 3,.ref 4,.ref 5])),(2,(.box 60 [.val (.string b),.ref 6,.ref 0])),(3,(aeq c)),(4,(aeq d)),(5,(aes e)),(6,(aeu f))]
def wz:Nat→bd→List (Nat×SV)
 |0,(_,_,_,_,_,_,_,_)=> [(4,(aeo (.val (.bool false))))]
 |_,_=>[]
def fc:bd→LT bd
 |(a,b,c,d,e,f,g,i)=> .ite (fl a b) (.need [fm a,fo a c,fq a c] (.need [ft a c e,fu a c e,fv a c e,fw a c e] (.ite (fy a c e) (.ext 0 [(0,0),(1,1),(2,2),(3,3),(4,4),(5,5),(6,6)]) (.nrm ((fA a),b,c,d,e,f,g,i) [(0,0),(1,1),(2,2),(3,3),(4,4),(5,5),(6,6)])))) (.ext 1 [(0,0),(1,1),(2,2),(3,3),(4,4),(5,5),(6,6)])
def jW(s:St):Option bd:=do
 let some ⟨none,.one ⟨false,[.val (.int .i64 a)]⟩⟩:=s.look 10|none
 let some ⟨none,.one ⟨false,[.val (.int .i64 b)]⟩⟩:=s.look 9|none
 let some ⟨none,.one ⟨false,[.ref 4]⟩⟩:=s.look 8|none
 let some ⟨none,.one ⟨false,[.ptr 384 0]⟩⟩:=s.look 2|none
 let some ⟨none,.one ⟨false,[.ptr 448 0]⟩⟩:=s.look 3|none
 let some (.row false 103 (.pair (.int .i64) (.int .i64)) c):=s.ent 4|none
 let some (.box 35 [.ref 0,.ref 1,.ref 2]):=s.ent 384|none
 let some (.box 60 [.val (.string d),.ref 3,.ref 4]):=s.ent 448|none
 let some (.row false 2 (.int .i64) e):=s.ent 0|none
 let some (.row false 2 (.int .i64) f):=s.ent 1|none
 let some (.row false 60 (.pair .str (.pair (.sl 100 (.pair (.int .i64) (.pair (.int .i64) .bool))) (.sl 103 (.pair (.int .i64) (.int .i64))))) g):=s.ent 2|none
 let some (.row false 100 (.pair (.int .i64) (.pair (.int .i64) .bool)) i):=s.ent 3|none
 some (a,b,c,d,e,f,g,i)
def an:Lp bd where
 h:=⟨[11,12,13,14,6,5,15,16,17,18,19,20,21,22,23,24,25,26,27,28,29,30,31,32,33,34,35,36,37,4,38,10],[0,1,2,3,4,5,6],[],[]⟩
 JL:=wx
 JE:=ww
 XL:=wz
 XE:=fun _=>ww
 q:=fun j=>match j with | 0=> .ret | _=> .exit 0
 tags:= [0,1]
 lt:=fc
 fuel:=fun(a,b,c,d,e,f,g,i)=>a.natAbs + b.natAbs + c.length + d.size + e.length + f.length + g.length + i.length
 fix:=fun(_,b,c,d,e,f,g,i) (a,_,_,_,_,_,_,_)=>(a,b,c,d,e,f,g,i)
 σ:= [(0,4),(1,384),(2,448),(3,0),(4,1),(5,2),(6,3)]
 rd:=jW
theorem uE:LoopOk prog (fun k=>Nat.blt k Tryz.f52.ntmps) an.F (bf f52 0):=by
 refine Lp.ok (tbl:= (T3z [ai,Fc,co])) (lf:= []) bB an (by kernel_rfl) (LOk.nil _) (fun _=>rfl) (fun j _=>by unfold an;match j with | 0=>rfl | _ + 1=>rfl) ?_ ?_ ?_ ?_ (fun _=>rfl) ?_
 ·intro _;kernel_rfl
 ·intro _;kernel_rfl
 ·intro s x h
  have h:jW s=some x:=h
  unfold jW at h
  repeat' split at h
  all_goals cases h
  constructor<;>repeat(first|refine aa ‹_› rfl ?_|refine ab rfl ‹_› rfl ?_|rfl)
 ·intro _;kernel_rfl
 ·intro _ _;exact(And.intro (And.intro trivial rfl) trivial)
section
variable (a:ael)(b c:aek)(d:ad9)(e:aeg)(f:aej)
def kB:Int×Int×aej×ael×aek×aek×ad9×aeg:=((0:Int),(↑f.length:Int),f,a,b,c,d,e)
def fX:Bool:=Nat.beq ((Lp.res an (kB a b c d e f)).1) 0
def gn:Bool:=bif fX a b c d e f then false else bif bif qP a then fO b c d e else false then leI (↑f.length:Int) 4 else false
def gp:Bool:=allT [Lp.fin an (kB a b c d e f),fX a b c d e f||tL a,fX a b c d e f||(!(qP a&&true)||fP b c d e)]
end
def qu:aem
 | [.one ⟨true,[.ref 0,.ref 1,.ref 2]⟩,.one ⟨true,[.val (.string a),.ref 3,.ref 4]⟩],[.row false 2 (.int .i64) b,.row false 2 (.int .i64) c,.row false 60 (.pair .str (.pair (.sl 100 (.pair (.int .i64) (.pair (.int .i64) .bool))) (.sl 103 (.pair (.int .i64) (.int .i64))))) d,.row false 100 (.pair (.int .i64) (.pair (.int .i64) .bool)) e,.row false 103 (.pair (.int .i64) (.int .i64)) f]=>some ⟨aeo (.val (.bool (gn a b c d e f))),[aeq b,aeq c,aes d,aeu e,aeA f],[],[gp a b c d e f]⟩
 |_,_=>none
def kY:PF prog:=PF.ofG prog (T3z [ai,Fc,co]) [an.F] bB 52 f52 func52 (LOk.fnT (l:= [bf f52 0]) (by kernel_rfl) (.cons uE (.nil _))) qu (by
 intro _ _ _ h;unfold qu at h;split at h<;>cases h;kernel_rfl)
def zA(a:ael)(b:aeg)(c:aej)(d e:aek)(f:ad9):Bool:= !gn a d e f b c
def zB(a:ael)(b:aeg)(c:aej)(d e:aek)(f:ad9):Bool:=allT [gp a d e f b c]
def Fj:aem
 | [.one ⟨true,[.val (.string a),.ref 0,.ref 1]⟩,.one ⟨false,[.ptr 2 0]⟩],[.row false 100 (.pair (.int .i64) (.pair (.int .i64) .bool)) b,.row false 103 (.pair (.int .i64) (.int .i64)) c,.box 35 [.ref 3,.ref 4,.ref 5],.row false 2 (.int .i64) d,.row false 2 (.int .i64) e,.row false 60 (.pair .str (.pair (.sl 100 (.pair (.int .i64) (.pair (.int .i64) .bool))) (.sl 103 (.pair (.int .i64) (.int .i64))))) f]=>some ⟨aeo (.val (.bool (zA a b c d e f))),[aeu b,aeA c,.box 35 [.ref 3,.ref 4,.ref 5],aeq d,aeq e,aes f],[],[zB a b c d e f]⟩
 |_,_=>none
def pe:PF prog:=PF.ofG prog (T3z [kY]) [] bB 51 f51 func51 (fun c _=>LOk.nil c) Fj (by
 intro _ _ _ h;unfold Fj at h;split at h<;>cases h;kernel_rfl)
abbrev ck:=Int×Int×List (ael×((List (Int×(Int×Bool)))×(List (Int×Int))))×List Int×List Int
section
variable (a b:Int)(c:ad7)(d e:aek)
def gd:ael×aeg×aej:=z8 c[z6 a]? (tC ad2)
def ge:ael:=(gd a c).1
def gf:aeg×aej:=(gd a c).2
def gg:aeg:=(gf a c).1
def gh:aej:=(gf a c).2
def pv:Bool:=ltI a b
def pw:Bool:=leI 0 a
def px:Bool:=ltI a (↑c.length:Int)
def py:Bool:=ltN a.toNat c.length
def kT:Bool:=zB (ge a c) (gg a c) (gh a c) d e c
def kU:Bool:=zA (ge a c) (gg a c) (gh a c) d e c
def pz:Int:=j6 .i64 (a + (1:Int))
end
def BM:ck→List (Nat×SV)
 |(a,b,_,_,_)=> [(8,(aep a)),(7,(aep b)),(1,(aeo (.clo 51 [0]))),(0,(aeo (.ref 1)))]
def BJ:ck→List (Nat×Entry)
 |(_,_,a,b,c)=> [(0,(.box 35 [.ref 2,.ref 3,.ref 1])),(1,(aes a)),(2,(aeq b)),(3,(aeq c))]
def BU:Nat→ck→List (Nat×SV)
 |0,(a,_,_,_,_)=> [(4,(aep a))]
 |_,_=>[]
def oN:ck→LT ck
 |(a,b,c,d,e)=> .ite (pv a b) (.need [pw a,px a c,py a c,kT a c d e] (.ite (kU a c d e) (.ext 0 [(0,0),(1,1),(2,2),(3,3)]) (.nrm ((pz a),b,c,d,e) [(0,0),(1,1),(2,2),(3,3)]))) (.ext 1 [(0,0),(1,1),(2,2),(3,3)])
def oQ(s:St):Option ck:=do
 let some ⟨none,.one ⟨false,[.val (.int .i64 a)]⟩⟩:=s.look 8|none
 let some ⟨none,.one ⟨false,[.val (.int .i64 b)]⟩⟩:=s.look 7|none
 let some ⟨none,.one ⟨false,[.clo 51 [1]]⟩⟩:=s.look 1|none
 let some ⟨none,.one ⟨false,[.ref 0]⟩⟩:=s.look 0|none
 let some (.box 35 [.ref 2,.ref 3,.ref 0]):=s.ent 1|none
 let some (.row false 60 (.pair .str (.pair (.sl 100 (.pair (.int .i64) (.pair (.int .i64) .bool))) (.sl 103 (.pair (.int .i64) (.int .i64))))) c):=s.ent 0|none
 let some (.row false 2 (.int .i64) d):=s.ent 2|none
 let some (.row false 2 (.int .i64) e):=s.ent 3|none
 some (a,b,c,d,e)
def aM:Lp ck where
 h:=⟨[9,10,5,11,12,13,14,15,16,17,4,18,8],[0,1,2,3],[],[]⟩
 JL:=BM
 JE:=BJ
 XL:=BU
 XE:=fun _=>BJ
 q:=fun j=>match j with | 0=> .ret | _=> .exit 0
 tags:= [0,1]
 lt:=oN
 fuel:=fun(a,b,c,d,e)=>a.natAbs + b.natAbs + c.length + d.length + e.length
 fix:=fun(_,b,c,d,e) (a,_,_,_,_)=>(a,b,c,d,e)
 σ:= [(0,1),(1,0),(2,2),(3,3)]
 rd:=oQ
theorem Bn:LoopOk prog (fun k=>Nat.blt k Tryz.f71.ntmps) aM.F (bf f71 0):=by
 refine Lp.ok (tbl:= (T3z [pe])) (lf:= []) bB aM (by kernel_rfl) (LOk.nil _) (fun _=>rfl) (fun j _=>by unfold aM;match j with | 0=>rfl | _ + 1=>rfl) ?_ ?_ ?_ ?_ (fun _=>rfl) ?_
 ·intro _;kernel_rfl
 ·intro _;kernel_rfl
 ·intro s x h
  have h:oQ s=some x:=h
  unfold oQ at h
  repeat' split at h
  all_goals cases h
  constructor<;>repeat(first|refine aa ‹_› rfl ?_|refine ab rfl ‹_› rfl ?_|rfl)
 ·intro _;kernel_rfl
 ·intro _ _;exact(And.intro (And.intro trivial rfl) trivial)
section
variable (a:ad9)(b c:aek)
def lS:Int×Int×ad9×aek×aek:=((0:Int),(↑a.length:Int),a,b,c)
def qB:Int:=bif Nat.beq ((Lp.res aM (lS a b c)).1) 0 then ((Lp.res aM (lS a b c)).2).1else(-1:Int)
def qC:Bool:=allT [Lp.fin aM (lS a b c)]
end
def uM:aem
 | [.one ⟨false,[.ref 0]⟩,.one ⟨false,[.clo 51 [1]]⟩],[.row false 60 (.pair .str (.pair (.sl 100 (.pair (.int .i64) (.pair (.int .i64) .bool))) (.sl 103 (.pair (.int .i64) (.int .i64))))) a,.box 35 [.ref 2,.ref 3,.ref 0],.row false 2 (.int .i64) b,.row false 2 (.int .i64) c]=>some ⟨aep (qB a b c),[aes a,.box 35 [.ref 2,.ref 3,.ref 0],aeq b,aeq c],[],[qC a b c]⟩
 |_,_=>none
def qy:PF prog:=PF.ofG prog (T3z [pe]) [aM.F] bB 71 f71 func71 (LOk.fnT (l:= [bf f71 0]) (by kernel_rfl) (.cons Bn (.nil _))) uM (by
 intro _ _ _ h;unfold uM at h;split at h<;>cases h;kernel_rfl)
def pn(a:ad9)(b c:aek):Bool:=leI 0 (qB a b c)
def po(a:ad9)(b c:aek):Bool:=allT [qC a b c]
def tG:aem
 | [.one ⟨false,[.ref 0]⟩,.one ⟨false,[.clo 51 [1]]⟩],[.row false 60 (.pair .str (.pair (.sl 100 (.pair (.int .i64) (.pair (.int .i64) .bool))) (.sl 103 (.pair (.int .i64) (.int .i64))))) a,.box 35 [.ref 2,.ref 3,.ref 0],.row false 2 (.int .i64) b,.row false 2 (.int .i64) c]=>some ⟨aeo (.val (.bool (pn a b c))),[aes a,.box 35 [.ref 2,.ref 3,.ref 0],aeq b,aeq c],[],[po a b c]⟩
 |_,_=>none
def pg:PF prog:=PF.ofG prog (T3z [qy]) [] bB 50 f50 func50 (fun c _=>LOk.nil c) tG (by
 intro _ _ _ h;unfold tG at h;split at h<;>cases h;kernel_rfl)
section
variable (a b:aek)(c:ad9)
def AA:Bool:= !aP (ax a) 1 16
def HL:Bool:=bif kC a b c then leI (↑c.length:Int) 200 else false
def rt:Bool:=bif bif AA a then true else fR a then false else bif HL a b c then !pn c a b else false
def Ch:Bool:=allT [!(!AA a&&true)||nU a,(bif AA a then true else fR a)||kD a b c,(bif AA a then true else fR a)||(!(HL a b c&&true)||po c a b)]
end
def MT:aem
 | [.one ⟨true,[.ref 0,.ref 1,.ref 2]⟩],[.row false 2 (.int .i64) a,.row false 2 (.int .i64) b,.row false 60 (.pair (.str) (.pair (.sl 100 (.pair (.int .i64) (.pair (.int .i64) (.bool)))) (.sl 103 (.pair (.int .i64) (.int .i64))))) c]=>some ⟨aeo (.val (.bool (rt a b c))),[aeq a,aeq b,aeC c],[],[Ch a b c]⟩
 |_,_=>none
def yK:PF prog:=PF.ofG prog (T3z [kb,ae,Sn,nJ,nT,kG,pg]) [] bB 26 f26 func26 (fun c _=>LOk.nil c) MT (by
 intro _ _ _ h;unfold MT at h;split at h<;>cases h;kernel_rfl)
def wX(a b:Int)(c:Bool)(d:aek):Bool:= !(z8 d[z6 a]? 0==b)==c
def wY(a:Int)(b:aek):Bool:=allT [leI 0 a,ltI a (↑b.length:Int),ltN a.toNat b.length]
def Hq:aem
 | [.one ⟨true,[.val (.int .i64 a),.val (.int .i64 b),.val (.bool c)]⟩,.one ⟨false,[.ptr 0 0]⟩],[.box 24 [.ref 1],.row false 2 (.int .i64) d]=>some ⟨aeo (.val (.bool (wX a b c d))),[.box 24 [.ref 1],aeq d],[],[wY a d]⟩
 |_,_=>none
def qY:PF prog:=PF.ofG prog [] [] bB 55 f55 func55 (fun c _=>LOk.nil c) Hq (by
 intro _ _ _ h;unfold Hq at h;split at h<;>cases h;kernel_rfl)
abbrev cn:=Int×Int×List (Int×(Int×Bool))×List Int
section
variable (a b:Int)(c:aec)(d:aek)
def cf:Int×Int×Bool:=z8 c[z6 a]? ((0:Int),(0:Int),false)
def gy:Bool:=ltI a b
def gz:Bool:=leI 0 a
def gA:Bool:=ltI a (↑c.length:Int)
def gB:Bool:=ltN a.toNat c.length
def gC:Bool:=wY ((cf a c).1) d
def gD:Bool:=wX ((cf a c).1) (((cf a c).2).1) ((cf a c).2.2) d
def gE:Int:=j6 .i64 (a + (1:Int))
end
def BO:cn→List (Nat×SV)
 |(a,b,_,_)=> [(8,(aep a)),(7,(aep b)),(1,(aeo (.clo 55 [0]))),(0,(aeo (.ref 1)))]
def BL:cn→List (Nat×Entry)
 |(_,_,a,b)=> [(0,(.box 24 [.ref 2])),(1,(aeu a)),(2,(aeq b))]
def BW:Nat→cn→List (Nat×SV)
 |0,(a,_,_,_)=> [(4,(aep a))]
 |_,_=>[]
def gc:cn→LT cn
 |(a,b,c,d)=> .ite (gy a b) (.need [gz a,gA a c,gB a c,gC a c d] (.ite (gD a c d) (.ext 0 [(0,0),(1,1),(2,2)]) (.nrm ((gE a),b,c,d) [(0,0),(1,1),(2,2)]))) (.ext 1 [(0,0),(1,1),(2,2)])
def oS(s:St):Option cn:=do
 let some ⟨none,.one ⟨false,[.val (.int .i64 a)]⟩⟩:=s.look 8|none
 let some ⟨none,.one ⟨false,[.val (.int .i64 b)]⟩⟩:=s.look 7|none
 let some ⟨none,.one ⟨false,[.clo 55 [1]]⟩⟩:=s.look 1|none
 let some ⟨none,.one ⟨false,[.ref 0]⟩⟩:=s.look 0|none
 let some (.box 24 [.ref 2]):=s.ent 1|none
 let some (.row false 100 (.pair (.int .i64) (.pair (.int .i64) .bool)) c):=s.ent 0|none
 let some (.row false 2 (.int .i64) d):=s.ent 2|none
 some (a,b,c,d)
def ar:Lp cn where
 h:=⟨[9,10,5,11,12,13,14,15,16,17,4,18,8],[0,1,2],[],[]⟩
 JL:=BO
 JE:=BL
 XL:=BW
 XE:=fun _=>BL
 q:=fun j=>match j with | 0=> .ret | _=> .exit 0
 tags:= [0,1]
 lt:=gc
 fuel:=fun(a,b,c,d)=>a.natAbs + b.natAbs + c.length + d.length
 fix:=fun(_,b,c,d) (a,_,_,_)=>(a,b,c,d)
 σ:= [(0,1),(1,0),(2,2)]
 rd:=oS
theorem Bp:LoopOk prog (fun k=>Nat.blt k Tryz.f74.ntmps) ar.F (bf f74 0):=by
 refine Lp.ok (tbl:= (T3z [qY])) (lf:= []) bB ar (by kernel_rfl) (LOk.nil _) (fun _=>rfl) (fun j _=>by unfold ar;match j with | 0=>rfl | _ + 1=>rfl) ?_ ?_ ?_ ?_ (fun _=>rfl) ?_
 ·intro _;kernel_rfl
 ·intro _;kernel_rfl
 ·intro s x h
  have h:oS s=some x:=h
  unfold oS at h
  repeat' split at h
  all_goals cases h
  constructor<;>repeat(first|refine aa ‹_› rfl ?_|refine ab rfl ‹_› rfl ?_|rfl)
 ·intro _;kernel_rfl
 ·intro _ _;exact(And.intro (And.intro trivial rfl) trivial)
section
variable (a:aeg)(b:aek)
def lU:Int×Int×aeg×aek:=((0:Int),(↑a.length:Int),a,b)
def qF:Int:=bif Nat.beq ((Lp.res ar (lU a b)).1) 0 then ((Lp.res ar (lU a b)).2).1else(-1:Int)
def qG:Bool:=allT [Lp.fin ar (lU a b)]
end
def uO:aem
 | [.one ⟨false,[.ref 0]⟩,.one ⟨false,[.clo 55 [1]]⟩],[.row false 100 (.pair (.int .i64) (.pair (.int .i64) .bool)) a,.box 24 [.ref 2],.row false 2 (.int .i64) b]=>some ⟨aep (qF a b),[aeu a,.box 24 [.ref 2],aeq b],[],[qG a b]⟩
 |_,_=>none
def qA:PF prog:=PF.ofG prog (T3z [qY]) [ar.F] bB 74 f74 func74 (LOk.fnT (l:= [bf f74 0]) (by kernel_rfl) (.cons Bp (.nil _))) uO (by
 intro _ _ _ h;unfold uO at h;split at h<;>cases h;kernel_rfl)
def pt(a:aeg)(b:aek):Bool:=leI 0 (qF a b)
def pu(a:aeg)(b:aek):Bool:=allT [qG a b]
def tI:aem
 | [.one ⟨false,[.ref 0]⟩,.one ⟨false,[.clo 55 [1]]⟩],[.row false 100 (.pair (.int .i64) (.pair (.int .i64) .bool)) a,.box 24 [.ref 2],.row false 2 (.int .i64) b]=>some ⟨aeo (.val (.bool (pt a b))),[aeu a,.box 24 [.ref 2],aeq b],[],[pu a b]⟩
 |_,_=>none
def pj:PF prog:=PF.ofG prog (T3z [qA]) [] bB 54 f54 func54 (fun c _=>LOk.nil c) tI (by
 intro _ _ _ h;unfold tI at h;split at h<;>cases h;kernel_rfl)
def Ij(a:aek)(b:aeg):Bool:= !pt b a
def Ik(a:aek)(b:aeg):Bool:=allT [pu b a]
def QG:aem
 | [.one ⟨false,[.ref 0]⟩,.one ⟨false,[.ref 1]⟩],[.row false 2 (.int .i64) a,.row false 100 (.pair (.int .i64) (.pair (.int .i64) (.bool))) b]=>some ⟨aeo (.val (.bool (Ij a b))),[aeq a,aeu b],[],[Ik a b]⟩
 |_,_=>none
def CS:PF prog:=PF.ofG prog (T3z [pj]) [] bB 31 f31 func31 (fun c _=>LOk.nil c) QG (by
 intro _ _ _ h;unfold QG at h;split at h<;>cases h;kernel_rfl)
abbrev bJ:=Int×Int×List (Int×Int)×List Int
section
variable (a b:Int)(c:aej)(d:aek)
def cq:Int×Int:=z8 c[z6 a]? ((0:Int),(0:Int))
def mX:Bool:=ltI a b
def mY:Bool:=leI 0 a
def mZ:Bool:=ltI a (↑c.length:Int)
def na:Bool:=ltN a.toNat c.length
def nb:Bool:=leI 0 ((cq a c).1)
def nc:Bool:=ltI ((cq a c).1) (↑d.length:Int)
def ne:Bool:=ltN (z6 ((cq a c).1)) d.length
def nf:Int:=j6 .i64 (a + (1:Int))
def ng:aek:=List.set d (z6 ((cq a c).1)) ((cq a c).2)
end
def Ah:bJ→List (Nat×SV)
 |(a,b,_,_)=> [(13,(aep a)),(12,(aep b)),(11,(aeo (.ref 0))),(5,(aeo (.ref 1)))]
def Ab:bJ→List (Nat×Entry)
 |(_,_,a,b)=> [(0,(aeA a)),(1,(aer b))]
def At:Nat→bJ→List (Nat×SV)
 |_,_=>[]
def mw:bJ→LT bJ
 |(a,b,c,d)=> .ite (mX a b) (.need [mY a,mZ a c,na a c] (.need [nb a c,nc a c d,ne a c d] (.nrm ((nf a),b,c,(ng a c d)) [(0,0),(1,1)]))) (.ext 0 [(0,0),(1,1)])
def mE(s:St):Option bJ:=do
 let some ⟨none,.one ⟨false,[.val (.int .i64 a)]⟩⟩:=s.look 13|none
 let some ⟨none,.one ⟨false,[.val (.int .i64 b)]⟩⟩:=s.look 12|none
 let some ⟨none,.one ⟨false,[.ref 1]⟩⟩:=s.look 11|none
 let some ⟨none,.one ⟨false,[.ref 448]⟩⟩:=s.look 5|none
 let some (.row false 103 (.pair (.int .i64) (.int .i64)) c):=s.ent 1|none
 let some (.row true 2 (.int .i64) d):=s.ent 448|none
 some (a,b,c,d)
def bF:Lp bJ where
 h:=⟨[14,15,16,7,17,18,19,20,21,22,23,13],[0,1],[],[]⟩
 JL:=Ah
 JE:=Ab
 XL:=At
 XE:=fun _=>Ab
 q:=fun j=>match j with | _=> .exit 0
 tags:= [0]
 lt:=mw
 fuel:=fun(a,b,c,d)=>a.natAbs + b.natAbs + c.length + d.length
 fix:=fun(_,b,c,_) (a,_,_,d)=>(a,b,c,d)
 σ:= [(0,1),(1,448)]
 rd:=mE
theorem zh:LoopOk prog (fun k=>Nat.blt k Tryz.f32.ntmps) bF.F (bf f32 0):=by
 refine Lp.ok (tbl:= (T3z [ac])) (lf:= []) bB bF (by kernel_rfl) (LOk.nil _) (fun _=>rfl) (fun _ _=>rfl) ?_ ?_ ?_ ?_ (fun _=>rfl) ?_
 ·intro _;kernel_rfl
 ·intro _;kernel_rfl
 ·intro s x h
  have h:mE s=some x:=h
  unfold mE at h
  repeat' split at h
  all_goals cases h
  constructor<;>repeat(first|refine aa ‹_› rfl ?_|refine ab rfl ‹_› rfl ?_|rfl)
 ·intro _;kernel_rfl
 ·intro _ _;exact(And.intro rfl trivial)
section
variable (a:aej)(b:aek)
def oD:Int×Int×aej×aek:=((0:Int),(↑a.length:Int),a,b)
def kM:aek:=(Lp.res bF (oD a b)).2.2.2.2
def kN:Bool:=allT [leN 1 b.length&&leN b.length (1048576:Nat),Lp.fin bF (oD a b)]
end
def tD:aem
 | [.one ⟨true,[.val (.string _x0),.ref 0,.ref 1]⟩,.one ⟨false,[.ref 2]⟩],[.row false 100 (.pair (.int .i64) (.pair (.int .i64) (.bool))) a,.row false 103 (.pair (.int .i64) (.int .i64)) b,.row false 2 (.int .i64) c]=>some ⟨aeo (.ref 3),[aeu a,aeA b,aeq c],[aer (kM b c)],[kN b c]⟩
 |_,_=>none
def eD:PF prog:=PF.ofG prog (T3z [ac]) [bF.F] bB 32 f32 func32 (LOk.fnT (l:= [bf f32 0]) (by kernel_rfl) (.cons zh (.nil _))) tD (by
 intro _ _ _ h;unfold tD at h;split at h<;>cases h;kernel_rfl)
def qe(a:ad9):Int:=(↑a.length:Int)
def zo:aem
 | [.one ⟨false,[.ref 0]⟩],[.row false 60 (.pair .str (.pair (.sl 100 (.pair (.int .i64) (.pair (.int .i64) .bool))) (.sl 103 (.pair (.int .i64) (.int .i64))))) a]=>some ⟨aep (qe a),[aes a],[],[]⟩
 |_,_=>none
def tx:PF prog:=PF.ofG prog [] [] bB 29 f29 func29 (fun c _=>LOk.nil c) zo (by
 intro _ _ _ h;unfold zo at h;split at h<;>cases h;kernel_rfl)
def uZ(a:Int)(b:ad9):Bool:= !aP a 0 (j6 .i64 (qe b - (1:Int)))
def BH:aem
 | [.one ⟨false,[.val (.int .i64 a)]⟩,.one ⟨false,[.ptr 0 0]⟩],[.box 35 [.ref 1,.ref 2,.ref 3],.row false 2 (.int .i64) b,.row false 2 (.int .i64) c,.row false 60 (.pair .str (.pair (.sl 100 (.pair (.int .i64) (.pair (.int .i64) .bool))) (.sl 103 (.pair (.int .i64) (.int .i64))))) d]=>some ⟨aeo (.val (.bool (uZ a d))),[.box 35 [.ref 1,.ref 2,.ref 3],aeq b,aeq c,aes d],[],[]⟩
 |_,_=>none
def lF:PF prog:=PF.ofG prog (T3z [kb,tx]) [] bB 28 f28 func28 (fun c _=>LOk.nil c) BH (by
 intro _ _ _ h;unfold BH at h;split at h<;>cases h;kernel_rfl)
abbrev bW:=Int×Int×List Int×List Int×List Int×List (ael×((List (Int×(Int×Bool)))×(List (Int×Int))))
section
variable (a b:Int)(c:aek)(d:ad7)
def od:Bool:=ltI a b
def oe:Bool:=leI 0 a
def og:Bool:=ltI a (↑c.length:Int)
def oh:Bool:=ltN a.toNat c.length
def oi:Bool:=uZ (z8 c[z6 a]? 0) d
def oj:Int:=j6 .i64 (a + (1:Int))
end
def AU:bW→List (Nat×SV)
 |(a,b,_,_,_,_)=> [(8,(aep a)),(7,(aep b)),(1,(aeo (.clo 28 [0]))),(0,(aeo (.ref 1)))]
def AQ:bW→List (Nat×Entry)
 |(_,_,a,b,c,d)=> [(0,(.box 35 [.ref 2,.ref 3,.ref 4])),(1,(aeq a)),(2,(aeq b)),(3,(aeq c)),(4,(aes d))]
def AY:Nat→bW→List (Nat×SV)
 |0,(a,_,_,_,_,_)=> [(4,(aep a))]
 |_,_=>[]
def nI:bW→LT bW
 |(a,b,c,d,e,f)=> .ite (od a b) (.need [oe a,og a c,oh a c] (.ite (oi a c f) (.ext 0 [(0,0),(1,1),(2,2),(3,3),(4,4)]) (.nrm ((oj a),b,c,d,e,f) [(0,0),(1,1),(2,2),(3,3),(4,4)]))) (.ext 1 [(0,0),(1,1),(2,2),(3,3),(4,4)])
def nL(s:St):Option bW:=do
 let some ⟨none,.one ⟨false,[.val (.int .i64 a)]⟩⟩:=s.look 8|none
 let some ⟨none,.one ⟨false,[.val (.int .i64 b)]⟩⟩:=s.look 7|none
 let some ⟨none,.one ⟨false,[.clo 28 [1]]⟩⟩:=s.look 1|none
 let some ⟨none,.one ⟨false,[.ref 0]⟩⟩:=s.look 0|none
 let some (.box 35 [.ref 2,.ref 3,.ref 4]):=s.ent 1|none
 let some (.row false 2 (.int .i64) c):=s.ent 0|none
 let some (.row false 2 (.int .i64) d):=s.ent 2|none
 let some (.row false 2 (.int .i64) e):=s.ent 3|none
 let some (.row false 60 (.pair .str (.pair (.sl 100 (.pair (.int .i64) (.pair (.int .i64) .bool))) (.sl 103 (.pair (.int .i64) (.int .i64))))) f):=s.ent 4|none
 some (a,b,c,d,e,f)
def aH:Lp bW where
 h:=⟨[9,10,5,11,12,13,14,15,16,17,4,18,8],[0,1,2,3,4],[],[]⟩
 JL:=AU
 JE:=AQ
 XL:=AY
 XE:=fun _=>AQ
 q:=fun j=>match j with | 0=> .ret | _=> .exit 0
 tags:= [0,1]
 lt:=nI
 fuel:=fun(a,b,c,d,e,f)=>a.natAbs + b.natAbs + c.length + d.length + e.length + f.length
 fix:=fun(_,b,c,d,e,f) (a,_,_,_,_,_)=>(a,b,c,d,e,f)
 σ:= [(0,1),(1,0),(2,2),(3,3),(4,4)]
 rd:=nL
theorem zF:LoopOk prog (fun k=>Nat.blt k Tryz.f53.ntmps) aH.F (bf f53 0):=by
 refine Lp.ok (tbl:= (T3z [lF])) (lf:= []) bB aH (by kernel_rfl) (LOk.nil _) (fun _=>rfl) (fun j _=>by unfold aH;match j with | 0=>rfl | _ + 1=>rfl) ?_ ?_ ?_ ?_ (fun _=>rfl) ?_
 ·intro _;kernel_rfl
 ·intro _;kernel_rfl
 ·intro s x h
  have h:nL s=some x:=h
  unfold nL at h
  repeat' split at h
  all_goals cases h
  constructor<;>repeat(first|refine aa ‹_› rfl ?_|refine ab rfl ‹_› rfl ?_|rfl)
 ·intro _;kernel_rfl
 ·intro _ _;exact(And.intro (And.intro trivial rfl) trivial)
section
variable (a b c:aek)(d:ad9)
def kW:Int×Int×aek×aek×aek×ad9:=((0:Int),(↑a.length:Int),a,b,c,d)
def pV:Int:=bif Nat.beq ((Lp.res aH (kW a b c d)).1) 0 then ((Lp.res aH (kW a b c d)).2).1else(-1:Int)
def pW:Bool:=allT [Lp.fin aH (kW a b c d)]
end
def ua:aem
 | [.one ⟨false,[.ref 0]⟩,.one ⟨false,[.clo 28 [1]]⟩],[.row false 2 (.int .i64) a,.box 35 [.ref 2,.ref 3,.ref 4],.row false 2 (.int .i64) b,.row false 2 (.int .i64) c,.row false 60 (.pair .str (.pair (.sl 100 (.pair (.int .i64) (.pair (.int .i64) .bool))) (.sl 103 (.pair (.int .i64) (.int .i64))))) d]=>some ⟨aep (pV a b c d),[aeq a,.box 35 [.ref 2,.ref 3,.ref 4],aeq b,aeq c,aes d],[],[pW a b c d]⟩
 |_,_=>none
def pS:PF prog:=PF.ofG prog (T3z [lF]) [aH.F] bB 53 f53 func53 (LOk.fnT (l:= [bf f53 0]) (by kernel_rfl) (.cons zF (.nil _))) ua (by
 intro _ _ _ h;unfold ua at h;split at h<;>cases h;kernel_rfl)
def dy(a b c:aek)(d:ad9):Bool:=leI 0 (pV a b c d)
def nV(a b c:aek)(d:ad9):Bool:=allT [pW a b c d]
def ta:aem
 | [.one ⟨false,[.ref 0]⟩,.one ⟨false,[.clo 28 [1]]⟩],[.row false 2 (.int .i64) a,.box 35 [.ref 2,.ref 3,.ref 4],.row false 2 (.int .i64) b,.row false 2 (.int .i64) c,.row false 60 (.pair .str (.pair (.sl 100 (.pair (.int .i64) (.pair (.int .i64) .bool))) (.sl 103 (.pair (.int .i64) (.int .i64))))) d]=>some ⟨aeo (.val (.bool (dy a b c d))),[aeq a,.box 35 [.ref 2,.ref 3,.ref 4],aeq b,aeq c,aes d],[],[nV a b c d]⟩
 |_,_=>none
def dx:PF prog:=PF.ofG prog (T3z [pS]) [] bB 27 f27 func27 (fun c _=>LOk.nil c) ta (by
 intro _ _ _ h;unfold ta at h;split at h<;>cases h;kernel_rfl)
abbrev ld:=Int×Int×List Int×List (List Int)×List Int×List Int×List (ael×((List (Int×(Int×Bool)))×(List (Int×Int))))
section
variable (a b:Int)(c:aek)(d:aei)(e:ad7)
def mi:Int:=z8 c[z6 a]? 0
def mj:aek:=z8 d[z6 a]? (tC aea)
def rp:aeg×aej:=(z8 e[z6 (mi a c)]? (tC ad2)).2
def rq:aeg:=(rp a c e).1
def rr:aej:=(rp a c e).2
def oZ:aei:= [kM (rr a c e) (mj a d)]
def vX:Bool:=ltI a b
def sv:Bool:=leI 0 a
def Bc:Bool:=ltI a (↑c.length:Int)
def Bd:Bool:=ltN a.toNat c.length
def vY:Bool:=ltI a (↑d.length:Int)
def vZ:Bool:=ltN a.toNat d.length
def wa:Bool:=leI 0 (mi a c)
def wb:Bool:=ltI (mi a c) (↑e.length:Int)
def wc:Bool:=ltN (z6 (mi a c)) e.length
def Be:Bool:=Ik (mj a d) (rq a c e)
def uy:Bool:= !Ij (mj a d) (rq a c e)
def zr:Bool:=kN (rr a c e) (mj a d)
def zt:Bool:=leN (z7 d + z7 (oZ a c d e)) 9223372036854775807
def zu:Bool:=leN ((z7 d + z7 (oZ a c d e)) * 24) 140737488355328
def zw:Int:=j6 .i64 (a + (1:Int))
def zx:aei:=d++oZ a c d e
end
def Lt:ld→List (Nat×SV)
 |(a,b,_,_,_,_,_)=> [(27,(aep a)),(26,(aep b)),(25,(aeo (.ref 0))),(6,(aeo (.ref 1))),(2,(aeo (.ptr 2 0)))]
def Ln:ld→List (Nat×Entry)
 |(_,_,a,b,c,d,e)=> [(0,(aeq a)),(2,(.box 35 [.ref 3,.ref 4,.ref 5])),(3,(aeq c)),(4,(aeq d)),(5,(aes e)),(1,(aeE b))]
def LB:Nat→ld→List (Nat×SV)
 |0,(_,_,_,_,_,_,_)=> [(4,(aeo (.ref 6))),(5,(aep 5))]
 |_,(_,_,_,_,_,_,_)=> [(6,(aeo (.ref 1)))]
def Lx:Nat→ld→List (Nat×Entry)
 |0,(_,_,a,b,c,d,e)=> [(0,(aeq a)),(1,(aeE b)),(2,(.box 35 [.ref 3,.ref 4,.ref 5])),(3,(aeq c)),(4,(aeq d)),(5,(aes e)),(6,(aeE []))]
 |_,(_,_,a,b,c,d,e)=> [(0,(aeq a)),(1,(aeE b)),(2,(.box 35 [.ref 3,.ref 4,.ref 5])),(3,(aeq c)),(4,(aeq d)),(5,(aes e))]
def ry:ld→LT ld
 |(a,b,c,d,e,f,g)=> .ite (vX a b) (.need [sv a,Bc a c,Bd a c] (.need [sv a,vY a d,vZ a d,wa a c,wb a c g,wc a c g,Be a c d g] (.ite (uy a c d g) (.ext 0 [(0,0),(1,1),(2,2),(3,3),(4,4),(5,5),(6,1216)]) (.need [wa a c,wb a c g,wc a c g,sv a,vY a d,vZ a d,zr a c d g,zt a c d g,zu a c d g] (.nrm ((zw a),b,c,zx a c d g,e,f,g) [(0,0),(1,1984),(2,2),(3,3),(4,4),(5,5)]))))) (.ext 1 [(0,0),(1,1),(2,2),(3,3),(4,4),(5,5)])
def zH(s:St):Option ld:=do
 let some ⟨none,.one ⟨false,[.val (.int .i64 a)]⟩⟩:=s.look 27|none
 let some ⟨none,.one ⟨false,[.val (.int .i64 b)]⟩⟩:=s.look 26|none
 let some ⟨none,.one ⟨false,[.ref 3]⟩⟩:=s.look 25|none
 let some ⟨none,.one ⟨false,[.ref 1472]⟩⟩:=s.look 6|none
 let some ⟨none,.one ⟨false,[.ptr 320 0]⟩⟩:=s.look 2|none
 let some (.row false 2 (.int .i64) c):=s.ent 3|none
 let some (.box 35 [.ref 0,.ref 1,.ref 2]):=s.ent 320|none
 let some (.row false 2 (.int .i64) e):=s.ent 0|none
 let some (.row false 2 (.int .i64) f):=s.ent 1|none
 let some (.row false 60 (.pair .str (.pair (.sl 100 (.pair (.int .i64) (.pair (.int .i64) .bool))) (.sl 103 (.pair (.int .i64) (.int .i64))))) g):=s.ent 2|none
 let some (.row true 24 (.sl 2 (.int .i64)) d):=s.ent 1472|none
 some (a,b,c,d,e,f,g)
def bA:Lp ld where
 h:=⟨[28,29,30,31,7,8,32,33,34,35,36,37,38,39,40,41,42,43,4,5,44,45,46,47,48,49,50,51,52,53,54,55,56,6,57,27],[0,2,3,4,5],[1],[6]⟩
 JL:=Lt
 JE:=Ln
 XL:=LB
 XE:=Lx
 q:=fun j=>match j with | 0=> .ret | _=> .exit 1
 tags:= [0,1]
 lt:=ry
 fuel:=fun(a,b,c,d,e,f,g)=>a.natAbs + b.natAbs + c.length + d.length + e.length + f.length + g.length
 fix:=fun(_,b,c,_,e,f,g) (a,_,_,d,_,_,_)=>(a,b,c,d,e,f,g)
 σ:= [(0,3),(2,320),(3,0),(4,1),(5,2),(1,1472)]
 rd:=zH
theorem Km:LoopOk prog (fun k=>Nat.blt k Tryz.f10.ntmps) bA.F (bf f10 0):=by
 refine Lp.ok (tbl:= (T3z [yK,ac,CS,eD,dx])) (lf:= []) bB bA (by kernel_rfl) (LOk.nil _) (fun _=>rfl) (fun j _=>by unfold bA;match j with | 0=>rfl | _ + 1=>rfl) ?_ ?_ ?_ ?_ (fun _=>rfl) ?_
 ·intro _;kernel_rfl
 ·intro _;kernel_rfl
 ·intro s x h
  have h:zH s=some x:=h
  unfold zH at h
  repeat' split at h
  all_goals cases h
  constructor<;>repeat(first|refine aa ‹_› rfl ?_|refine ab rfl ‹_› rfl ?_|rfl)
 ·intro _;kernel_rfl
 ·intro _ _;exact(And.intro (And.intro trivial rfl) trivial)
section
variable (a b:aek)(c:ad9)(d:aek)
def yc:Int×Int×aek×aei×aek×aek×ad9:=((0:Int),(↑d.length:Int),d,[b],a,b,c)
def Dm:Bool:=Nat.beq ((Lp.res bA (yc a b c d)).1) 0
def qw:Int:=bif !rt a b c then(1:Int)else bif ltI 4000 (↑d.length:Int)then(3:Int)else bif dy d a b c then(4:Int)else bif Dm a b c d then(5:Int)else(0:Int)
def mh:aei:=bif !rt a b c then []else bif ltI 4000 (↑d.length:Int)then []else bif dy d a b c then []else bif Dm a b c d then []else ((Lp.res bA (yc a b c d)).2.2.2.2).1
def zq:Bool:=allT [Ch a b c,!rt a b c||(ltI 4000 (↑d.length:Int)||nV d a b c),!rt a b c||(ltI 4000 (↑d.length:Int)||(dy d a b c||leN 1 b.length&&leN b.length (1048576:Nat))),!rt a b c||(ltI 4000 (↑d.length:Int)||(dy d a b c||Lp.fin bA (yc a b c d)))]
end
def Iw:aem
 | [.one ⟨true,[.ref 0,.ref 1,.ref 2]⟩,.one ⟨false,[.ref 3]⟩],[.row false 2 (.int .i64) a,.row false 2 (.int .i64) b,.row false 60 (.pair (.str) (.pair (.sl 100 (.pair (.int .i64) (.pair (.int .i64) (.bool)))) (.sl 103 (.pair (.int .i64) (.int .i64))))) c,.row false 2 (.int .i64) d]=>some ⟨.tup [⟨false,[.ref 4]⟩,⟨false,[aen (qw a b c d)]⟩],[aeq a,aeq b,aeC c,aeq d],[aeE (mh a b c d)],[zq a b c d]⟩
 |_,_=>none
def Ew:PF prog:=PF.ofG prog (T3z [yK,ac,CS,eD,dx]) [bA.F] bB 10 f10 func10 (LOk.fnT (l:= [bf f10 0]) (by kernel_rfl) (.cons Km (.nil _))) Iw (by
 intro _ _ _ h;unfold Iw at h;split at h<;>cases h;kernel_rfl)
abbrev aZ:=Int×Int×Int×List Int×Int×List Int
section
variable (a b c:Int)(d:aek)(e:Int)
def jQ:Bool:=ltI a b
def jR:Bool:=leI 0 a
def jS:Bool:=ltI a (↑d.length:Int)
def jT:Bool:=ltN a.toNat d.length
def jU:Bool:= !aP (z8 d[z6 a]? 0) 0 (bif ltI a c then j6 .i64 (j6 .i64 ((3:Int) * e) - (1:Int))else bif a==j6 .i64 (c + e)then(2:Int)else(3:Int))
def jV:Int:=j6 .i64 (a + (1:Int))
end
def uS:aZ→List (Nat×SV)
 |(a,b,c,_,_,_)=> [(22,(aep a)),(21,(aep b)),(20,(aeo (.ref 0))),(5,(aep c)),(2,(aeo (.ptr 1 0)))]
def uQ:aZ→List (Nat×Entry)
 |(_,_,_,a,b,c)=> [(0,(aeq a)),(1,(.box 26 [aen b,.ref 2])),(2,(aeq c))]
def uW:Nat→aZ→List (Nat×SV)
 |0,(_,_,_,_,_,_)=> [(4,(aeo (.val (.bool false))))]
 |_,_=>[]
def ji:aZ→LT aZ
 |(a,b,c,d,e,f)=> .ite (jQ a b) (.need [jR a,jS a d,jT a d] (.ite (jU a c d e) (.ext 0 [(0,0),(1,1),(2,2)]) (.nrm ((jV a),b,c,d,e,f) [(0,0),(1,1),(2,2)]))) (.ext 1 [(0,0),(1,1),(2,2)])
def jn(s:St):Option aZ:=do
 let some ⟨none,.one ⟨false,[.val (.int .i64 a)]⟩⟩:=s.look 22|none
 let some ⟨none,.one ⟨false,[.val (.int .i64 b)]⟩⟩:=s.look 21|none
 let some ⟨none,.one ⟨false,[.ref 1]⟩⟩:=s.look 20|none
 let some ⟨none,.one ⟨false,[.val (.int .i64 c)]⟩⟩:=s.look 5|none
 let some ⟨none,.one ⟨false,[.ptr 192 0]⟩⟩:=s.look 2|none
 let some (.row false 2 (.int .i64) d):=s.ent 1|none
 let some (.box 26 [.val (.int .i64 e),.ref 0]):=s.ent 192|none
 let some (.row false 2 (.int .i64) f):=s.ent 0|none
 some (a,b,c,d,e,f)
def aq:Lp aZ where
 h:=⟨[23,24,25,26,6,7,8,28,29,30,27,31,32,33,34,36,37,38,39,40,41,35,42,43,44,45,4,46,22],[0,1,2],[],[]⟩
 JL:=uS
 JE:=uQ
 XL:=uW
 XE:=fun _=>uQ
 q:=fun j=>match j with | 0=> .ret | _=> .exit 0
 tags:= [0,1]
 lt:=ji
 fuel:=fun(a,b,c,d,e,f)=>a.natAbs + b.natAbs + c.natAbs + d.length + e.natAbs + f.length
 fix:=fun(_,b,c,d,e,f) (a,_,_,_,_,_)=>(a,b,c,d,e,f)
 σ:= [(0,1),(1,192),(2,0)]
 rd:=jn
theorem uA:LoopOk prog (fun k=>Nat.blt k Tryz.f59.ntmps) aq.F (bf f59 0):=by
 refine Lp.ok (tbl:= (T3z [kb,ae])) (lf:= []) bB aq (by kernel_rfl) (LOk.nil _) (fun _=>rfl) (fun j _=>by unfold aq;match j with | 0=>rfl | _ + 1=>rfl) ?_ ?_ ?_ ?_ (fun _=>rfl) ?_
 ·intro _;kernel_rfl
 ·intro _;kernel_rfl
 ·intro s x h
  have h:jn s=some x:=h
  unfold jn at h
  repeat' split at h
  all_goals cases h
  constructor<;>repeat(first|refine aa ‹_› rfl ?_|refine ab rfl ‹_› rfl ?_|rfl)
 ·intro _;kernel_rfl
 ·intro _ _;exact(And.intro (And.intro trivial rfl) trivial)
section
variable (a:Int)(b c:aek)
def kr:Bool:=ax c !=j6 .i64 (j6 .i64 (ax b + a) + (1:Int))
def kt:Int×Int×Int×aek×Int×aek:=((0:Int),(↑c.length:Int),ax b,c,a,b)
def kE:Bool:=bif kr a b c then false else bif Nat.beq ((Lp.res aq (kt a b c)).1) 0 then false else true
def kF:Bool:=allT [kr a b c||Lp.fin aq (kt a b c)]
end
def qk:aem
 | [.one ⟨true,[.val (.int .i64 a),.ref 0]⟩,.one ⟨false,[.ref 1]⟩],[.row false 2 (.int .i64) b,.row false 2 (.int .i64) c]=>some ⟨aeo (.val (.bool (kE a b c))),[aeq b,aeq c],[],[kF a b c]⟩
 |_,_=>none
def kH:PF prog:=PF.ofG prog (T3z [kb,ae]) [aq.F] bB 59 f59 func59 (LOk.fnT (l:= [bf f59 0]) (by kernel_rfl) (.cons uA (.nil _))) qk (by
 intro _ _ _ h;unfold qk at h;split at h<;>cases h;kernel_rfl)
def xa(a:Int)(b c:aek):Int:=bif !isT a b then(1:Int)else bif !kE a b c then(2:Int)else(0:Int)
def Ck(a:Int)(b c:aek):Bool:=allT [!isT a b||kF a b c]
def Hr:aem
 | [.one ⟨true,[.val (.int .i64 a),.ref 0]⟩,.one ⟨false,[.ref 1]⟩],[.row false 2 (.int .i64) b,.row false 2 (.int .i64) c]=>some ⟨aep (xa a b c),[aeq b,aeq c],[],[Ck a b c]⟩
 |_,_=>none
def Cp:PF prog:=PF.ofG prog (T3z [pd,kH]) [] bB 34 f34 func34 (fun c _=>LOk.nil c) Hr (by
 intro _ _ _ h;unfold Hr at h;split at h<;>cases h;kernel_rfl)
section
variable (a b:aek)
def gq:aek:=List.drop (z6 0) (List.take (z6 (↑a.length:Int)) b)
def lD:aek:=gq a b
def lE:Bool:=allT [leI 0 (↑a.length:Int),leI (↑a.length:Int) (↑b.length:Int),leN 1 (z7 (gq a b))&&leN (z7 (gq a b)) 1048576]
end
def qL:aem
 | [.one ⟨true,[.val (.int .i64 a),.ref 0]⟩,.one ⟨false,[.ref 1]⟩],[.row false 2 (.int .i64) b,.row false 2 (.int .i64) c]=>some ⟨.one ⟨true,[aen a,.ref 2]⟩,[aeq b,aeq c],[aer (lD b c)],[lE b c]⟩
 |_,_=>none
def lG:PF prog:=PF.ofG prog (T3z [ac]) [] bB 35 f35 func35 (fun c _=>LOk.nil c) qL (by
 intro _ _ _ h;unfold qL at h;split at h<;>cases h;kernel_rfl)
section
variable (a:Int)(b c:aek)
def wW:Bool:=xa a b c !=0
def CH:Int:=bif wW a b c then(0:Int)else a
def CI:Int:=bif wW a b c then xa a b c else(0:Int)
def CJ:aek:=bif wW a b c then []else lD b c
def CL:Bool:=allT [Ck a b c,wW a b c||lE b c]
end
def KA:aem
 | [.one ⟨true,[.val (.int .i64 a),.ref 0]⟩,.one ⟨false,[.ref 1]⟩],[.row false 2 (.int .i64) b,.row false 2 (.int .i64) c]=>some ⟨.tup [⟨true,[aen (CH a b c),.ref 2]⟩,⟨false,[aen (CI a b c)]⟩],[aeq b,aeq c],[aer (CJ a b c)],[CL a b c]⟩
 |_,_=>none
def GM:PF prog:=PF.ofG prog (T3z [Cp,lG]) [] bB 12 f12 func12 (fun c _=>LOk.nil c) KA (by
 intro _ _ _ h;unfold KA at h;split at h<;>cases h;kernel_rfl)
def tT(a b:Int)(c:aek):Int:=bif !isT a c then(1:Int)else bif !aP b 0 2 then(2:Int)else(0:Int)
def Ml:aem
 | [.one ⟨true,[.val (.int .i64 a),.ref 0]⟩,.one ⟨false,[.val (.int .i64 b)]⟩],[.row false 2 (.int .i64) c]=>some ⟨aep (tT a b c),[aeq c],[],[]⟩
 |_,_=>none
def qt:PF prog:=PF.ofG prog (T3z [kb,pd]) [] bB 17 f17 func17 (fun c _=>LOk.nil c) Ml (by
 intro _ _ _ h;unfold Ml at h;split at h<;>cases h;kernel_rfl)
def re(a:ad6):Int:=(↑a.length:Int)
def Bw:aem
 | [.one ⟨false,[.ref 0]⟩],[.row false 62 (.pair (.pair (.str) (.pair (.sl 100 (.pair (.int .i64) (.pair (.int .i64) (.bool)))) (.sl 103 (.pair (.int .i64) (.int .i64))))) (.pair (.int .i64) (.pair (.int .i64) (.int .i64)))) a]=>some ⟨aep (re a),[.row false 62 (CTy.pair (CTy.pair CTy.str (CTy.pair (CTy.sl (100:TypeId) ad4) (CTy.sl (103:TypeId) ad8))) ad3) a],[],[]⟩
 |_,_=>none
def kS:PF prog:=PF.ofG prog [] [] bB 20 f20 func20 (fun c _=>LOk.nil c) Bw (by
 intro _ _ _ h;unfold Bw at h;split at h<;>cases h;kernel_rfl)
abbrev jw:=Int×Int×List Int×List ((ael×((List (Int×(Int×Bool)))×(List (Int×Int))))×(Int×(Int×Int)))×List (Int×(Int×Int))
def cw(a:Int)(b:aek):Int:=z8 b[z6 a]? 0
def cP(a:Int)(b:aek)(c:List ((ael×((aec)×(aej)))×(Int×(Int×Int)))):Int×Int×Int:=(z8 c[z6 (cw a b)]? (tC ad1)).2
def eF(a:Int)(b:aek)(c:List ((ael×((aec)×(aej)))×(Int×(Int×Int)))):aeh:= [(iO ((cP a b c).1),iP ((cP a b c).1) (((cP a b c).2).1),iQ ((cP a b c).1))]
section
variable (a b:Int)(c:aek)
def jy:Bool:=ltI a b
def ls:Bool:=leI 0 a
def lu:Bool:=ltI a (↑c.length:Int)
def lv:Bool:=ltN a.toNat c.length
end
def jz(a:Int)(b:aek)(c:List ((ael×((aec)×(aej)))×(Int×(Int×Int)))):Bool:= !aP (cw a b) 0 (j6 .i64 (re c - (1:Int)))
def lw(a:Int)(b:aek):Bool:=leI 0 (cw a b)
def lx(a:Int)(b:aek)(c:List ((ael×((aec)×(aej)))×(Int×(Int×Int)))):Bool:=ltI (cw a b) (↑c.length:Int)
def ly(a:Int)(b:aek)(c:List ((ael×((aec)×(aej)))×(Int×(Int×Int)))):Bool:=ltN (z6 (cw a b)) c.length
def lz(a:Int)(b:aek)(c:List ((ael×((aec)×(aej)))×(Int×(Int×Int))))(d:aee):Bool:=leN (z7 d + z7 (eF a b c)) 9223372036854775807
def lA(a:Int)(b:aek)(c:List ((ael×((aec)×(aej)))×(Int×(Int×Int))))(d:aee):Bool:=leN ((z7 d + z7 (eF a b c)) * 24) 140737488355328
def kA(a:Int):Int:=j6 .i64 (a + (1:Int))
def iB(a:Int)(b:aek)(c:List ((ael×((aec)×(aej)))×(Int×(Int×Int))))(d:aee):aee:=d++eF a b c
def JZ:jw→List (Nat×SV)
 |(a,b,_,_,_)=> [(31,(aep a)),(30,(aep b)),(29,(aeo (.ref 0))),(11,(aeo (.ref 1))),(12,(aeo (.ref 2)))]
def JX:jw→List (Nat×Entry)
 |(_,_,a,b,c)=> [(0,(aeq a)),(1,(aew b)),(2,(aez c))]
def Kd:Nat→jw→List (Nat×SV)
 |0,(_,_,_,_,_)=> [(8,(aeo (.ref 3))),(9,(aep 4))]
 |_,(_,_,_,_,_)=> [(12,(aeo (.ref 2)))]
def Kb:Nat→jw→List (Nat×Entry)
 |0,(_,_,a,b,c)=> [(0,(aeq a)),(1,(aew b)),(2,(aez c)),(3,(aez []))]
 |_,(_,_,a,b,c)=> [(0,(aeq a)),(1,(aew b)),(2,(aez c))]
def iH:jw→LT jw
 |(a,b,c,d,e)=> .ite (jy a b) (.need [ls a,lu a c,lv a c] (.ite (jz a c d) (.ext 0 [(0,0),(1,1),(2,2),(3,704)]) (.need [lw a c,lx a c d,ly a c d,lz a c d e,lA a c d e] (.nrm ((kA a),b,c,d,(iB a c d e)) [(0,0),(1,1),(2,1152)])))) (.ext 1 [(0,0),(1,1),(2,2)])
def xP(s:St):Option jw:=do
 let some ⟨none,.one ⟨false,[.val (.int .i64 a)]⟩⟩:=s.look 31|none
 let some ⟨none,.one ⟨false,[.val (.int .i64 b)]⟩⟩:=s.look 30|none
 let some ⟨none,.one ⟨false,[.ref 1]⟩⟩:=s.look 29|none
 let some ⟨none,.one ⟨false,[.ref 1216]⟩⟩:=s.look 11|none
 let some ⟨none,.one ⟨false,[.ref 1344]⟩⟩:=s.look 12|none
 let some (.row false 2 (.int .i64) c):=s.ent 1|none
 let some (.row true 62 (.pair (.pair .str (.pair (.sl 100 (.pair (.int .i64) (.pair (.int .i64) .bool))) (.sl 103 (.pair (.int .i64) (.int .i64))))) (.pair (.int .i64) (.pair (.int .i64) (.int .i64)))) d):=s.ent 1216|none
 let some (.row true 64 (.pair (.int .i64) (.pair (.int .i64) (.int .i64))) e):=s.ent 1344|none
 some (a,b,c,d,e)
def ba:Lp jw where
 h:=⟨[32,33,34,14,35,36,37,38,39,40,8,9,41,42,43,44,45,46,47,48,12,49,31],[0,1],[2],[3]⟩
 JL:=JZ
 JE:=JX
 XL:=Kd
 XE:=Kb
 q:=fun j=>match j with | 0=> .ret | _=> .exit 0
 tags:= [0,1]
 lt:=iH
 fuel:=fun(a,b,c,d,e)=>a.natAbs + b.natAbs + c.length + d.length + e.length
 fix:=fun(_,b,c,d,_) (a,_,_,_,e)=>(a,b,c,d,e)
 σ:= [(0,1),(1,1216),(2,1344)]
 rd:=xP
theorem II:LoopOk prog (fun k=>Nat.blt k Tryz.f6.ntmps) ba.F (bf f6 0):=by
 refine Lp.ok (tbl:= (T3z [qt,ak,kb,kS,dc])) (lf:= []) bB ba (by kernel_rfl) (LOk.nil _) (fun _=>rfl) (fun j _=>by unfold ba;match j with | 0=>rfl | _ + 1=>rfl) ?_ ?_ ?_ ?_ (fun _=>rfl) ?_
 ·intro _;kernel_rfl
 ·intro _;kernel_rfl
 ·intro s x h
  have h:xP s=some x:=h
  unfold xP at h
  repeat' split at h
  all_goals cases h
  constructor<;>repeat(first|refine aa ‹_› rfl ?_|refine ab rfl ‹_› rfl ?_|rfl)
 ·intro _;kernel_rfl
 ·intro _ _;exact(And.intro (And.intro trivial rfl) trivial)
section
variable (a b:Int)(c:Bool)(d e:aek)
def su:Bool:=tT a b d !=0
def vW:Int×Int×aek×ad6×aeh:=((0:Int),(↑e.length:Int),e,List.map (rrK d.length a) (kL d.length a.toNat b.toNat c),[])
def Bb:Bool:=Nat.beq ((Lp.res ba (vW a b c d e)).1) 0
def Ce:Int:=bif su a b d then tT a b d else bif ltI 200 (↑e.length:Int)then(3:Int)else bif Bb a b c d e then(4:Int)else(0:Int)
def Cf:aee:=bif su a b d then []else bif ltI 200 (↑e.length:Int)then []else bif Bb a b c d e then []else (Lp.res ba (vW a b c d e)).2.2.2.2.2
def Cg:Bool:=allT [su a b d||(ltI 200 (↑e.length:Int)||isR a b d),su a b d||(ltI 200 (↑e.length:Int)||Lp.fin ba (vW a b c d e))]
end
def Ho:aem
 | [.one ⟨true,[.val (.int .i64 a),.ref 0]⟩,.one ⟨false,[.val (.int .i64 b)]⟩,.one ⟨false,[.val (.bool c)]⟩,.one ⟨false,[.ref 1]⟩],[.row false 2 (.int .i64) d,.row false 2 (.int .i64) e]=>some ⟨.tup [⟨false,[.ref 2]⟩,⟨false,[aen (Ce a b c d e)]⟩],[aeq d,aeq e],[aez (Cf a b c d e)],[Cg a b c d e]⟩
 |_,_=>none
def NT:PF prog:=PF.ofG prog (T3z [qt,ak,kb,kS,dc]) [ba.F] bB 6 f6 func6 (LOk.fnT (l:= [bf f6 0]) (by kernel_rfl) (.cons II (.nil _))) Ho (by
 intro _ _ _ h;unfold Ho at h;split at h<;>cases h;kernel_rfl)
abbrev jx:=Int×List Int×List (Int×(Int×Int))×List (Int×(Int×Int))
section
variable (a:Int)(b:aek)(c d:aee)
def cR:Int:=z8 b[z6 a]? 0
def bZ:Int×Int×Int:=z8 c[z6 (cR a b)]? ((0:Int),(0:Int),(0:Int))
def eG:Bool:=(bZ a b c).1==4
def eH:Bool:=(bZ a b c).1==5
def eI:Bool:=(bZ a b c).1==6
def eJ:aeh:= [(bif eG a b c then(1:Int)else bif eH a b c then(1:Int)else bif eI a b c then(1:Int)else(0:Int),bif eG a b c then ((bZ a b c).2).1else bif eH a b c then ((bZ a b c).2).1else bif eI a b c then ((bZ a b c).2).1else ((bZ a b c).2).1,bif eG a b c then(1:Int)else bif eH a b c then(2:Int)else bif eI a b c then(3:Int)else(0:Int))]
def fk:Bool:=ltI a (↑b.length:Int)
def gF:Bool:=leI 0 a
def gG:Bool:=ltN a.toNat b.length
def jA:Bool:= !fD (cR a b) 0 (j6 .i64 ((↑c.length:Int) - (1:Int)))
def jB:Bool:=leI 0 (cR a b)
def jC:Bool:=ltI (cR a b) (↑c.length:Int)
def jD:Bool:=ltN (z6 (cR a b)) c.length
def jE:Bool:=leN (z7 d + z7 (eJ a b c)) 9223372036854775807
def jF:Bool:=leN ((z7 d + z7 (eJ a b c)) * 24) 140737488355328
def jG:Int:=j6 .i64 (a + (1:Int))
def iJ:aee:=d++eJ a b c
end
def Ka:jx→List (Nat×SV)
 |(a,_,_,_)=> [(13,(aep a)),(3,(aeo (.ref 0))),(11,(aeo (.ref 1))),(12,(aeo (.ref 2)))]
def JY:jx→List (Nat×Entry)
 |(_,a,b,c)=> [(0,(aeq a)),(1,(aex b)),(2,(aez c))]
def Ke:Nat→jx→List (Nat×SV)
 |0,(_,_,_,_)=> [(8,(aeo (.ref 3))),(9,(aep 4))]
 |_,(_,_,_,_)=> [(12,(aeo (.ref 2)))]
def Kc:Nat→jx→List (Nat×Entry)
 |0,(_,a,b,c)=> [(0,(aeq a)),(1,(aex b)),(2,(aez c)),(3,(aez []))]
 |_,(_,a,b,c)=> [(0,(aeq a)),(1,(aex b)),(2,(aez c))]
def iI:jx→LT jx
 |(a,b,c,d)=> .ite (fk a b) (.need [gF a,fk a b,gG a b] (.ite (jA a b c) (.ext 0 [(0,0),(1,1),(2,2),(3,896)]) (.need [gF a,fk a b,gG a b,jB a b,jC a b c,jD a b c] (.need [jE a b c d,jF a b c d] (.nrm ((jG a),b,c,(iJ a b c d)) [(0,0),(1,1),(2,2752)]))))) (.ext 1 [(0,0),(1,1),(2,2)])
def xQ(s:St):Option jx:=do
 let some ⟨none,.one ⟨false,[.val (.int .i64 a)]⟩⟩:=s.look 13|none
 let some ⟨none,.one ⟨false,[.ref 1]⟩⟩:=s.look 3|none
 let some ⟨none,.one ⟨false,[.ref 1280]⟩⟩:=s.look 11|none
 let some ⟨none,.one ⟨false,[.ref 1408]⟩⟩:=s.look 12|none
 let some (.row false 2 (.int .i64) b):=s.ent 1|none
 let some (.row true 69 (.pair (.int .i64) (.pair (.int .i64) (.int .i64))) c):=s.ent 1280|none
 let some (.row true 64 (.pair (.int .i64) (.pair (.int .i64) (.int .i64))) d):=s.ent 1408|none
 some (a,b,c,d)
def bc:Lp jx where
 h:=⟨[32,33,34,35,38,39,40,41,42,43,44,45,46,8,9,47,48,49,50,51,52,53,14,54,55,56,15,57,58,60,59,61,62,63,65,64,66,67,68,70,69,71,72,73,74,75,76,77,12,36,37,13],[0,1],[2],[3]⟩
 JL:=Ka
 JE:=JY
 XL:=Ke
 XE:=Kc
 q:=fun j=>match j with | 0=> .ret | _=> .exit 1
 tags:= [0,1]
 lt:=iI
 fuel:=fun(a,b,c,d)=>a.natAbs + b.length + c.length + d.length
 fix:=fun(_,b,c,_) (a,_,_,d)=>(a,b,c,d)
 σ:= [(0,1),(1,1280),(2,1408)]
 rd:=xQ
theorem IJ:LoopOk prog (fun k=>Nat.blt k Tryz.f7.ntmps) bc.F (bf f7 0):=by
 refine Lp.ok (tbl:= (T3z [mD,ed,Fz])) (lf:= []) bB bc (by kernel_rfl) (LOk.nil _) (fun _=>rfl) (fun j _=>by unfold bc;match j with | 0=>rfl | _ + 1=>rfl) ?_ ?_ ?_ ?_ (fun _=>rfl) ?_
 ·intro _;kernel_rfl
 ·intro _;kernel_rfl
 ·intro s x h
  have h:xQ s=some x:=h
  unfold xQ at h
  repeat' split at h
  all_goals cases h
  constructor<;>repeat(first|refine aa ‹_› rfl ?_|refine ab rfl ‹_› rfl ?_|rfl)
 ·intro _;kernel_rfl
 ·intro _ _;exact(And.intro (And.intro trivial rfl) trivial)
section
variable (a b:Int)(c:Bool)(d e:aek)
def sw:Bool:=yO a b d !=0
def wi:Int×aek×aeh×aeh:=((0:Int),e,kL d.length a.toNat b.toNat c,[])
def Bt:Bool:=Nat.beq ((Lp.res bc (wi a b c d e)).1) 0
def Cu:Int:=bif sw a b d then yO a b d else bif ltI 200 (↑e.length:Int)then(3:Int)else bif Bt a b c d e then(4:Int)else(0:Int)
def Cv:aee:=bif sw a b d then []else bif ltI 200 (↑e.length:Int)then []else bif Bt a b c d e then []else (Lp.res bc (wi a b c d e)).2.2.2.2
def Cw:Bool:=allT [sw a b d||(ltI 200 (↑e.length:Int)||isR a b d),sw a b d||(ltI 200 (↑e.length:Int)||Lp.fin bc (wi a b c d e))]
end
def Hs:aem
 | [.one ⟨true,[.val (.int .i64 a),.ref 0]⟩,.one ⟨false,[.val (.int .i64 b)]⟩,.one ⟨false,[.val (.bool c)]⟩,.one ⟨false,[.ref 1]⟩],[.row false 2 (.int .i64) d,.row false 2 (.int .i64) e]=>some ⟨.tup [⟨false,[.ref 2]⟩,⟨false,[aen (Cu a b c d e)]⟩],[aeq d,aeq e],[aez (Cv a b c d e)],[Cw a b c d e]⟩
 |_,_=>none
def NU:PF prog:=PF.ofG prog (T3z [mD,ed,Fz]) [bc.F] bB 7 f7 func7 (LOk.fnT (l:= [bf f7 0]) (by kernel_rfl) (.cons IJ (.nil _))) Hs (by
 intro _ _ _ h;unfold Hs at h;split at h<;>cases h;kernel_rfl)
abbrev bK:=Int×Int×Int×Int×Bool×List Int×List Int×List (ael×((List (Int×(Int×Bool)))×(List (Int×Int))))×List Int
section
variable (a b c:Int)(d:aek)
def fe:aek:= [j6 .i64 ((3:Int) * c)]
def nh:Bool:=ltI a b
def ni:Bool:=leN (z7 d + z7 (fe c)) 9223372036854775807
def nj:Bool:=leN ((z7 d + z7 (fe c)) * 8) 140737488355328
def nk:Int:=j6 .i64 (a + (1:Int))
def nn:aek:=d++fe c
end
def Ai:bK→List (Nat×SV)
 |(a,b,_,_,_,_,_,_,_)=> [(15,(aep a)),(14,(aep b)),(3,(aeo (.ptr 0 0))),(1,(aeo (.ptr 1 0)))]
def Ac:bK→List (Nat×Entry)
 |(_,_,a,b,c,d,e,f,g)=> [(0,(.box 35 [.ref 2,.ref 3,.ref 4])),(1,(.box 53 [aen a,.ref 5,aen b,.val (.bool c)])),(3,(aer e)),(4,(aey f)),(5,(aeq g)),(2,(aer d))]
def Au:Nat→bK→List (Nat×SV)
 |_,_=>[]
def Ao:Nat→bK→List (Nat×Entry)
 |_,(_,_,a,b,c,d,e,f,g)=> [(0,(.box 35 [.ref 2,.ref 3,.ref 4])),(1,(.box 53 [aen a,.ref 5,aen b,.val (.bool c)])),(2,(aer d)),(3,(aer e)),(4,(aey f)),(5,(aeq g))]
def my:bK→LT bK
 |(a,b,c,d,e,f,g,i,j)=> .ite (nh a b) (.need [ni c f,nj c f] (.nrm ((nk a),b,c,d,e,nn c f,g,i,j) [(0,0),(1,1),(2,576),(3,3),(4,4),(5,5)])) (.ext 0 [(0,0),(1,1),(2,2),(3,3),(4,4),(5,5)])
def mF(s:St):Option bK:=do
 let some ⟨none,.one ⟨false,[.val (.int .i64 a)]⟩⟩:=s.look 15|none
 let some ⟨none,.one ⟨false,[.val (.int .i64 b)]⟩⟩:=s.look 14|none
 let some ⟨none,.one ⟨false,[.ptr 576 0]⟩⟩:=s.look 3|none
 let some ⟨none,.one ⟨false,[.ptr 128 0]⟩⟩:=s.look 1|none
 let some (.box 35 [.ref 512,.ref 448,.ref 513]):=s.ent 576|none
 let some (.box 53 [.val (.int .i64 c),.ref 0,.val (.int .i64 d),.val (.bool e)]):=s.ent 128|none
 let some (.row true 2 (.int .i64) g):=s.ent 448|none
 let some (.row true 60 (.pair .str (.pair (.sl 100 (.pair (.int .i64) (.pair (.int .i64) .bool))) (.sl 103 (.pair (.int .i64) (.int .i64))))) i):=s.ent 513|none
 let some (.row false 2 (.int .i64) j):=s.ent 0|none
 let some (.row true 2 (.int .i64) f):=s.ent 512|none
 some (a,b,c,d,e,f,g,i,j)
def aV:Lp bK where
 h:=⟨[16,17,18,19,20,21,22,23,24,25,26,15],[0,1,3,4,5],[2],[]⟩
 JL:=Ai
 JE:=Ac
 XL:=Au
 XE:=Ao
 q:=fun j=>match j with | _=> .exit 0
 tags:= [0]
 lt:=my
 fuel:=fun(a,b,c,d,_,f,g,i,k)=>a.natAbs + b.natAbs + c.natAbs + d.natAbs + f.length + g.length + i.length + k.length
 fix:=fun(_,b,c,d,e,_,g,i,k) (a,_,_,_,_,f,_,_,_)=>(a,b,c,d,e,f,g,i,k)
 σ:= [(0,576),(1,128),(3,448),(4,513),(5,0),(2,512)]
 rd:=mF
theorem zi:LoopOk prog (fun k=>Nat.blt k Tryz.f25.ntmps) aV.F (bf f25 0):=by
 refine Lp.ok (tbl:= (T3z [ak,ac])) (lf:= []) bB aV (by kernel_rfl) (LOk.nil _) (fun _=>rfl) (fun _ _=>rfl) ?_ ?_ ?_ ?_ (fun _=>rfl) ?_
 ·intro _;kernel_rfl
 ·intro _;kernel_rfl
 ·intro s x h
  have h:mF s=some x:=h
  unfold mF at h
  repeat' split at h
  all_goals cases h
  constructor<;>repeat(first|refine aa ‹_› rfl ?_|refine ab rfl ‹_› rfl ?_|rfl)
 ·intro _;kernel_rfl
 ·intro _ _;exact(And.intro rfl trivial)
abbrev bL:=Int×Int×List Int×List Int×List (ael×((List (Int×(Int×Bool)))×(List (Int×Int))))
section
variable (a b:Int)(c d:aek)
def np:Bool:=ltI a b
def nq:Bool:=leN (z7 c + z7 [(4:Int)]) (9223372036854775807:Nat)
def nr:Bool:=leN ((z7 c + z7 [(4:Int)]) * (8:Nat)) 140737488355328
def nt:Bool:=leN (z7 d + z7 [(0:Int)]) (9223372036854775807:Nat)
def nu:Bool:=leN ((z7 d + z7 [(0:Int)]) * (8:Nat)) 140737488355328
def nv:Int:=j6 .i64 (a + (1:Int))
def nx:aek:=c++ [(4:Int)]
def ny:aek:=d++ [(0:Int)]
end
def Aj:bL→List (Nat×SV)
 |(a,b,_,_,_)=> [(30,(aep a)),(29,(aep b)),(3,(aeo (.ptr 0 0)))]
def Ad:bL→List (Nat×Entry)
 |(_,_,a,b,c)=> [(0,(.box 35 [.ref 1,.ref 2,.ref 3])),(3,(aey c)),(1,(aer a)),(2,(aer b))]
def Av:Nat→bL→List (Nat×SV)
 |_,_=>[]
def Ap:Nat→bL→List (Nat×Entry)
 |_,(_,_,a,b,c)=> [(0,(.box 35 [.ref 1,.ref 2,.ref 3])),(1,(aer a)),(2,(aer b)),(3,(aey c))]
def mz:bL→LT bL
 |(a,b,c,d,e)=> .ite (np a b) (.need [nq c,nr c] (.need [nt d,nu d] (.nrm ((nv a),b,nx c,ny d,e) [(0,0),(1,320),(2,704),(3,3)]))) (.ext 0 [(0,0),(1,1),(2,2),(3,3)])
def mG(s:St):Option bL:=do
 let some ⟨none,.one ⟨false,[.val (.int .i64 a)]⟩⟩:=s.look 30|none
 let some ⟨none,.one ⟨false,[.val (.int .i64 b)]⟩⟩:=s.look 29|none
 let some ⟨none,.one ⟨false,[.ptr 576 0]⟩⟩:=s.look 3|none
 let some (.box 35 [.ref 1024,.ref 448,.ref 513]):=s.ent 576|none
 let some (.row true 60 (.pair .str (.pair (.sl 100 (.pair (.int .i64) (.pair (.int .i64) .bool))) (.sl 103 (.pair (.int .i64) (.int .i64))))) e):=s.ent 513|none
 let some (.row true 2 (.int .i64) c):=s.ent 1024|none
 let some (.row true 2 (.int .i64) d):=s.ent 448|none
 some (a,b,c,d,e)
def aW:Lp bL where
 h:=⟨[31,32,33,34,35,36,37,38,39,40,41,42,30],[0,3],[1,2],[]⟩
 JL:=Aj
 JE:=Ad
 XL:=Av
 XE:=Ap
 q:=fun j=>match j with | _=> .exit 2
 tags:= [0]
 lt:=mz
 fuel:=fun(a,b,c,d,e)=>a.natAbs + b.natAbs + c.length + d.length + e.length
 fix:=fun(_,b,_,_,e) (a,_,c,d,_)=>(a,b,c,d,e)
 σ:= [(0,576),(3,513),(1,1024),(2,448)]
 rd:=mG
theorem zj:LoopOk prog (fun k=>Nat.blt k Tryz.f25.ntmps) aW.F (bf f25 1):=by
 refine Lp.ok (tbl:= (T3z [ak,ac])) (lf:= []) bB aW (by kernel_rfl) (LOk.nil _) (fun _=>rfl) (fun _ _=>rfl) ?_ ?_ ?_ ?_ (fun _=>rfl) ?_
 ·intro _;kernel_rfl
 ·intro _;kernel_rfl
 ·intro s x h
  have h:mG s=some x:=h
  unfold mG at h
  repeat' split at h
  all_goals cases h
  constructor<;>repeat(first|refine aa ‹_› rfl ?_|refine ab rfl ‹_› rfl ?_|rfl)
 ·intro _;kernel_rfl
 ·intro _ _;exact(And.intro rfl trivial)
abbrev bM:=Int×Int×List ((ael×((List (Int×(Int×Bool)))×(List (Int×Int))))×(Int×(Int×Int)))×List Int×List Int×List (ael×((List (Int×(Int×Bool)))×(List (Int×Int))))
def ff(a:Int)(b:List ((ael×((aec)×(aej)))×(Int×(Int×Int)))):ael×aeg×aej:=(z8 b[z6 a]? (tC ad1)).1
def iR(a:Int)(b:List ((ael×((aec)×(aej)))×(Int×(Int×Int)))):aeg×aej:=(ff a b).2
def cY(a:Int)(b:List ((ael×((aec)×(aej)))×(Int×(Int×Int)))):ad9:= [((ff a b).1,(iR a b).1,(iR a b).2)]
def nz(a b:Int):Bool:=ltI a b
def nA(a:Int):Bool:=leI 0 a
def nB(a:Int)(b:List ((ael×((aec)×(aej)))×(Int×(Int×Int)))):Bool:=ltI a (↑b.length:Int)
def nC(a:Int)(b:List ((ael×((aec)×(aej)))×(Int×(Int×Int)))):Bool:=ltN a.toNat b.length
def nD(a:Int)(b:List ((ael×((aec)×(aej)))×(Int×(Int×Int))))(c:ad7):Bool:=leN (z7 c + z7 (cY a b)) 9223372036854775807
def nE(a:Int)(b:List ((ael×((aec)×(aej)))×(Int×(Int×Int))))(c:ad7):Bool:=leN ((z7 c + z7 (cY a b)) * 64) 140737488355328
def nF(a:Int):Int:=j6 .i64 (a + (1:Int))
def nG(a:Int)(b:List ((ael×((aec)×(aej)))×(Int×(Int×Int))))(c:ad7):ad7:=c++cY a b
def Ak:bM→List (Nat×SV)
 |(a,b,_,_,_,_)=> [(61,(aep a)),(60,(aep b)),(59,(aeo (.ref 0))),(3,(aeo (.ptr 1 0)))]
def Ae:bM→List (Nat×Entry)
 |(_,_,a,b,c,d)=> [(0,(aew a)),(1,(.box 35 [.ref 2,.ref 3,.ref 4])),(2,(aer b)),(3,(aer c)),(4,(aey d))]
def Aw:Nat→bM→List (Nat×SV)
 |_,_=>[]
def mA:bM→LT bM
 |(a,b,c,d,e,f)=> .ite (nz a b) (.need [nA a,nB a c,nC a c] (.need [nD a c f,nE a c f] (.nrm ((nF a),b,c,d,e,(nG a c f)) [(0,0),(1,1),(2,2),(3,3),(4,704)]))) (.ext 0 [(0,0),(1,1),(2,2),(3,3),(4,4)])
def mH(s:St):Option bM:=do
 let some ⟨none,.one ⟨false,[.val (.int .i64 a)]⟩⟩:=s.look 61|none
 let some ⟨none,.one ⟨false,[.val (.int .i64 b)]⟩⟩:=s.look 60|none
 let some ⟨none,.one ⟨false,[.ref 2560]⟩⟩:=s.look 59|none
 let some ⟨none,.one ⟨false,[.ptr 576 0]⟩⟩:=s.look 3|none
 let some (.row true 62 (.pair (.pair .str (.pair (.sl 100 (.pair (.int .i64) (.pair (.int .i64) .bool))) (.sl 103 (.pair (.int .i64) (.int .i64))))) (.pair (.int .i64) (.pair (.int .i64) (.int .i64)))) c):=s.ent 2560|none
 let some (.box 35 [.ref 1792,.ref 2304,.ref 513]):=s.ent 576|none
 let some (.row true 2 (.int .i64) d):=s.ent 1792|none
 let some (.row true 2 (.int .i64) e):=s.ent 2304|none
 let some (.row true 60 (.pair .str (.pair (.sl 100 (.pair (.int .i64) (.pair (.int .i64) .bool))) (.sl 103 (.pair (.int .i64) (.int .i64))))) f):=s.ent 513|none
 some (a,b,c,d,e,f)
def aX:Lp bM where
 h:=⟨[62,63,64,5,65,66,67,68,69,70,71,72,61],[0,1,2,3],[4],[]⟩
 JL:=Ak
 JE:=Ae
 XL:=Aw
 XE:=fun _=>Ae
 q:=fun j=>match j with | _=> .exit 4
 tags:= [0]
 lt:=mA
 fuel:=fun(a,b,c,d,e,f)=>a.natAbs + b.natAbs + c.length + d.length + e.length + f.length
 fix:=fun(_,b,c,d,e,_) (a,_,_,_,_,f)=>(a,b,c,d,e,f)
 σ:= [(0,2560),(1,576),(2,1792),(3,2304),(4,513)]
 rd:=mH
theorem zk:LoopOk prog (fun k=>Nat.blt k Tryz.f25.ntmps) aX.F (bf f25 2):=by
 refine Lp.ok (tbl:= (T3z [ak,ac])) (lf:= []) bB aX (by kernel_rfl) (LOk.nil _) (fun _=>rfl) (fun _ _=>rfl) ?_ ?_ ?_ ?_ (fun _=>rfl) ?_
 ·intro _;kernel_rfl
 ·intro _;kernel_rfl
 ·intro s x h
  have h:mH s=some x:=h
  unfold mH at h
  repeat' split at h
  all_goals cases h
  constructor<;>repeat(first|refine aa ‹_› rfl ?_|refine ab rfl ‹_› rfl ?_|rfl)
 ·intro _;kernel_rfl
 ·intro _ _;exact(And.intro rfl trivial)
section
variable (a b:Int)(c:Bool)(d:aek)
def oE:Int×Int×Int×Int×Bool×aek×aek×ad9×aek:=((0:Int),(↑d.length:Int),a,b,c,[],d,[],d)
def oF:Int×Int×aek×aek×ad9:=((0:Int),a,((Lp.res aV (oE a b c d)).2.2.2.2.2.2).1,d,[])
def oG:aek×aek×ad9:=(Lp.res aW (oF a b c d)).2.2.2
def ku:aek:=(oG a b c d).1
def kv:aek:= [j6 .i64 (b + (1:Int))]
def oH:aek:=ku a b c d++kv b
def kw:aek:=((oG a b c d).2).1
def oI:aek:=kw a b c d++ [b]
def oJ:ad6:=List.map (rrK d.length a) (kL d.length a.toNat b.toNat c)
def oK:Int×Int×ad6×aek×aek×ad9:=((0:Int),(↑(z7 (oJ a b c d)):Int),oJ a b c d,oH a b c d,oI a b c d,[])
def kO:aek:=oH a b c d
def kP:aek:=oI a b c d
def kQ:ad7:=(Lp.res aX (oK a b c d)).2.2.2.2.2.2
def kR:Bool:=allT [leN 1 d.length&&leN d.length (1048576:Nat),Lp.fin aV (oE a b c d),Lp.fin aW (oF a b c d),leN (z7 (ku a b c d) + z7 (kv b)) 9223372036854775807,leN ((z7 (ku a b c d) + z7 (kv b)) * 8) 140737488355328,leN (z7 (kw a b c d) + z7 [b]) (9223372036854775807:Nat),leN ((z7 (kw a b c d) + z7 [b]) * (8:Nat)) (140737488355328:Nat),isR a b d,Lp.fin aX (oK a b c d)]
end
def tE:aem
 | [.one ⟨true,[.val (.int .i64 a),.ref 0,.val (.int .i64 b),.val (.bool c)]⟩],[.row false 2 (.int .i64) d]=>some ⟨.one ⟨true,[.ref 1,.ref 2,.ref 3]⟩,[aeq d],[aer (kO a b c d),aer (kP a b c d),aey (kQ a b c d)],[kR a b c d]⟩
 |_,_=>none
def pf:PF prog:=PF.ofG prog (T3z [ak,ac]) [aV.F,aW.F,aX.F] bB 25 f25 func25 (LOk.fnT (l:= [bf f25 0,bf f25 1,bf f25 2]) (by kernel_rfl) (.cons zi (.cons zj (.cons zk (.nil _))))) tE (by
 intro _ _ _ h;unfold tE at h;split at h<;>cases h;kernel_rfl)
section
variable (a b:Int)(c:Bool)(d:aek)
def tK:Bool:=tT a b d !=0
def Gn:Int:=bif tK a b d then tT a b d else(0:Int)
def Gp:aek:=bif tK a b d then []else kO a b c d
def Gq:aek:=bif tK a b d then []else kP a b c d
def Gr:ad7:=bif tK a b d then []else kQ a b c d
def Gs:Bool:=allT [tK a b d||kR a b c d]
end
def Ky:aem
 | [.one ⟨true,[.val (.int .i64 a),.ref 0]⟩,.one ⟨false,[.val (.int .i64 b)]⟩,.one ⟨false,[.val (.bool c)]⟩],[.row false 2 (.int .i64) d]=>some ⟨.tup [⟨true,[.ref 1,.ref 2,.ref 3]⟩,⟨false,[aen (Gn a b d)]⟩],[aeq d],[aer (Gp a b c d),aer (Gq a b c d),aey (Gr a b c d)],[Gs a b c d]⟩
 |_,_=>none
def Sp:PF prog:=PF.ofG prog (T3z [qt,pf]) [] bB 9 f9 func9 (fun c _=>LOk.nil c) Ky (by
 intro _ _ _ h;unfold Ky at h;split at h<;>cases h;kernel_rfl)
variable{X C:Type}
theorem Lp.iter(p:Lp X)(st:Nat→X)(e n:Nat)(hn:n≤999)
  (hs: ∀ i,i < n→(p.lt (st i)).out=some (.inr (st (i + 1)))) (he:(p.lt (st n)).out=some (.inl e)):
  p.fin (st 0)=true∧p.res (st 0)=(e,st n):=by
 have kn:=p.run (Lf (fun i (_:Unit)=>st i) (fun(_:Nat) (a:Unit)=>(.inr a:Nat ⊕ Unit)) e (fun _ _=>True) (List.range n) (fun i b a hb _=>by
  obtain⟨rfl,iM⟩:=Ld hb
  exact⟨hs b iM,fun _ _=>trivial⟩) (fun a _=>by rw [List.length_range];exact he) (List.range n) 0 () rfl (by simp) trivial) (Uq (by rw [List.length_range];omega))
 rw [CB (g:=fun a _=>a) (fun _ _=>rfl),List.length_range,Nat.zero_add]at kn
 exact kn
def Ga(n d:Int)(ps:aek):Int:=bif isT n ps then(bif inR d 0 2 then 0 else 2)else 1
theorem TX(n d:Int)(ps:aek):tT n d ps=Ga n d ps:=by
 simp only [tT,aP,tu,Ga]
 cases isT n ps <;> cases inR d 0 2 <;> rfl
theorem TY(n d:Int)(ps:aek):yO n d ps=Ga n d ps:=by
 simp only [yO,fD,tu,Ga]
 cases isT n ps <;> cases inR d 0 2 <;> rfl
theorem zp{n d:Int}{ps:aek}:Ga n d ps=0↔isR n d ps=true:=by
 simp only [Ga,isR]
 cases isT n ps <;> cases inR d 0 2 <;> simp
def atK(L:aeh)(b:Int):Int×Int×Int:=L[b.toNat]?.getD (0,0,0)
def inK(m:Nat)(tr:aek):Bool:=tr.all fun b=>inR b 0 ((m:Int) - 1)
def evW(L:aeh)(tr:aek):aeh:=tr.map fun b=>evK (atK L b)
def fEv(L:aeh)(b:Int)(a:aeh):Nat ⊕ aeh:=bif inR b 0 ((L.length:Int) - 1)then .inr (a++ [evK (atK L b)])else .inl 0
theorem UY(L:aeh): ∀ (tr:aek) (i:Nat) (a:aeh),
  (inK L.length tr=true→eE (fEv L) 1 tr i a=(1,i + tr.length,a++evW L tr))∧(inK L.length tr=false→(eE (fEv L) 1 tr i a).1=0)
 | [],i,a=>⟨fun _=>by simp [eE,evW],fun h=>by cases h⟩
 |b::tr,i,a=>by
  have ih:=UY L tr (i + 1) (a++ [evK (atK L b)])
  cases hb:inR b 0 ((L.length:Int) - 1)with
  |true=>
   have e:inK L.length (b::tr)=inK L.length tr:=by simp only [inK,List.all_cons,hb,Bool.true_and]
   rw [e]
   simp only [eE,fEv,hb,cond_true]
   refine⟨fun h=> ?_,fun h=>ih.2 h⟩
   rw [ih.1 h]
   simp [evW];omega
  |false=>
   have e:inK L.length (b::tr)=false:=by simp only [inK,List.all_cons,hb,Bool.false_and]
   rw [e]
   refine⟨(fun h=>by cases h),fun _=> ?_⟩
   simp only [eE,fEv,hb,cond_false]
theorem aaZ(x:Int×Int×Int):(iO x.1,iP x.1 x.2.1,iQ x.1)=evK x:=by
 simp only [iO,iP,iQ,evK]
 cases x.1==4 <;> cases x.1==5 <;> cases x.1==6 <;> rfl
theorem aa0(x:Int×Int×Int):((bif x.1==4 then 1 else bif x.1==5 then 1 else bif x.1==6 then 1 else 0:Int),
  (bif x.1==4 then x.2.1 else bif x.1==5 then x.2.1 else bif x.1==6 then x.2.1 else x.2.1:Int),(bif x.1==4 then 1 else bif x.1==5 then 2 else bif x.1==6 then 3 else 0:Int))=evK x:=by
 simp only [evK]
 cases x.1==4 <;> cases x.1==5 <;> cases x.1==6 <;> rfl
theorem ade(T:Nat)(n:Int)(L:aeh)(tr:aek)(hL:L.length≤500)(htr:tr.length≤500):
  ba.fin ((0:Int),(tr.length:Int),tr,L.map (rrK T n),[])=true∧
  ba.res ((0:Int),(tr.length:Int),tr,L.map (rrK T n),[])=((eE (fEv L) 1 tr 0 []).1,(((eE (fEv L) 1 tr 0 []).2.1:Int),(tr.length:Int),tr,L.map (rrK T n),(eE (fEv L) 1 tr 0 []).2.2)):=by
 have kn:=ba.along (fun i a=>((i:Int),(tr.length:Int),tr,L.map (rrK T n),a)) (fun x=>x.2.2.2.2) (fEv L) 1 (fun i a=>a.length=i) tr [] rfl (by simp [ba] <;> omega) (fun i b a hb hI=> ?_) (fun a _=> ?_)
 ·exact kn
 ·have iM:=(z1.1 hb).1
  have lV:z8 tr[i]? 0=b:=by rw [hb];rfl
  have hw:=mO iM (by omega)
  have h1:ltI (i:Int) (tr.length:Int)=true:=eV (by omega)
  have h2:leI 0 (i:Int)=true:=du (by omega)
  have h3:ltN i tr.length=true:=lR (by omega)
  have kg:re (L.map (rrK T n))=(L.length:Int):=by simp [re]
  have hw1:IntKind.i64.wrap ((L.length:Int) - 1)=(L.length:Int) - 1:=aC (by omega) (by omega)
  have l1:=xK (b:=1) (show a.length≤500 by omega) (by decide) (by decide)
  have l2:=IG (b:=1) (show a.length≤500 by omega) (by decide) (by decide)
  cases hr:inR b 0 ((L.length:Int) - 1)with
  |false=>
   refine⟨?_,?_,?_,fun a' ha=> ?_⟩
   ·simp only [cw,cP,eF,jy,ls,lu,lv,jz,lw,lx,ly,lz,lA,kA,iB,iH,ba,LT.nds,allT,h1,h2,h3,lV,kg,hw1,hr,hw,cond_true,cond_false,Bool.not_true,Bool.not_false,Bool.and_self,Bool.true_and,Bool.and_true,Bool.true_or,w8,Bool.false_or,Bool.or_false,q9,aP,fD,tu,w6,w7,List.length_map,Nat.zero_add,true_and,and_true,and_self]
   ·simp only [cw,cP,eF,jy,ls,lu,lv,jz,lw,lx,ly,lz,lA,kA,iB,iH,ba,LT.each,allT,h1,h2,h3,lV,kg,hw1,hr,hw,cond_true,cond_false,Bool.not_true,Bool.not_false,Bool.and_self,Bool.true_and,Bool.and_true,Bool.true_or,w8,Bool.false_or,Bool.or_false,q9,aP,fD,tu,w6,w7,List.length_map,Nat.zero_add,true_and,and_true,and_self]
   ·simp only [cw,cP,eF,jy,ls,lu,lv,jz,lw,lx,ly,lz,lA,kA,iB,iH,ba,LT.fn,allT,h1,h2,h3,lV,kg,hw1,hr,hw,fEv,cond_true,cond_false,Bool.not_true,Bool.not_false,Bool.and_self,Bool.true_and,Bool.and_true,Bool.true_or,w8,Bool.false_or,Bool.or_false,q9,aP,fD,tu,w6,w7,List.length_map,Nat.zero_add,true_and,and_true,and_self]
   ·simp [fEv,hr]at ha
  |true=>
   have hb2:=pa.1 hr
   have MF:b.toNat < L.length:=by omega
   have h4:leI 0 b=true:=du hb2.1
   have h9:leI b ((L.length:Int) - 1)=true:=du hb2.2
   have h5:ltI b (L.length:Int)=true:=eV (by omega)
   have h6:ltN b.toNat L.length=true:=lR MF
   have hk:cP (i:Int) tr (L.map (rrK T n))=atK L b:=by
    have e:cw (i:Int) tr=b:=lV
    have e2:(L.map (rrK T n))[b.toNat]? =some (rrK T n L[b.toNat]):=by rw [List.getElem?_map,List.getElem?_eq_getElem MF];rfl
    unfold cP
    rw [e,e2,show atK L b=L[b.toNat] by simp [atK,List.getElem?_eq_getElem MF]]
    rfl
   have YM:=aaZ (atK L b)
   refine⟨?_,?_,?_,fun a' ha=> ?_⟩
   ·simp only [cw,cP,eF,jy,ls,lu,lv,jz,lw,lx,ly,lz,lA,kA,iB,iH,ba,LT.nds,allT,h1,h2,h3,lV,kg,hw1,hr,hw,h4,h9,h5,h6,l1,l2,cond_true,cond_false,Bool.not_true,Bool.not_false,Bool.and_self,Bool.true_and,Bool.and_true,Bool.true_or,w8,Bool.false_or,Bool.or_false,q9,aP,fD,tu,w6,w7,List.length_map,Nat.zero_add,true_and,and_true,and_self]
   ·simp only [cw,cP,eF,jy,ls,lu,lv,jz,lw,lx,ly,lz,lA,kA,iB,iH,ba,LT.each,allT,h1,h2,h3,lV,kg,hw1,hr,hw,h4,h9,h5,h6,l1,l2,cond_true,cond_false,Bool.not_true,Bool.not_false,Bool.and_self,Bool.true_and,Bool.and_true,Bool.true_or,w8,Bool.false_or,Bool.or_false,q9,aP,fD,tu,w6,w7,List.length_map,Nat.zero_add,true_and,and_true,and_self]
   ·simp only [ba,iH,jy,jz,cw,iB,eF,LT.fn,allT,h1,h2,h3,lV,kg,hw1,hr,hw,h4,h9,h5,h6,l1,l2,hk,YM,fEv,cond_true,cond_false,Bool.not_true,Bool.not_false,Bool.and_self,Bool.true_and,Bool.and_true,Bool.true_or,w8,Bool.false_or,Bool.or_false,q9,aP,fD,tu,w6,w7,List.length_map,Nat.zero_add,true_and,and_true,and_self]
   ·simp only [fEv,hr,cond_true,Sum.inr.injEq]at ha
    subst ha;simp [hI]
 ·have h1:ltI (tr.length:Int) (tr.length:Int)=false:=qW (by omega)
  simp only [cw,cP,eF,jy,ls,lu,lv,jz,lw,lx,ly,lz,lA,kA,iB,iH,ba,LT.out,h1,cond_false]
theorem adf(L:aeh)(tr:aek)(hL:L.length≤500)(htr:tr.length≤500):
  bc.fin ((0:Int),tr,L,[])=true∧
  bc.res ((0:Int),tr,L,[])=((eE (fEv L) 1 tr 0 []).1,(((eE (fEv L) 1 tr 0 []).2.1:Int),tr,L,(eE (fEv L) 1 tr 0 []).2.2)):=by
 have kn:=bc.along (fun i a=>((i:Int),tr,L,a)) (fun x=>x.2.2.2) (fEv L) 1 (fun i a=>a.length=i) tr [] rfl (by simp [bc] <;> omega) (fun i b a hb hI=> ?_) (fun a _=> ?_)
 ·exact kn
 ·have iM:=(z1.1 hb).1
  have lV:z8 tr[i]? 0=b:=by rw [hb];rfl
  have hw:=mO iM (by omega)
  have h1:ltI (i:Int) (tr.length:Int)=true:=eV (by omega)
  have h2:leI 0 (i:Int)=true:=du (by omega)
  have h3:ltN i tr.length=true:=lR (by omega)
  have hw1:IntKind.i64.wrap ((L.length:Int) - 1)=(L.length:Int) - 1:=aC (by omega) (by omega)
  have l1:=xK (b:=1) (show a.length≤500 by omega) (by decide) (by decide)
  have l2:=IG (b:=1) (show a.length≤500 by omega) (by decide) (by decide)
  cases hr:inR b 0 ((L.length:Int) - 1)with
  |false=>
   refine⟨?_,?_,?_,fun a' ha=> ?_⟩
   ·simp only [cR,bZ,eG,eH,eI,eJ,fk,gF,gG,jA,jB,jC,jD,jE,jF,jG,iJ,iI,bc,LT.nds,allT,h1,h2,h3,lV,hw1,hr,hw,cond_true,cond_false,Bool.not_true,Bool.not_false,Bool.and_self,Bool.true_and,Bool.and_true,Bool.true_or,w8,Bool.false_or,Bool.or_false,q9,aP,fD,tu,w6,w7,List.length_map,Nat.zero_add,true_and,and_true,and_self]
   ·simp only [cR,bZ,eG,eH,eI,eJ,fk,gF,gG,jA,jB,jC,jD,jE,jF,jG,iJ,iI,bc,LT.each,allT,h1,h2,h3,lV,hw1,hr,hw,cond_true,cond_false,Bool.not_true,Bool.not_false,Bool.and_self,Bool.true_and,Bool.and_true,Bool.true_or,w8,Bool.false_or,Bool.or_false,q9,aP,fD,tu,w6,w7,List.length_map,Nat.zero_add,true_and,and_true,and_self]
   ·simp only [cR,bZ,eG,eH,eI,eJ,fk,gF,gG,jA,jB,jC,jD,jE,jF,jG,iJ,iI,bc,LT.fn,allT,h1,h2,h3,lV,hw1,hr,hw,fEv,cond_true,cond_false,Bool.not_true,Bool.not_false,Bool.and_self,Bool.true_and,Bool.and_true,Bool.true_or,w8,Bool.false_or,Bool.or_false,q9,aP,fD,tu,w6,w7,List.length_map,Nat.zero_add,true_and,and_true,and_self]
   ·simp [fEv,hr]at ha
  |true=>
   have hb2:=pa.1 hr
   have MF:b.toNat < L.length:=by omega
   have h4:leI 0 b=true:=du hb2.1
   have h9:leI b ((L.length:Int) - 1)=true:=du hb2.2
   have h5:ltI b (L.length:Int)=true:=eV (by omega)
   have h6:ltN b.toNat L.length=true:=lR MF
   have hk:z8 L[b.toNat]? (0,0,0)=atK L b:=rfl
   have YM:=aa0 (atK L b)
   refine⟨?_,?_,?_,fun a' ha=> ?_⟩
   ·simp only [cR,bZ,eG,eH,eI,eJ,fk,gF,gG,jA,jB,jC,jD,jE,jF,jG,iJ,iI,bc,LT.nds,allT,h1,h2,h3,lV,hw1,hr,hw,h4,h9,h5,h6,l1,l2,cond_true,cond_false,Bool.not_true,Bool.not_false,Bool.and_self,Bool.true_and,Bool.and_true,Bool.true_or,w8,Bool.false_or,Bool.or_false,q9,aP,fD,tu,w6,w7,List.length_map,Nat.zero_add,true_and,and_true,and_self]
   ·simp only [cR,bZ,eG,eH,eI,eJ,fk,gF,gG,jA,jB,jC,jD,jE,jF,jG,iJ,iI,bc,LT.each,allT,h1,h2,h3,lV,hw1,hr,hw,h4,h9,h5,h6,l1,l2,cond_true,cond_false,Bool.not_true,Bool.not_false,Bool.and_self,Bool.true_and,Bool.and_true,Bool.true_or,w8,Bool.false_or,Bool.or_false,q9,aP,fD,tu,w6,w7,List.length_map,Nat.zero_add,true_and,and_true,and_self]
   ·simp only [cR,bZ,eG,eH,eI,eJ,fk,gF,gG,jA,jB,jC,jD,jE,jF,jG,iJ,iI,bc,LT.fn,allT,h1,h2,h3,lV,hw1,hr,hw,h4,h9,h5,h6,l1,l2,hk,YM,fEv,cond_true,cond_false,Bool.not_true,Bool.not_false,Bool.and_self,Bool.true_and,Bool.and_true,Bool.true_or,w8,Bool.false_or,Bool.or_false,q9,aP,fD,tu,w6,w7,List.length_map,Nat.zero_add,true_and,and_true,and_self]
   ·simp only [fEv,hr,cond_true,Sum.inr.injEq]at ha
    subst ha;simp [hI]
 ·have h1:ltI (tr.length:Int) (tr.length:Int)=false:=qW (by omega)
  simp only [cR,bZ,eG,eH,eI,eJ,fk,gF,gG,jA,jB,jC,jD,jE,jF,jG,iJ,iI,bc,LT.out,h1,cond_false]
def Hw(n d:Int)(s:Bool)(ps tr:aek):Int:=bif isR n d ps then(bif leN tr.length 200 then(bif inK (kL ps.length n.toNat d.toNat s).length tr then 0 else 4)else 3)else Ga n d ps
def evE(n d:Int)(s:Bool)(ps tr:aek):aeh:=bif eqI (Hw n d s ps tr) 0 then evW (kL ps.length n.toNat d.toNat s) tr else []
theorem IF{n d:Int}{s:Bool}{ps:aek}(h:isR n d ps=true):(kL ps.length n.toNat d.toNat s).length≤176:=by
 obtain⟨hT,hd⟩:=Hj.1 h
 obtain⟨h1,h2,_⟩:=gt.1 hT
 exact acK (by omega) (by omega) (by omega)
theorem XN(tr:aek):ltI 200 (tr.length:Int)= !leN tr.length 200:=by
 cases h:leN tr.length 200 with
 |true=>have:=sj.1 h;exact qW (by omega)
 |false=>have:=ZN.1 h;exact eV (by omega)
theorem acD(n d:Int)(s:Bool)(ps tr:aek):
  Ce n d s ps tr=Hw n d s ps tr∧Cf n d s ps tr=evE n d s ps tr∧Cg n d s ps tr=true:=by
 simp only [su,vW,Bb,Ce,Cf,Cg,TX,XN,evE,Hw]
 cases h:isR n d ps with
 |false=>
  have hc:(Ga n d ps !=0)=true:=by
   simp only [bne_iff_ne,ne_eq,zp,h];decide
  have hc2:eqI (Ga n d ps) 0=false:=act (by simpa using hc)
  simp [hc,hc2,allT]
 |true=>
  have hc:(Ga n d ps !=0)=false:=by simp [zp.2 h]
  cases hl:leN tr.length 200 with
  |false=>simp [hc,allT,eqI]
  |true=>
   have hl2:=sj.1 hl
   have hk:=IF (s:=s) h
   obtain⟨w1,w2⟩:=ade ps.length n (kL ps.length n.toNat d.toNat s) tr (by omega) (by omega)
   obtain⟨g1,g2⟩:=UY (kL ps.length n.toNat d.toNat s) tr 0 []
   cases hi:inK (kL ps.length n.toNat d.toNat s).length tr with
   |true=>simp [hc,w1,w2,g1 hi,allT,eqI,show Nat.beq 1 0=false from rfl]
   |false=>simp [hc,w1,w2,g2 hi,allT,eqI,show Nat.beq 0 0=true from rfl]
theorem acE(n d:Int)(s:Bool)(ps tr:aek):
  Cu n d s ps tr=Hw n d s ps tr∧Cv n d s ps tr=evE n d s ps tr∧Cw n d s ps tr=true:=by
 simp only [sw,wi,Bt,Cu,Cv,Cw,TY,XN,evE,Hw]
 cases h:isR n d ps with
 |false=>
  have hc:(Ga n d ps !=0)=true:=by
   simp only [bne_iff_ne,ne_eq,zp,h];decide
  have hc2:eqI (Ga n d ps) 0=false:=act (by simpa using hc)
  simp [hc,hc2,allT]
 |true=>
  have hc:(Ga n d ps !=0)=false:=by simp [zp.2 h]
  cases hl:leN tr.length 200 with
  |false=>simp [hc,allT,eqI]
  |true=>
   have hl2:=sj.1 hl
   have hk:=IF (s:=s) h
   obtain⟨w1,w2⟩:=adf (kL ps.length n.toNat d.toNat s) tr (by omega) (by omega)
   obtain⟨g1,g2⟩:=UY (kL ps.length n.toNat d.toNat s) tr 0 []
   cases hi:inK (kL ps.length n.toNat d.toNat s).length tr with
   |true=>simp [hc,w1,w2,g1 hi,allT,eqI,show Nat.beq 1 0=false from rfl]
   |false=>simp [hc,w1,w2,g2 hi,allT,eqI,show Nat.beq 0 0=true from rfl]
def Ht:aem
 | [.one ⟨true,[.val (.int .i64 a),.ref 0]⟩,.one ⟨false,[.val (.int .i64 b)]⟩,.one ⟨false,[.val (.bool c)]⟩,.one ⟨false,[.ref 1]⟩],[.row false 2 (.int .i64) d,.row false 2 (.int .i64) e]=>some ⟨.tup [⟨false,[.ref 2]⟩,⟨false,[aen (Hw a b c d e)]⟩],[aeq d,aeq e],[aez (evE a b c d e)],[]⟩
 |_,_=>none
def Cm:PF prog:=PF.alt NT Ht (by
 intro args es o h ec;unfold Ht at h;split at h
 ·rename_i a b c d e
  cases h
  have hh:=acD a b c d e
  obtain⟨e0,e1,en⟩:=hh
  exact yF rfl (tw en) (by simp only [e0] <;> rfl) rfl (by simp only [e1] <;> rfl)
 ·cases h)
def Hu:aem
 | [.one ⟨true,[.val (.int .i64 a),.ref 0]⟩,.one ⟨false,[.val (.int .i64 b)]⟩,.one ⟨false,[.val (.bool c)]⟩,.one ⟨false,[.ref 1]⟩],[.row false 2 (.int .i64) d,.row false 2 (.int .i64) e]=>some ⟨.tup [⟨false,[.ref 2]⟩,⟨false,[aen (Hw a b c d e)]⟩],[aeq d,aeq e],[aez (evE a b c d e)],[]⟩
 |_,_=>none
def Cn:PF prog:=PF.alt NU Hu (by
 intro args es o h ec;unfold Hu at h;split at h
 ·rename_i a b c d e
  cases h
  have hh:=acE a b c d e
  obtain⟨e0,e1,en⟩:=hh
  exact yF rfl (tw en) (by simp only [e0] <;> rfl) rfl (by simp only [e1] <;> rfl)
 ·cases h)
theorem Rz{C:Type}(i:Nat)(x:C):j7 (i + 1) x=j7 i x++ [x]:=List.replicate_succ'
theorem Hl{a b m:Nat}(h:a≤m)(hb:b≤999)(hm:m≤100000):leN ((a + b) * 8) 140737488355328=true:=qf (by omega)
theorem XI{a b m:Nat}(h:a≤m)(hb:b≤999)(hm:m≤100000):leN ((a + b) * 64) 140737488355328=true:=qf (by omega)
theorem adn(n d:Int)(s:Bool)(ps:aek)(hT:isT n ps=true):
  aV.fin ((0:Int),(ps.length:Int),n,d,s,[],ps,[],ps)=true∧aV.res ((0:Int),(ps.length:Int),n,d,s,[],ps,[],ps)=(0,((ps.length:Int),(ps.length:Int),n,d,s,j7 ps.length (3 * n),ps,[],ps)):=by
 obtain⟨h1,h2,_⟩:=gt.1 hT
 have kn:=aV.iter (fun i=>((i:Int),(ps.length:Int),n,d,s,j7 i (3 * n),ps,[],ps)) 0 ps.length (by omega) (fun i hi=> ?_) ?_
 ·exact kn
 ·have hw:IntKind.i64.wrap ((i:Int) + 1)=((i + 1:Nat):Int):=mO hi (by omega)
  have h3:ltI (i:Int) (ps.length:Int)=true:=eV (by omega)
  have q1:IntKind.i64.wrap (3 * n)=3 * n:=aC (by omega) (by omega)
  have l1:=xK (b:=1) (show i≤500 by omega) (by decide) (by decide)
  have l2:=Hl (b:=1) (show i≤500 by omega) (by decide) (by decide)
  simp only [fe,nh,ni,nj,nk,nn,my,aV,LT.out,allT,h3,hw,q1,l1,l2,Rz,w9,w6,w7,Nat.zero_add,cond_true]
 ·have h3:ltI (ps.length:Int) (ps.length:Int)=false:=qW (by omega)
  simp only [fe,nh,ni,nj,nk,nn,my,aV,LT.out,h3,cond_false]
theorem ado(m:Nat)(zs ps:aek)(hm:m≤8)(hz:zs.length≤100)(hp:ps.length≤100):
  aW.fin ((0:Int),(m:Int),zs,ps,[])=true∧aW.res ((0:Int),(m:Int),zs,ps,[])=(0,((m:Int),(m:Int),zs++j7 m 4,ps++j7 m 0,[])):=by
 have kn:=aW.iter (fun i=>((i:Int),(m:Int),zs++j7 i 4,ps++j7 i 0,[])) 0 m (by omega) (fun i hi=> ?_) ?_
 ·simpa only [show ((0:Nat):Int)=0 from rfl,List.replicate_zero,List.append_nil] using kn
 ·have hw:IntKind.i64.wrap ((i:Int) + 1)=((i + 1:Nat):Int):=mO hi (by omega)
  have h3:ltI (i:Int) (m:Int)=true:=eV (by omega)
  have l1:=xK (b:=1) (show zs.length + i≤500 by omega) (by decide) (by decide)
  have l2:=Hl (b:=1) (show zs.length + i≤500 by omega) (by decide) (by decide)
  have l3:=xK (b:=1) (show ps.length + i≤500 by omega) (by decide) (by decide)
  have l4:=Hl (b:=1) (show ps.length + i≤500 by omega) (by decide) (by decide)
  simp only [np,nq,nr,nt,nu,nv,nx,ny,mz,aW,LT.out,allT,h3,hw,l1,l2,l3,l4,Rz,w5,w9,w6,w7,Nat.zero_add,cond_true,List.append_assoc]
 ·have h3:ltI (m:Int) (m:Int)=false:=qW (by omega)
  simp only [np,nq,nr,nt,nu,nv,nx,ny,mz,aW,LT.out,h3,cond_false]
theorem Ku{A B:Type}{L:List A}{i:Nat}(h:i < L.length)(f:A→B):(L.take (i + 1)).map f=(L.take i).map f++ [f L[i]]:=by
 rw [List.take_add_one,List.getElem?_eq_getElem h,List.map_append];rfl
theorem adp(T:Nat)(n:Int)(L:aeh)(zs ps:aek)(hL:L.length≤500):
  aX.fin ((0:Int),(((L.map (rrK T n)).length:Nat):Int),L.map (rrK T n),zs,ps,[])=true∧
  aX.res ((0:Int),(((L.map (rrK T n)).length:Nat):Int),L.map (rrK T n),zs,ps,[])=(0,((((L.map (rrK T n)).length:Nat):Int),(((L.map (rrK T n)).length:Nat):Int),L.map (rrK T n),zs,ps,L.map (ruK T n))):=by
 have kg:(L.map (rrK T n)).length=L.length:=List.length_map _
 rw [kg]
 have kn:=aX.iter (fun i=>((i:Int),(L.length:Int),L.map (rrK T n),zs,ps,(L.take i).map (ruK T n))) 0 L.length (by omega) (fun i hi=> ?_) ?_
 ·simpa only [show ((0:Nat):Int)=0 from rfl,List.take_zero,List.map_nil,List.take_length] using kn
 ·have hw:IntKind.i64.wrap ((i:Int) + 1)=((i + 1:Nat):Int):=mO hi (by omega)
  have h3:ltI (i:Int) (L.length:Int)=true:=eV (by omega)
  have h4:leI 0 (i:Int)=true:=du (by omega)
  have h5:ltN i L.length=true:=lR hi
  have hmi:min i L.length=i:=by omega
  have l1:=xK (b:=1) (show i≤500 by omega) (by decide) (by decide)
  have l2:=XI (b:=1) (show i≤500 by omega) (by decide) (by decide)
  have e2:(L.map (rrK T n))[i]? =some (rrK T n L[i]):=by rw [List.getElem?_map,List.getElem?_eq_getElem hi];rfl
  have hk:ff (i:Int) (L.map (rrK T n))=ruK T n L[i]:=by
   unfold ff
   rw [q9,e2];rfl
  have hk2:cY (i:Int) (L.map (rrK T n))= [ruK T n L[i]]:=by
   simp only [cY,iR,hk]
  simp only [aX,mA,nz,nA,nB,nC,nD,nE,nF,nG,LT.out,allT,h3,h4,h5,hw,hk2,kg,l1,l2,hmi,Ku hi,q9,
   List.length_map,List.length_take,w6,w7,Nat.zero_add,cond_true]
 ·have h3:ltI (L.length:Int) (L.length:Int)=false:=qW (by omega)
  simp only [ff,iR,cY,nz,nA,nB,nC,nD,nE,nF,nG,mA,aX,LT.out,h3,cond_false]
def stM(n d:Int)(ps:aek):aek:=stV (ps,j7 n.toNat 0) d
theorem abl(n d:Int)(s:Bool)(ps:aek)(h:isR n d ps=true):
  kO n d s ps=szM ps.length n d.toNat∧kP n d s ps=stM n d ps∧kQ n d s ps=(kL ps.length n.toNat d.toNat s).map (ruK ps.length n)∧kR n d s ps=true:=by
 obtain⟨hT,hd⟩:=Hj.1 h
 obtain⟨h1,h2,_⟩:=gt.1 hT
 obtain⟨m,rfl⟩:=Int.eq_ofNat_of_zero_le (show 0≤n by omega)
 obtain⟨k,rfl⟩:=Int.eq_ofNat_of_zero_le hd.1
 have hk:=IF (s:=s) h
 obtain⟨a1,a2⟩:=adn m k s ps hT
 obtain⟨b1,b2⟩:=ado m (j7 ps.length (3 * (m:Int))) ps (by omega) (by rw [w9];omega) (by omega)
 have q1:IntKind.i64.wrap ((k:Int) + 1)=(k:Int) + 1:=aC (by omega) (by omega)
 obtain⟨c1,c2⟩:=adp ps.length m (kL ps.length m k s) (j7 ps.length (3 * (m:Int))++j7 m 4++ [(k:Int) + 1]) (ps++j7 m 0++ [(k:Int)]) (by simpa using Nat.le_trans hk (by decide))
 have l1:=xK (b:=1) (show ps.length + m≤500 by omega) (by decide) (by decide)
 have l2:=Hl (b:=1) (show ps.length + m≤500 by omega) (by decide) (by decide)
 have l3:leN 1 ps.length=true:=qf h2.1
 have l4:leN ps.length 1048576=true:=qf (by omega)
 simp only [oE,oF,oG,ku,kv,oH,kw,oI,oJ,oK,kO,kP,kQ,kR,a1,a2,b1,b2,q1,q9,c1,c2,l1,l2,l3,l4,h,allT,szM,stM,stV,List.append_assoc,w5,w9,w6,w7,Nat.zero_add,cond_true,Bool.and_self,and_self]
 simp only [List.append_assoc]at c1 c2
 simp only [c1,c2,cond_true,and_self]
theorem WP(n d:Int)(s:Bool)(ps:aek):
  Gn n d ps=Ga n d ps∧Gp n d s ps=(bif isR n d ps then szM ps.length n d.toNat else [])∧Gq n d s ps=(bif isR n d ps then stM n d ps else [])∧
  Gr n d s ps=(bif isR n d ps then(kL ps.length n.toNat d.toNat s).map (ruK ps.length n)else [])∧Gs n d s ps=true:=by
 simp only [tK,Gn,Gp,Gq,Gr,Gs,TX]
 cases h:isR n d ps with
 |false=>
  have hc:(Ga n d ps !=0)=true:=by
   simp only [bne_iff_ne,ne_eq,zp,h];decide
  simp [hc,allT]
 |true=>
  have hc0:=zp.2 h
  obtain⟨m1,m2,m3,m4⟩:=abl n d s ps h
  simp [hc0,m1,m2,m3,m4,allT]
def KG:aem
 | [.one ⟨true,[.val (.int .i64 a),.ref 0]⟩,.one ⟨false,[.val (.int .i64 b)]⟩,.one ⟨false,[.val (.bool c)]⟩],[.row false 2 (.int .i64) d]=>some ⟨.tup [⟨true,[.ref 1,.ref 2,.ref 3]⟩,⟨false,[aen (Ga a b d)]⟩],[aeq d],[aer (bif isR a b d then szM d.length a b.toNat else []),aer (bif isR a b d then stM a b d else []),aey (bif isR a b d then(kL d.length a.toNat b.toNat c).map (ruK d.length a)else [])],[]⟩
 |_,_=>none
def GJ:PF prog:=PF.alt Sp KG (by
 intro args es o h ec;unfold KG at h;split at h
 ·rename_i a b c d
  cases h
  have hh:=WP a b c d
  obtain⟨e0,e1,e2,e3,en⟩:=hh
  exact yF rfl (tw en) (by simp only [e0] <;> rfl) rfl (by simp only [e1,e2,e3] <;> rfl)
 ·cases h)
theorem acy(s:ael)(i:Nat):s[i]? =s.data.toList[i]? :=by
 by_cases h:i < s.size
 ·rw [getElem?_pos s i h,Array.getElem?_toList]
  have h':i < s.data.size:=h
  rw [Array.getElem?_eq_getElem h']
  rfl
 ·rw [getElem?_neg s i h,Array.getElem?_toList]
  have h': ¬ i < s.data.size:=h
  rw [Array.getElem?_eq_none (by omega)]
def wbM:ael:=ByteArray.mk #[97,98,99,100,101,102,103,104,105,106,107,108,109,110,111,112,113,114,115,116,117,118,119,120,121,122,48,49,50,51,52,53,54,55,56,57,95]
def okY(b:UInt8):Bool:=leI 0 (ibs wbM (b.toNat:Int))
def okN(x:ael):Bool:=x.data.toList.all okY
theorem ab6(x y:ael):okN (x++y)=(okN x&&okN y):=by
 simp only [okN,ByteArray.data_append,Array.toList_append,List.all_append]
theorem Xp{a:Int}(ha:0≤a∧a < 10):okN (Bz a)=true∧(Bz a).size=1:=by
 rw [SO ha.1 ha.2]
 have hc:a=0∨a=1∨a=2∨a=3∨a=4∨a=5∨a=6∨a=7∨a=8∨a=9:=by omega
 rcases hc with rfl | rfl | rfl | rfl | rfl | rfl | rfl | rfl | rfl | rfl <;> exact⟨by decide +kernel,by decide +kernel⟩
theorem ab1{k a b:Int}(hk:0≤k∧k≤6)(ha:0≤a∧a < 10)(hb:0≤b∧b < 10):
  okN (jg k a b)=true∧1≤(jg k a b).size∧(jg k a b).size≤16:=by
 have h0:okN (rG k)=true∧(rG k).size≤8:=by
  have hc:k=0∨k=1∨k=2∨k=3∨k=4∨k=5∨k=6:=by omega
  rcases hc with rfl | rfl | rfl | rfl | rfl | rfl | rfl <;> exact⟨by decide +kernel,by decide +kernel⟩
 obtain⟨a1,a2⟩:=Xp ha
 obtain⟨b1,b2⟩:=Xp hb
 have h5:okN (ByteArray.mk #[95])=true:=by decide +kernel
 have h6:(ByteArray.mk #[95]).size=1:=rfl
 simp only [jg,rH,lj,mq,ab6,ByteArray.size_append,h0.1,a1,b1,h5,a2,b2,h6,Bool.and_self]
 refine⟨trivial,?_,?_⟩ <;> omega
theorem adw(x:ael)(hx:x.size≤100)(h:okN x=true):
  iG.fin ((0:Int),(0:Int),x,wbM)=true∧iG.res ((0:Int),(0:Int),x,wbM)=(0,((0:Int),(x.size:Int),x,wbM)):=by
 have kn:=iG.iter (fun i=>((0:Int),(i:Int),x,wbM)) 0 x.size (by omega) (fun i hi=> ?_) ?_
 ·exact kn
 ·have hw:IntKind.i64.wrap ((i:Int) + 1)=((i + 1:Nat):Int):=mO hi (by omega)
  have hw0:IntKind.i64.wrap (0 + (i:Int))=(i:Int):=by rw [aC (by omega) (by omega)];omega
  have h3:ltI (i:Int) (x.size:Int)=true:=eV (by omega)
  have h4:leI 0 (i:Int)=true:=du (by omega)
  have hl:i < x.data.toList.length:=hi
  have hb:okY x.data.toList[i]=true:=List.all_eq_true.1 h _ (List.getElem_mem hl)
  have hg:z8 x[i]? (0:UInt8)=x.data.toList[i]:=by rw [acy,List.getElem?_eq_getElem hl];rfl
  have hb2:leI 0 (ibs wbM (x.data.toList[i].toNat:Int))=true:=hb
  simp only [qV,Do,Dp,Dq,Dr,Cl,iG,LT.out,allT,hw,hw0,h3,h4,hg,wK,oC,hb2,q9,cond_true,Bool.and_self,Bool.not_true,w8]
 ·have hw0:IntKind.i64.wrap (0 + (x.size:Int))=(x.size:Int):=by rw [aC (by omega) (by omega)];omega
  have h3:ltI (x.size:Int) (x.size:Int)=false:=qW (by omega)
  simp only [qV,Do,Dp,Dq,Dr,Cl,iG,LT.out,allT,hw0,h3,cond_false,cond_true,Bool.false_and,Bool.not_false,Bool.true_or]
theorem Ya(x:ael)(hx:1≤x.size∧x.size≤16)(h:okN x=true):qP x=true∧tL x=true:=by
 obtain⟨w1,w2⟩:=adw x (by omega) h
 have hr:inR (x.size:Int) 1 16=true:=pa.2 (by omega)
 rw [wbM]at w1 w2
 simp only [xJ,qP,tL,Fu,GD,GF,aP,tu,hr,w1,w2,allT,cond_true,beq_self_eq_true,w8,and_self]
def XQ(sz:aek):Prop:=sz.length≤500∧ ∀ y∈sz,0≤y∧y≤1000000
theorem Jw{sz:aek}(hs:XQ sz)(x v:Int):de x v sz=ME sz x v∧df x sz=true:=by
 have hl:=hs.1
 have q1:IntKind.i64.wrap ((sz.length:Int) - 1)=(sz.length:Int) - 1:=aC (by omega) (by omega)
 have hln:ax sz=(sz.length:Int):=GG sz (by omega)
 have hg:0≤z8 sz[x.toNat]? 0∧z8 sz[x.toNat]? 0≤1000000:=by
  cases hq:sz[x.toNat]? with
  |none=>simp
  |some y=>exact hs.2 y (List.mem_of_getElem? hq)
 have q2:IntKind.i64.wrap (z8 sz[x.toNat]? 0 - 1)=z8 sz[x.toNat]? 0 - 1:=aC (by omega) (by omega)
 simp only [gu,de,df,aP,tu,hln,q1,q2,ME]
 cases hr:inR x 0 ((sz.length:Int) - 1)with
 |false=>simp [allT]
 |true=>
  have h1:=pa.1 hr
  have h2:leI 0 x=true:=du h1.1
  have h3:ltI x (sz.length:Int)=true:=eV (by omega)
  have h4:ltN x.toNat sz.length=true:=lR (by omega)
  simp only [allT,h2,h3,h4,cond_true,Bool.true_and,w8,and_self]
abbrev RuE:=ael×((List (Int×(Int×Bool)))×(List (Int×Int)))
theorem acp(sz st:aek)(rs:List RuE)(g:aeg)(hs:XQ sz)(hg:g.length≤500)(h: ∀ t∈g,ME sz t.1 t.2.1=true):
  aN.fin ((0:Int),(g.length:Int),g,sz,st,rs)=true∧aN.res ((0:Int),(g.length:Int),g,sz,st,rs)=(1,((g.length:Int),(g.length:Int),g,sz,st,rs)):=by
 have kn:=aN.iter (fun i=>((i:Int),(g.length:Int),g,sz,st,rs)) 1 g.length (by omega) (fun i hi=> ?_) ?_
 ·exact kn
 ·have hw:IntKind.i64.wrap ((i:Int) + 1)=((i + 1:Nat):Int):=mO hi (by omega)
  have h3:ltI (i:Int) (g.length:Int)=true:=eV (by omega)
  have h4:leI 0 (i:Int)=true:=du (by omega)
  have h5:ltN i g.length=true:=lR hi
  have lV: ∀ d,z8 g[i]? d=g[i]:=fun d=>by rw [List.getElem?_eq_getElem hi];rfl
  have hh:=h _ (List.getElem_mem hi)
  simp only [gi,pA,pB,pC,pD,pE,pF,pG,oO,aN,jH,jI,LT.out,allT,hw,h3,h4,h5,lV,(fun x v=>(Jw hs x v).1),(fun x=>(Jw hs x 0).2),hh,q9,cond_true,cond_false,Bool.not_true]
 ·have h3:ltI (g.length:Int) (g.length:Int)=false:=qW (by omega)
  simp only [gi,pA,pB,pC,pD,pE,pF,pG,oO,aN,LT.out,h3,cond_false]
theorem abz(sz st:aek)(rs:List RuE)(g:aeg)(hs:XQ sz)(h:Rr sz g=true):
  fO sz st rs g=true∧fP sz st rs g=true:=by
 simp only [Rr,q8,sj,List.all_eq_true]at h
 obtain⟨w1,w2⟩:=acp sz st rs g hs (by omega) h.2
 have h1:leI (g.length:Int) 24=true:=du (by omega)
 simp only [ki,fO,fP,pp,pq,lT,qD,qE,w1,w2,h1,allT,show Nat.beq 1 0=false from rfl,cond_true,cond_false,show leI 0 (-1)=false from rfl,Bool.not_false,w8,and_self]
theorem ZR{sz:aek}: ∀ (es:aej) (p:Int),Pp sz es p=true→ ∀ (i:Nat) (hi:i < es.length),ME sz es[i].1 es[i].2=true∧((i=0→p < es[i].1)∧ ∀ j (hj:j < es.length),j + 1=i→es[j].1 < es[i].1)
 | [],_,_,i,hi=>by cases hi
 |e::r,p,h,i,hi=>by
  simp only [Pp,q8,Ip]at h
  cases i with
  |zero=>exact⟨h.1.1,fun _=>h.1.2,fun j _ hj=>by omega⟩
  |succ i=>
   obtain⟨h1,h2,h3⟩:=ZR r e.1 h.2 i (by simpa using hi)
   refine⟨h1,(fun h0=>by omega),fun j hj hji=> ?_⟩
   cases j with
   |zero=>
    have:i=0:=by omega
    exact h2 this
   |succ j=>exact h3 j (by simpa using hj) (by omega)
theorem abF(nm:ael)(sz st:aek)(rs:List RuE)(g:aeg)(es:aej)(hs:XQ sz)(he:es.length≤500)(h:Pp sz es (-1)=true):
  an.fin ((0:Int),(es.length:Int),es,nm,sz,st,rs,g)=true∧
  an.res ((0:Int),(es.length:Int),es,nm,sz,st,rs,g)=(1,((es.length:Int),(es.length:Int),es,nm,sz,st,rs,g)):=by
 have kn:=an.iter (fun i=>((i:Int),(es.length:Int),es,nm,sz,st,rs,g)) 1 es.length (by omega) (fun i hi=> ?_) ?_
 ·exact kn
 ·have hw:IntKind.i64.wrap ((i:Int) + 1)=((i + 1:Nat):Int):=mO hi (by omega)
  have h3:ltI (i:Int) (es.length:Int)=true:=eV (by omega)
  have h4:leI 0 (i:Int)=true:=du (by omega)
  have h5:ltN i es.length=true:=lR hi
  have lV: ∀ d,z8 es[i]? d=es[i]:=fun d=>by rw [List.getElem?_eq_getElem hi];rfl
  obtain⟨hh,_,h6⟩:=ZR es (-1) h i hi
  cases i with
  |zero=>
   have h0:ltI 0 ((0:Nat):Int)=false:=rfl
   simp only [bn,cT,cd,bo,fl,fm,fo,fq,ft,fu,fv,fw,fy,fA,fc,an,LT.out,allT,hw,h3,h4,h5,lV,(fun x v=>(Jw hs x v).1),(fun x=>(Jw hs x 0).2),hh,h0,q9,cond_true,cond_false,Bool.not_true,Bool.false_and,Bool.not_false,Bool.true_or]
  |succ j=>
   have h0:ltI 0 ((j + 1:Nat):Int)=true:=eV (by omega)
   have hw1:IntKind.i64.wrap (((j + 1:Nat):Int) - 1)=(j:Int):=by rw [aC (by omega) (by omega)];omega
   have g1:leI 0 (j:Int)=true:=du (by omega)
   have g2:ltI (j:Int) (es.length:Int)=true:=eV (by omega)
   have g3:ltN j es.length=true:=lR (by omega)
   have hget1: ∀ d,z8 es[j]? d=es[j]:=fun d=>by rw [List.getElem?_eq_getElem (by omega:j < es.length)];rfl
   have iM:=h6 j (by omega) rfl
   have g4:leI es[j + 1].1 es[j].1=false:=abe iM
   simp only [bn,cT,cd,bo,fl,fm,fo,fq,ft,fu,fv,fw,fy,fA,fc,an,LT.out,allT,hw,hw1,h3,h4,h5,lV,hget1,(fun x v=>(Jw hs x v).1),(fun x=>(Jw hs x 0).2),hh,h0,g1,g2,g3,g4,q9,cond_true,cond_false,Bool.not_true,Bool.not_false,Bool.and_self,w8,Bool.true_and]
 ·have h3:ltI (es.length:Int) (es.length:Int)=false:=qW (by omega)
  simp only [bn,cT,cd,bo,fl,fm,fo,fq,ft,fu,fv,fw,fy,fA,fc,an,LT.out,h3,cond_false]
theorem aan(sz st:aek)(rs:List RuE)(nm:ael)(g:aeg)(es:aej)(hs:XQ sz)(hn:1≤nm.size∧nm.size≤16)(hm:okN nm=true)(hg:Rr sz g=true)(he:Pp sz es (-1)=true)(hl:es.length≤4):
  gn nm sz st rs g es=true∧gp nm sz st rs g es=true:=by
 obtain⟨w1,w2⟩:=abF nm sz st rs g es hs (by omega) he
 obtain⟨n1,n2⟩:=Ya nm hn hm
 obtain⟨t1,t2⟩:=abz sz st rs g hs hg
 have h1:leI (es.length:Int) 4=true:=du (by omega)
 simp only [kB,fX,gn,gp,w1,w2,n1,n2,t1,t2,h1,allT,show Nat.beq 1 0=false from rfl,cond_true,cond_false,w8,and_self]
theorem adB(sz:aek)(hl:sz.length≤500)(h: ∀ y∈sz,1≤y∧y≤32):
  aG.fin ((0:Int),(sz.length:Int),sz)=true∧aG.res ((0:Int),(sz.length:Int),sz)=(1,((sz.length:Int),(sz.length:Int),sz)):=by
 have kn:=aG.iter (fun i=>((i:Int),(sz.length:Int),sz)) 1 sz.length (by omega) (fun i hi=> ?_) ?_
 ·exact kn
 ·have hw:IntKind.i64.wrap ((i:Int) + 1)=((i + 1:Nat):Int):=mO hi (by omega)
  have h3:ltI (i:Int) (sz.length:Int)=true:=eV (by omega)
  have h4:leI 0 (i:Int)=true:=du (by omega)
  have h5:ltN i sz.length=true:=lR hi
  have lV: ∀ d,z8 sz[i]? d=sz[i]:=fun d=>by rw [List.getElem?_eq_getElem hi];rfl
  have hh:inR sz[i] 1 32=true:=pa.2 (h _ (List.getElem_mem hi))
  simp only [nW,nX,nY,nZ,oa,oc,nH,aG,zy,aP,tu,LT.out,allT,hw,h3,h4,h5,lV,hh,q9,cond_true,cond_false,Bool.not_true]
 ·have h3:ltI (sz.length:Int) (sz.length:Int)=false:=qW (by omega)
  simp only [nW,nX,nY,nZ,oa,oc,nH,aG,LT.out,h3,cond_false]
theorem aco(sz st:aek)(rs:List RuE)(hs:XQ sz)(hl:st.length≤500)(h: ∀ (i:Nat) (hi:i < st.length),ME sz (i:Int) st[i]=true):
  ap.fin ((0:Int),(st.length:Int),st,sz,rs)=true∧ap.res ((0:Int),(st.length:Int),st,sz,rs)=(1,((st.length:Int),(st.length:Int),st,sz,rs)):=by
 have kn:=ap.iter (fun i=>((i:Int),(st.length:Int),st,sz,rs)) 1 st.length (by omega) (fun i hi=> ?_) ?_
 ·exact kn
 ·have hw:IntKind.i64.wrap ((i:Int) + 1)=((i + 1:Nat):Int):=mO hi (by omega)
  have h3:ltI (i:Int) (st.length:Int)=true:=eV (by omega)
  have h4:leI 0 (i:Int)=true:=du (by omega)
  have h5:ltN i st.length=true:=lR hi
  have lV: ∀ d,z8 st[i]? d=st[i]:=fun d=>by rw [List.getElem?_eq_getElem hi];rfl
  have hh:=h i hi
  simp only [jJ,jK,jL,jM,jN,jO,jP,jh,ap,LT.out,allT,hw,h3,h4,h5,lV,(fun x v=>(Jw hs x v).1),(fun x=>(Jw hs x 0).2),hh,q9,cond_true,cond_false,Bool.not_true]
 ·have h3:ltI (st.length:Int) (st.length:Int)=false:=qW (by omega)
  simp only [jJ,jK,jL,jM,jN,jO,jP,jh,ap,LT.out,h3,cond_false]
def abt(sz:aek)(r:RuE):Prop:=(1≤r.1.size∧r.1.size≤16)∧okN r.1=true∧Rr sz r.2.1=true∧Pp sz r.2.2 (-1)=true∧r.2.2.length≤4
theorem adx(sz st:aek)(rs:List RuE)(hs:XQ sz)(hl:rs.length≤500)(h: ∀ r∈rs,abt sz r):
  aM.fin ((0:Int),(rs.length:Int),rs,sz,st)=true∧aM.res ((0:Int),(rs.length:Int),rs,sz,st)=(1,((rs.length:Int),(rs.length:Int),rs,sz,st)):=by
 have kn:=aM.iter (fun i=>((i:Int),(rs.length:Int),rs,sz,st)) 1 rs.length (by omega) (fun i hi=> ?_) ?_
 ·exact kn
 ·have hw:IntKind.i64.wrap ((i:Int) + 1)=((i + 1:Nat):Int):=mO hi (by omega)
  have h3:ltI (i:Int) (rs.length:Int)=true:=eV (by omega)
  have h4:leI 0 (i:Int)=true:=du (by omega)
  have h5:ltN i rs.length=true:=lR hi
  have hk:gd (i:Int) rs=rs[i]:=by
   unfold gd
   rw [q9,List.getElem?_eq_getElem hi];rfl
  obtain⟨r1,r2,r3,r4,r5⟩:=h _ (List.getElem_mem hi)
  obtain⟨k1,k2⟩:=aan sz st rs rs[i].1 rs[i].2.1 rs[i].2.2 hs r1 r2 r3 r4 r5
  have g4:kT (i:Int) rs sz st=true:=by
   simp only [kT,ge,gf,gg,gh,hk,zB,k2,allT,cond_true]
  have g5:kU (i:Int) rs sz st=false:=by
   simp only [kU,ge,gf,gg,gh,hk,zA,k1,Bool.not_true]
  simp only [aM,oN,pv,pw,px,py,pz,g4,g5,LT.out,allT,hw,h3,h4,h5,q9,cond_true,cond_false]
 ·have h3:ltI (rs.length:Int) (rs.length:Int)=false:=qW (by omega)
  simp only [gd,ge,gf,gg,gh,pv,pw,px,py,kT,kU,pz,oN,aM,LT.out,h3,cond_false]
theorem YR(sz st:aek)(rs:List RuE)(hl:1≤sz.length∧sz.length≤16)(hz: ∀ y∈sz,1≤y∧y≤32)(WY:st.length=sz.length)(h: ∀ (i:Nat) (hi:i < st.length),ME sz (i:Int) st[i]=true)
  (hr:rs.length≤200) (hrs: ∀ r∈rs,abt sz r):rt sz st rs=true∧Ch sz st rs=true:=by
 have hs:XQ sz:=⟨by omega,fun y hy=>by have:=hz y hy;omega⟩
 obtain⟨a1,a2⟩:=adB sz (by omega) hz
 obtain⟨b1,b2⟩:=aco sz st rs hs (by omega) h
 obtain⟨c1,c2⟩:=adx sz st rs hs (by omega) hrs
 have hln:ax sz=(sz.length:Int):=GG sz (by omega)
 have g1:inR (sz.length:Int) 1 16=true:=pa.2 (by omega)
 have g2:((st.length:Int)!=(sz.length:Int))=false:=by simp [WY]
 have g3:leI (rs.length:Int) 200=true:=du (by omega)
 simp only [AA,HL,rt,Ch,fR,nU,kV,pT,pU,ko,kq,kC,kD,pn,po,lS,qB,qC,
  aP,tu,hln,g1,g2,g3,a1,a2,b1,b2,c1,c2,allT,show Nat.beq 1 0=false from rfl,cond_true,cond_false,show leI 0 (-1)=false from rfl,Bool.not_false,Bool.not_true,w8,Bool.true_or,Bool.and_self,Bool.false_or,and_self]
theorem Hm(n d:Int)(ps:aek):(stM n d ps).length=ps.length + n.toNat + 1:=by simp [stM,stV] <;> omega
theorem Zi(n d:Int)(s:Bool)(ps:aek)(h:isR n d ps=true):
  rt (szM ps.length n d.toNat) (stM n d ps) ((kL ps.length n.toNat d.toNat s).map (ruK ps.length n))=true∧Ch (szM ps.length n d.toNat) (stM n d ps) ((kL ps.length n.toNat d.toNat s).map (ruK ps.length n))=true:=by
 obtain⟨hT,hd⟩:=Hj.1 h
 obtain⟨h1,h2,h3⟩:=gt.1 hT
 have hk:=IF (s:=s) h
 refine YR _ _ _ (by rw [Me];omega) (fun y hy=> ?_) (by rw [Me,Hm]) (fun i hi=> ?_) (by rw [List.length_map];omega) (fun r hr=> ?_)
 ·simp only [szM,stV,List.mem_append,List.mem_replicate,List.mem_singleton]at hy
  rcases hy with⟨_,rfl⟩ | ⟨_,rfl⟩ | rfl <;> omega
 ·rw [Hm]at hi
  by_cases c1:i < ps.length
  ·have e:(stM n d ps)[i]'(by rw [Hm];omega)=ps[i]:=by
    simp only [stM,stV];rw [List.getElem_append_left c1]
   rw [e]
   have:=h3 _ (List.getElem_mem c1)
   exact RZ (by omega) (by omega)
  ·by_cases c2:i < ps.length + n.toNat
   ·obtain⟨j,rfl⟩: ∃ j,i=ps.length + j:=⟨i - ps.length,by omega⟩
    have e:(stM n d ps)[ps.length + j]'(by rw [Hm];omega)=0:=by
     have:=Jd (s:=(ps,j7 n.toNat (0:Int))) (k:=d) (i:=j) (by simp;omega)
     simp only [stM]
     rw [← Option.some_inj,← List.getElem?_eq_getElem]
     have iM:ps.length + j < (stV (ps,j7 n.toNat (0:Int)) d).length:=by simp [stV];omega
     rw [List.getElem?_eq_getElem iM]at this ⊢
     have hj:(j7 n.toNat (0:Int))[j]?.getD 0=0:=by cases hq:(j7 n.toNat (0:Int))[j]? with
      |none=>rfl
      |some y=>have:=List.mem_of_getElem? hq;simp [List.mem_replicate]at this;simp [this.2]
     rw [hj]at this
     simpa using this
    rw [e,show ((ps.length + j:Nat):Int)=(ps.length:Int) + (j:Int) by omega]
    exact Qm (by omega) (by omega)
   ·have hi2:i=ps.length + n.toNat:=by omega
    subst hi2
    have e:(stM n d ps)[ps.length + n.toNat]'(by rw [Hm];omega)=d:=by
     have:=Hf (s:=(ps,j7 n.toNat (0:Int))) (k:=d)
     simp only [w9]at this
     simp only [stM]
     have iM:ps.length + n.toNat < (stV (ps,j7 n.toNat (0:Int)) d).length:=by simp [stV]
     rw [List.getElem?_eq_getElem iM]at this
     simpa using this
    rw [e,show ((ps.length + n.toNat:Nat):Int)=(ps.length:Int) + n by omega]
    exact Uk (by omega) (by omega)
 ·obtain⟨x,hx,rfl⟩:=List.mem_map.1 hr
  have hxk:=UA hx
  obtain⟨r1,r2,r3⟩:=WQ (n:=n) (by omega:ps.length≤4) h1.1 hxk
  have hb:(0≤x.1∧x.1≤6)∧(0≤x.2.1∧x.2.1 < 10)∧(0≤x.2.2∧x.2.2 < 10):=by
   rcases hxk with⟨g1,g2,g3⟩ | ⟨g1,g2,g3⟩ <;> omega
  obtain⟨n1,n2,n3⟩:=ab1 hb.1 hb.2.1 hb.2.2
  exact⟨⟨n2,n3⟩,n1,r1,r2,r3⟩
def inT(m:Nat)(g:aeg):Prop:= ∀ t∈g,0≤t.1∧t.1 < m
def inA(m:Nat)(g:aej):Prop:= ∀ t∈g,0≤t.1∧t.1 < m
def fHo(v:aek)(t:Int×Int×Bool)(_:Unit):Nat ⊕ Unit:=bif !((v[t.1.toNat]?.getD 0==t.2.1)==t.2.2)then .inl 0 else .inr ()
theorem acn(g:aeg)(v:aek)(hg:g.length≤500)(h:inT v.length g):
  ar.fin ((0:Int),(g.length:Int),g,v)=true∧
  ar.res ((0:Int),(g.length:Int),g,v)=((eE (fHo v) 1 g 0 ()).1,(((eE (fHo v) 1 g 0 ()).2.1:Int),(g.length:Int),g,v)):=by
 have kn:=ar.along (fun i (_:Unit)=>((i:Int),(g.length:Int),g,v)) (fun _=>()) (fHo v) 1 (fun _ _=>True) g () trivial (by simp [ar] <;> omega) (fun i b a hb _=> ?_) (fun a _=> ?_)
 ·exact kn
 ·have hi:=(z1.1 hb).1
  have hw:=mO hi (by omega)
  have h3:ltI (i:Int) (g.length:Int)=true:=eV (by omega)
  have h4:leI 0 (i:Int)=true:=du (by omega)
  have h5:ltN i g.length=true:=lR hi
  have lV: ∀ d,z8 g[i]? d=b:=fun d=>by rw [hb];rfl
  have hv:=h b (List.mem_of_getElem? hb)
  have g1:leI 0 b.1=true:=du hv.1
  have g2:ltI b.1 (v.length:Int)=true:=eV hv.2
  have g3:ltN b.1.toNat v.length=true:=lR (by omega)
  refine⟨?_,?_,?_,fun _ _=>trivial⟩
  ·cases hq:(z8 v[b.1.toNat]? 0==b.2.1)==b.2.2 <;> simp only [cf,gy,gz,gA,gB,gC,gD,gE,gc,ar,wX,wY,LT.nds,allT,hw,h3,h4,h5,lV,g1,g2,g3,hq,q9,cond_true,cond_false,Bool.not_true,Bool.not_false]
  ·simp only [cf,gy,gz,gA,gB,gC,gD,gE,gc,ar,LT.each,hw,true_and,and_true]
  ·simp only [cf,gy,gz,gA,gB,gC,gD,gE,gc,ar,wX,wY,LT.fn,h3,lV,fHo,q9,cond_true]
 ·have h3:ltI (g.length:Int) (g.length:Int)=false:=qW (by omega)
  simp only [cf,gy,gz,gA,gB,gC,gD,gE,gc,ar,LT.out,h3,cond_false]
theorem abS(v:aek)(g:aeg):(g.any fun t=> !((v[t.1.toNat]?.getD 0==t.2.1)==t.2.2))= !hoB v g:=by
 induction g with
 |nil=>rfl
 |cons t g ih=>rw [List.any_cons,ih];simp only [hoB,List.all_cons];cases ((v[t.1.toNat]?.getD 0==t.2.1)==t.2.2) <;> simp
theorem aa9(v:aek)(g:aeg)(hg:g.length≤500)(h:inT v.length g):Ij v g=hoB v g∧Ik v g=true:=by
 obtain⟨w1,w2⟩:=acn g v hg h
 have WY:=Iv (f:=fHo v) (P:=fun t=> !((v[t.1.toNat]?.getD 0==t.2.1)==t.2.2)) (e:=1) (j:=0) (a:=()) (fun b=>rfl) (r:=g) (i:=0)
 rw [abS]at WY
 simp only [Ij,Ik,pt,pu,lU,qF,qG,w1,w2,WY,allT,cond_true,and_true]
 cases hoB v g with
 |true=>simp only [Bool.not_true,cond_false,show Nat.beq 1 0=false from rfl,show leI 0 (-1)=false from rfl,Bool.not_false]
 |false=>
  simp only [Bool.not_false,cond_true,show Nat.beq 0 0=true from rfl]
  rw [du (by omega)];rfl
theorem QO: ∀ (es:aej) (v:aek),(apE v es).length=v.length
 | [],_=>rfl
 |e::es,v=>by
  simp only [apE,List.foldl_cons]
  have:=QO es (v.set e.1.toNat e.2)
  simp only [apE]at this
  rw [this,List.length_set]
theorem Xd{es:aej}{i:Nat}(hi:i < es.length)(v:aek):apE v (es.take (i + 1))=(apE v (es.take i)).set es[i].1.toNat es[i].2:=by
 rw [List.take_add_one,List.getElem?_eq_getElem hi]
 simp only [apE,List.foldl_append]
 rfl
theorem aaJ(es:aej)(v:aek)(he:es.length≤500)(hv:1≤v.length∧v.length≤500)(h:inA v.length es):
  kM es v=apE v es∧kN es v=true:=by
 have kn:=bF.iter (fun i=>((i:Int),(es.length:Int),es,apE v (es.take i))) 0 es.length (by omega) (fun i hi=> ?_) ?_
 ·simp only [show ((0:Nat):Int)=0 from rfl,List.take_zero,List.take_length,show apE v []=v from rfl]at kn
  have g1:leN 1 v.length=true:=qf hv.1
  have g2:leN v.length 1048576=true:=qf (by omega)
  simp only [oD,kM,kN,kn.1,kn.2,g1,g2,allT,Bool.and_self,cond_true,and_self]
 ·have hw:IntKind.i64.wrap ((i:Int) + 1)=((i + 1:Nat):Int):=mO hi (by omega)
  have h3:ltI (i:Int) (es.length:Int)=true:=eV (by omega)
  have h4:leI 0 (i:Int)=true:=du (by omega)
  have h5:ltN i es.length=true:=lR hi
  have lV: ∀ d,z8 es[i]? d=es[i]:=fun d=>by rw [List.getElem?_eq_getElem hi];rfl
  have hv2:=h _ (List.getElem_mem hi)
  have hl:=QO (es.take i) v
  have g1:leI 0 es[i].1=true:=du hv2.1
  have g2:ltI es[i].1 (v.length:Int)=true:=eV hv2.2
  have g3:ltN es[i].1.toNat v.length=true:=lR (by omega)
  simp only [cq,mX,mY,mZ,na,nb,nc,ne,nf,ng,mw,bF,LT.out,allT,hw,h3,h4,h5,lV,hl,g1,g2,g3,Xd hi,q9,cond_true]
 ·have h3:ltI (es.length:Int) (es.length:Int)=false:=qW (by omega)
  simp only [cq,mX,mY,mZ,na,nb,nc,ne,nf,ng,mw,bF,LT.out,h3,cond_false]
theorem adg(tr sz st:aek)(rs:List RuE)(ht:tr.length≤500)(hr:rs.length≤500)(h:inK rs.length tr=true):
  aH.fin ((0:Int),(tr.length:Int),tr,sz,st,rs)=true∧aH.res ((0:Int),(tr.length:Int),tr,sz,st,rs)=(1,((tr.length:Int),(tr.length:Int),tr,sz,st,rs)):=by
 have kn:=aH.iter (fun i=>((i:Int),(tr.length:Int),tr,sz,st,rs)) 1 tr.length (by omega) (fun i hi=> ?_) ?_
 ·exact kn
 ·have hw:IntKind.i64.wrap ((i:Int) + 1)=((i + 1:Nat):Int):=mO hi (by omega)
  have h3:ltI (i:Int) (tr.length:Int)=true:=eV (by omega)
  have h4:leI 0 (i:Int)=true:=du (by omega)
  have h5:ltN i tr.length=true:=lR hi
  have lV: ∀ d,z8 tr[i]? d=tr[i]:=fun d=>by rw [List.getElem?_eq_getElem hi];rfl
  have hh:inR tr[i] 0 ((rs.length:Int) - 1)=true:=List.all_eq_true.1 h _ (List.getElem_mem hi)
  have hw1:IntKind.i64.wrap ((rs.length:Int) - 1)=(rs.length:Int) - 1:=aC (by omega) (by omega)
  have hln:qe rs=(rs.length:Int):=by simp [qe]
  simp only [od,oe,og,oh,oi,oj,nI,aH,uZ,aP,tu,LT.out,allT,hw,hw1,hln,h3,h4,h5,lV,hh,q9,cond_true,cond_false,Bool.not_true]
 ·have h3:ltI (tr.length:Int) (tr.length:Int)=false:=qW (by omega)
  simp only [od,oe,og,oh,oi,oj,nI,aH,LT.out,h3,cond_false]
def cuS(a:aei):aek:=a[a.length - 1]?.getD []
theorem ZB(a:aei)(v:aek):cuS (a++ [v])=v:=by simp [cuS]
def fFt(T:Nat)(n:Int)(L:aeh)(b:Int)(a:aei):Nat ⊕ aei:=bif hoB (cuS a) (gK T n (atK L b))then .inr (a++ [apE (cuS a) (eK T n (atK L b))])else .inl 0
theorem Yj(T:Nat)(n:Int)(L:aeh): ∀ (tr:aek) (i:Nat) (a:aei),
  (Vq T n (tr.map (atK L)) (cuS a)=true→(eE (fFt T n L) 1 tr i a).1=1∧(eE (fFt T n L) 1 tr i a).2.2.length=a.length + tr.length∧cuS (eE (fFt T n L) 1 tr i a).2.2=Wf T n (tr.map (atK L)) (cuS a))∧
  (Vq T n (tr.map (atK L)) (cuS a)=false→(eE (fFt T n L) 1 tr i a).1=0)
 | [],i,a=>⟨fun _=>⟨rfl,by simp [eE],rfl⟩,fun h=>by cases h⟩
 |b::tr,i,a=>by
  have ih:=Yj T n L tr (i + 1) (a++ [apE (cuS a) (eK T n (atK L b))])
  rw [ZB]at ih
  simp only [List.map_cons,Vq,Wf,List.foldl_cons]
  cases hb:hoB (cuS a) (gK T n (atK L b))with
  |true=>
   simp only [eE,fFt,hb,cond_true,Bool.true_and]
   refine⟨fun h=> ?_,fun h=>ih.2 h⟩
   obtain⟨i1,i2,i3⟩:=ih.1 h
   refine⟨i1,?_,i3⟩
   rw [i2,w5,w6,w6,w7];omega
  |false=>
   simp only [eE,fFt,hb,cond_false,Bool.false_and]
   exact⟨(fun h=>by cases h),fun _=>trivial⟩
theorem abo{sz:aek}{g:aeg}(h:Rr sz g=true):inT sz.length g∧g.length≤24:=by
 simp only [Rr,q8,sj,List.all_eq_true]at h
 exact⟨fun t ht=>(NH.1 (h.2 t ht)).1,h.1⟩
theorem YW{sz:aek}: ∀ {es:aej} {p:Int},Pp sz es p=true→inA sz.length es
 | [],_,_=>fun t ht=>by cases ht
 |e::es,p,h=>fun t ht=>by
  simp only [Pp,q8]at h
  rcases List.mem_cons.1 ht with rfl | ht
  ·exact(NH.1 h.1.1).1
  ·exact YW h.2 t ht
theorem abG(T d:Nat)(n:Int)(L:aeh)(sz st tr:aek)(hT:T≤4)(hn:2≤n∧n≤8)(hL:L.length≤500)(hk: ∀ x∈L,kOk T n.toNat d x)(ht:tr.length≤500)(uL:inK L.length tr=true)
  (WY:st.length=T + n.toNat + 1):
  bA.fin ((0:Int),(tr.length:Int),tr,[st],sz,st,L.map (ruK T n))=true∧
  bA.res ((0:Int),(tr.length:Int),tr,[st],sz,st,L.map (ruK T n))=((eE (fFt T n L) 1 tr 0 [st]).1,(((eE (fFt T n L) 1 tr 0 [st]).2.1:Int),(tr.length:Int),tr,(eE (fFt T n L) 1 tr 0 [st]).2.2,sz,st,L.map (ruK T n))):=by
 have kn:=bA.along (fun i a=>((i:Int),(tr.length:Int),tr,a,sz,st,L.map (ruK T n))) (fun x=>x.2.2.2.1) (fFt T n L) 1 (fun i a=>a.length=i + 1∧(cuS a).length=T + n.toNat + 1) tr [st] ⟨rfl,WY⟩ (by simp [bA] <;> omega) (fun i b a hb hI=> ?_) (fun a _=> ?_)
 ·exact kn
 ·obtain⟨hI1,hI2⟩:=hI
  have hi:=(z1.1 hb).1
  have hw:=mO hi (by omega)
  have h3:ltI (i:Int) (tr.length:Int)=true:=eV (by omega)
  have h4:leI 0 (i:Int)=true:=du (by omega)
  have h5:ltN i tr.length=true:=lR hi
  have hb2:=pa.1 (List.all_eq_true.1 uL _ (List.mem_of_getElem? hb))
  have MF:b.toNat < L.length:=by omega
  have e0:mi (i:Int) tr=b:=by
   simp only [mi,q9];rw [hb];rfl
  have e1:mj (i:Int) a=cuS a:=by
   simp only [mj,q9,cuS,hI1,Nat.add_sub_cancel]
   rw [List.getElem?_eq_getElem (by omega:i < a.length)];rfl
  have hx:atK L b=L[b.toNat]:=by simp [atK,List.getElem?_eq_getElem MF]
  have e2:rp (i:Int) tr (L.map (ruK T n))=(gK T n (atK L b),eK T n (atK L b)):=by
   unfold rp
   rw [e0,List.getElem?_map,List.getElem?_eq_getElem MF,hx];rfl
  have e3:rq (i:Int) tr (L.map (ruK T n))=gK T n (atK L b):=by rw [rq,e2]
  have e4:rr (i:Int) tr (L.map (ruK T n))=eK T n (atK L b):=by rw [rr,e2]
  obtain⟨r1,r2,r3⟩:=WQ hT hn.1 (hk _ (hx ▸ List.getElem_mem MF:atK L b∈L))
  obtain⟨t1,t2⟩:=abo r1
  have t3:=YW r2
  rw [Me]at t1 t3
  obtain⟨k1,k2⟩:=aa9 (cuS a) (gK T n (atK L b)) (by omega) (by rw [hI2];exact t1)
  obtain⟨k3,k4⟩:=aaJ (eK T n (atK L b)) (cuS a) (by omega) (by omega) (by rw [hI2];exact t3)
  have h6:ltI (i:Int) (a.length:Int)=true:=eV (by omega)
  have h7:ltN i a.length=true:=lR (by omega)
  have g1:leI 0 b=true:=du hb2.1
  have g2:ltI b (L.length:Int)=true:=eV (by omega)
  have g3:ltN b.toNat L.length=true:=lR MF
  have l1:=xK (b:=1) (show a.length≤600 by omega) (by decide) (by decide)
  have l2:=IG (b:=1) (show a.length≤600 by omega) (by decide) (by decide)
  have hN: ∀ q,hoB (cuS a) (gK T n (atK L b))=q→((bA.lt ((i:Int),(tr.length:Int),tr,a,sz,st,L.map (ruK T n))).nds=true∧(bA.lt ((i:Int),(tr.length:Int),tr,a,sz,st,L.map (ruK T n))).fn (fun x=>x.2.2.2.1)=fFt T n L b a):=by
   intro q hq
   cases q <;> exact⟨by simp only [bA,ry,vX,sv,Bc,Bd,vY,vZ,wa,wb,wc,Be,uy,zr,zt,zu,oZ,e0,e1,e3,e4,LT.nds,allT,h3,h4,h5,h6,h7,g1,g2,g3,k1,k2,k3,k4,hq,l1,l2,List.length_map,w6,w7,Nat.zero_add,q9,cond_true,cond_false,Bool.not_true,Bool.not_false],
    by simp only [bA,ry,vX,uy,zx,oZ,e1,e3,e4,LT.fn,h3,k1,k3,hq,fFt,cond_true,cond_false,Bool.not_true,Bool.not_false]⟩
  refine⟨(hN _ rfl).1,?_,(hN _ rfl).2,fun a' ha=> ?_⟩
  ·simp only [bA,ry,zw,LT.each,hw,true_and,and_true]
  ·cases hq:hoB (cuS a) (gK T n (atK L b))with
   |false=>simp only [fFt,hq,cond_false]at ha;cases ha
   |true=>
    simp only [fFt,hq,cond_true,Sum.inr.injEq]at ha
    subst ha
    exact⟨by simp [hI1],by rw [ZB,QO];exact hI2⟩
 ·have h3:ltI (tr.length:Int) (tr.length:Int)=false:=qW (by omega)
  simp only [mi,mj,rp,rq,rr,oZ,vX,sv,Bc,Bd,vY,vZ,wa,wb,wc,Be,uy,zr,zt,zu,zw,zx,ry,bA,LT.out,h3,cond_false]
theorem aai(n d:Int)(s:Bool)(ps tr:aek)(h:isR n d ps=true)(ht:tr.length≤200)(uL:inK (kL ps.length n.toNat d.toNat s).length tr=true):
  zq (szM ps.length n d.toNat) (stM n d ps) ((kL ps.length n.toNat d.toNat s).map (ruK ps.length n)) tr=true∧
  (Vq ps.length n (tr.map (atK (kL ps.length n.toNat d.toNat s))) (stM n d ps)=true→qw (szM ps.length n d.toNat) (stM n d ps) ((kL ps.length n.toNat d.toNat s).map (ruK ps.length n)) tr=0∧
   (mh (szM ps.length n d.toNat) (stM n d ps) ((kL ps.length n.toNat d.toNat s).map (ruK ps.length n)) tr).length=tr.length + 1∧
   cuS (mh (szM ps.length n d.toNat) (stM n d ps) ((kL ps.length n.toNat d.toNat s).map (ruK ps.length n)) tr)=Wf ps.length n (tr.map (atK (kL ps.length n.toNat d.toNat s))) (stM n d ps))∧
  (Vq ps.length n (tr.map (atK (kL ps.length n.toNat d.toNat s))) (stM n d ps)=false→qw (szM ps.length n d.toNat) (stM n d ps) ((kL ps.length n.toNat d.toNat s).map (ruK ps.length n)) tr=5∧
   mh (szM ps.length n d.toNat) (stM n d ps) ((kL ps.length n.toNat d.toNat s).map (ruK ps.length n)) tr= []):=by
 obtain⟨hT,hd⟩:=Hj.1 h
 obtain⟨h1,h2,h3⟩:=gt.1 hT
 have hk:=IF (s:=s) h
 obtain⟨v1,v2⟩:=Zi n d s ps h
 obtain⟨w1,w2⟩:=abG ps.length d.toNat n (kL ps.length n.toNat d.toNat s) (szM ps.length n d.toNat) (stM n d ps) tr (by omega) h1 (by omega) (fun x hx=>UA hx) (by omega) uL (Hm n d ps)
 obtain⟨u1,u2⟩:=adg tr (szM ps.length n d.toNat) (stM n d ps) ((kL ps.length n.toNat d.toNat s).map (ruK ps.length n)) (by omega) (by rw [List.length_map];omega) (by rw [List.length_map];exact uL)
 obtain⟨f1,f2⟩:=Yj ps.length n (kL ps.length n.toNat d.toNat s) tr 0 [stM n d ps]
 have hc:cuS [stM n d ps]=stM n d ps:=rfl
 rw [hc]at f1 f2
 have g1:ltI 4000 (tr.length:Int)=false:=qW (by omega)
 have g2:leN 1 (stM n d ps).length=true:=qf (by rw [Hm];omega)
 have g3:leN (stM n d ps).length 1048576=true:=qf (by rw [Hm];omega)
 simp only [yc,Dm,qw,mh,zq,dy,nV,kW,pV,pW,v1,v2,w1,w2,u1,u2,g1,g2,g3,allT,show Nat.beq 1 0=false from rfl,show leI 0 (-1)=false from rfl,cond_true,cond_false,Bool.not_true,Bool.false_or,Bool.and_self,true_and]
 refine⟨fun ho=> ?_,fun ho=> ?_⟩
 ·obtain⟨i1,i2,i3⟩:=f1 ho
  rw [i1]
  simp only [show Nat.beq 1 0=false from rfl,cond_false]
  refine⟨trivial,?_,i3⟩
  rw [i2,w6,w7];omega
 ·rw [f2 ho];constructor <;> first | trivial | rfl
theorem adr(n:Int)(ps v:aek)(hn:2≤n∧n≤8)(hp:ps.length≤4)(hv:v.length≤500)
  (h: ∀ (i:Nat) (hi:i < v.length),0≤v[i]∧v[i]≤(bif ltI (i:Int) (ps.length:Int)then 3 * n - 1 else bif(i:Int)==(ps.length:Int) + n then 2 else 3)):
  aq.fin ((0:Int),(v.length:Int),(ps.length:Int),v,n,ps)=true∧
  aq.res ((0:Int),(v.length:Int),(ps.length:Int),v,n,ps)=(1,((v.length:Int),(v.length:Int),(ps.length:Int),v,n,ps)):=by
 have kn:=aq.iter (fun i=>((i:Int),(v.length:Int),(ps.length:Int),v,n,ps)) 1 v.length (by omega) (fun i hi=> ?_) ?_
 ·exact kn
 ·have hw:IntKind.i64.wrap ((i:Int) + 1)=((i + 1:Nat):Int):=mO hi (by omega)
  have h3:ltI (i:Int) (v.length:Int)=true:=eV (by omega)
  have h4:leI 0 (i:Int)=true:=du (by omega)
  have h5:ltN i v.length=true:=lR hi
  have lV: ∀ d,z8 v[i]? d=v[i]:=fun d=>by rw [List.getElem?_eq_getElem hi];rfl
  have q1:IntKind.i64.wrap (3 * n)=3 * n:=aC (by omega) (by omega)
  have q2:IntKind.i64.wrap (3 * n - 1)=3 * n - 1:=aC (by omega) (by omega)
  have q3:IntKind.i64.wrap ((ps.length:Int) + n)=(ps.length:Int) + n:=aC (by omega) (by omega)
  have hh:=pa.2 (h i hi)
  simp only [jQ,jR,jS,jT,jU,jV,ji,aq,aP,tu,LT.out,allT,hw,h3,h4,h5,lV,q1,q2,q3,hh,q9,cond_true,cond_false,Bool.not_true]
 ·have h3:ltI (v.length:Int) (v.length:Int)=false:=qW (by omega)
  simp only [jQ,jR,jS,jT,jU,jV,ji,aq,LT.out,h3,cond_false]
theorem ZW(s:aek×aek)(k:Int):(stV s k).length=s.1.length + s.2.length + 1:=by simp [stV];omega
theorem Zu(n d k:Int)(ps:aek)(s:aek×aek)(hT:isT n ps=true)(hd:0≤d∧d≤2)(hi:WD n ps.length d.toNat s k):
  CH n ps (stV s k)=n∧CI n ps (stV s k)=0∧CJ n ps (stV s k)=s.1∧CL n ps (stV s k)=true:=by
 obtain⟨g1,g2,g3,g4,g5⟩:=hi
 obtain⟨h1,h2,h3⟩:=gt.1 hT
 obtain⟨_,_,p3⟩:=gt.1 g1
 have hvl:=ZW s k
 obtain⟨w1,w2⟩:=adr n ps (stV s k) h1 (by omega) (by omega) (fun i hi=>by
  have e: ∀ x,(stV s k)[i]?.getD 0=x→(stV s k)[i]=x:=fun x hx=>by rw [List.getElem?_eq_getElem hi]at hx;exact hx
  by_cases c1:i < s.1.length
  ·have:=e _ (On (k:=k) c1)
   rw [List.getElem?_eq_getElem c1]at this
   rw [this,eV (by omega)]
   have:=p3 _ (List.getElem_mem c1)
   simp only [cond_true,Option.getD_some];omega
  ·by_cases c2:i < s.1.length + s.2.length
   ·obtain⟨j,rfl⟩: ∃ j,i=s.1.length + j:=⟨i - s.1.length,by omega⟩
    have hj:j < s.2.length:=by omega
    have:=e _ (Jd (k:=k) hj)
    rw [List.getElem?_eq_getElem hj]at this
    rw [this,qW (by omega),show (((s.1.length + j:Nat):Int)==(ps.length:Int) + n)=false by simp;omega]
    have:=g4 _ (List.getElem_mem hj)
    simp only [cond_false,Option.getD_some];omega
   ·have hi2:i=s.1.length + s.2.length:=by omega
    subst hi2
    have:=e _ (Hf (s:=s) (k:=k))
    rw [this,qW (by omega),show (((s.1.length + s.2.length:Nat):Int)==(ps.length:Int) + n)=true by simp;omega]
    simp only [cond_false,cond_true];omega)
 have hln1:ax (stV s k)=((stV s k).length:Int):=GG _ (by omega)
 have hln2:ax ps=(ps.length:Int):=GG _ (by omega)
 have q1:IntKind.i64.wrap ((ps.length:Int) + n)=(ps.length:Int) + n:=aC (by omega) (by omega)
 have q2:IntKind.i64.wrap ((ps.length:Int) + n + 1)=(ps.length:Int) + n + 1:=aC (by omega) (by omega)
 have q3:(((stV s k).length:Int)!=(ps.length:Int) + n + 1)=false:=by
  have:((stV s k).length:Int)=(ps.length:Int) + n + 1:=by omega
  simp [this]
 have r1:leI 0 (ps.length:Int)=true:=du (by omega)
 have r2:leI (ps.length:Int) ((stV s k).length:Int)=true:=du (by omega)
 have r3:List.drop 0 (List.take ps.length (stV s k))=s.1:=by
  rw [List.drop_zero,← g2];simp [stV]
 have r4:leN 1 s.1.length=true:=qf (by omega)
 have r5:leN s.1.length 1048576=true:=qf (by omega)
 simp only [wW,CH,CI,CJ,CL,xa,Ck,kr,kt,kE,kF,gq,lD,lE,hT,hln1,hln2,q1,q2,q3,w1,w2,r1,r2,r3,r4,r5,allT,show Nat.beq 1 0=false from rfl,
  show ((0:Int)!=0)=false from rfl,show z6 0=0 from rfl,q9,cond_true,cond_false,Bool.not_true,Bool.not_false,Bool.false_or,Bool.true_or,w8,Bool.and_self,and_self]
theorem aap(xs:aeh)(hl:xs.length≤500):zC xs xs=true∧zD xs xs=true:=by
 have kn:=iy.iter (fun i=>((i:Int),xs,xs)) 1 xs.length (by omega) (fun i hi=> ?_) ?_
 ·simp only [show ((0:Nat):Int)=0 from rfl]at kn
  simp only [Ds,Dt,zC,zD,kn.1,kn.2,bne_self_eq_false,allT,show Nat.beq 1 0=false from rfl,cond_true,cond_false,Bool.false_or,and_self]
 ·have hw:IntKind.i64.wrap ((i:Int) + 1)=((i + 1:Nat):Int):=mO hi (by omega)
  have h3:ltI (i:Int) (xs.length:Int)=true:=eV (by omega)
  have h4:leI 0 (i:Int)=true:=du (by omega)
  have h5:ltN i xs.length=true:=lR hi
  simp only [rv,rx,we,wg,Bf,Bg,Bh,Bi,Bj,zG,iy,LT.out,allT,hw,h3,h4,h5,beq_self_eq_true,q9,cond_true,cond_false,Bool.not_true]
 ·have h3:ltI (xs.length:Int) (xs.length:Int)=false:=qW (by omega)
  simp only [rv,rx,we,wg,Bf,Bg,Bh,Bi,Bj,zG,iy,LT.out,h3,cond_false]
section
variable (a b:Int)(c:aek)
def cv:Bool:=nxV 16 a b c==0
def mM:Int:=j6 .i64 ((2:Int) + nxV 2 (nxA 16 a c) (nxS 16 a b c) c)
def sd:Int:=nxA 2 (nxA 16 a c) c
def mN:Int:=nxA 3 (nxA (mM a b c) (sd a c) c) c
def Eh:Int:=nxS 2 (nxA 16 a c) (nxS 16 a b c) c
def Ei:Int:=nxS (mM a b c) (sd a c) (Eh a b c) c
def Ej:Int:=nxS 3 (nxA (mM a b c) (sd a c) c) (Ei a b c) c
def fj:Bool:=ltI 0 (nxV 3 (mN a b c) (Ej a b c) c)
def AK:Int:=Cy (nxA 16 a c) (nxS 16 a b c) c
def Ek:Int:=Cz (nxA 16 a c) (nxS 16 a b c) c
def ra:Int:=nxA 2 (nxA 3 (mN a b c) c) c
def uI:Int:=nxS 3 (mN a b c) (Ej a b c) c
def CY:Int:=nxS 2 (nxA 3 (mN a b c) c) (uI a b c) c
def CZ:Int:=nxS 2 (ra a b c) (CY a b c) c
def yP:Int:=pkA (nxA 2 (ra a b c) c) [(0:Int),(1:Int),(1:Int),(2:Int)] c
def Da:Int:=pkS (nxA 2 (ra a b c) c) (CZ a b c) [(0:Int),(1:Int),(1:Int),(2:Int)] c
def yQ:Int:=pkA (nxA 3 (mN a b c) c) [(0:Int),(1:Int),(1:Int),(2:Int)] c
def Db:Int:=pkS (nxA 3 (mN a b c) c) (uI a b c) [(0:Int),(1:Int),(1:Int),(2:Int)] c
def GS:Int:=nxV (mM a b c) (sd a c) (Eh a b c) c
def uJ:aek:= [j6 .i64 (j6 .i64 ((3:Int) * GS a b c) + nxV 3 (nxA (mM a b c) (sd a c) c) (Ei a b c) c)]
def yR:aek:= [j6 .i64 (j6 .i64 ((3:Int) * Int.tmod (j6 .i64 (j6 .i64 (GS a b c + (1:Int)) + nxV 2 (nxA 3 (mN a b c) c) (uI a b c) c)) (mM a b c)) + nxV 2 (ra a b c) (CY a b c) c)]
def GU:Bool:=fY (nxA 16 a c) (nxS 16 a b c) c
def GW:Bool:=fY (nxA 3 (mN a b c) c) (uI a b c) c
def gj:Int:=bif cv a b c then IY (nxA 16 a c) (nxS 16 a b c) c else bif fj a b c then mM a b c else mM a b c
def ir:Int:=bif cv a b c then pkV (AK a b c) (Ek a b c) [(0:Int),(1:Int),(-1:Int),(3:Int)] c else bif fj a b c then pkV (nxA 2 (ra a b c) c) (CZ a b c) [(0:Int),(1:Int),(1:Int),(2:Int)] c else pkV (nxA 3 (mN a b c) c) (uI a b c) [(0:Int),(1:Int),(1:Int),(2:Int)] c
def qo:Bool:=bif cv a b c then false else bif fj a b c then nxV 2 (yP a b c) (Da a b c) c==0 else nxV 2 (yQ a b c) (Db a b c) c==0
def iu:Int:=bif cv a b c then pkA (AK a b c) [(0:Int),(1:Int),(-1:Int),(3:Int)] c else bif fj a b c then nxA 2 (yP a b c) c else nxA 2 (yQ a b c) c
def lP:Int:=bif cv a b c then pkS (AK a b c) (Ek a b c) [(0:Int),(1:Int),(-1:Int),(3:Int)] c else bif fj a b c then nxS 2 (yP a b c) (Da a b c) c else nxS 2 (yQ a b c) (Db a b c) c
def eX:aek:=bif cv a b c then CA (nxA 16 a c) (nxS 16 a b c) c else bif fj a b c then uJ a b c++yR a b c else uJ a b c
def FN:Bool:=allT [fY a b c,!cv a b c||GU a b c,!cv a b c||fY (AK a b c) (Ek a b c) c&&leN 1 (z7 [(0:Int),(1:Int),(-1:Int),(3:Int)]),cv a b c||GU a b c,cv a b c||fY (sd a c) (Eh a b c) c,cv a b c||fY (nxA (mM a b c) (sd a c) c) (Ei a b c) c,cv a b c||fY (mN a b c) (Ej a b c) c,cv a b c||(!fj a b c||GW a b c),cv a b c||(!fj a b c||neI (mM a b c) 0),cv a b c||(!fj a b c||fY (ra a b c) (CY a b c) c),cv a b c||(!fj a b c||leN (z7 (uJ a b c) + z7 (yR a b c)) 9223372036854775807),cv a b c||(!fj a b c||leN ((z7 (uJ a b c) + z7 (yR a b c)) * 8) 140737488355328),cv a b c||(!fj a b c||fY (nxA 2 (ra a b c) c) (CZ a b c) c&&leN 1 (z7 [(0:Int),(1:Int),(1:Int),(2:Int)])),cv a b c||(!fj a b c||fY (yP a b c) (Da a b c) c),cv a b c||(fj a b c||GW a b c&&leN 1 (z7 [(0:Int),(1:Int),(1:Int),(2:Int)])),cv a b c||(fj a b c||fY (yQ a b c) (Db a b c) c)]
end
def Nb:aem
 | [.one ⟨false,[.ptr 0 0]⟩],[.box 90 [.ref 1,.val (.int .i64 a),.val (.int .i64 b)],.row false 5 (.int .u8) c]=>some ⟨.tup [⟨true,[aen (gj a b c),.ref 2]⟩,⟨false,[aen (ir a b c)]⟩,⟨false,[.val (.bool (qo a b c))]⟩],[.box 90 [.ref 1,aen (iu a b c),aen (lP a b c)],aet c],[aer (eX a b c)],[FN a b c]⟩
 |_,_=>none
def yL:PF prog:=PF.ofG prog (T3z [jk,jl,IP]) [] bB 36 f36 func36 (fun c _=>LOk.nil c) Nb (by
 intro _ _ _ h;unfold Nb at h;split at h<;>cases h;kernel_rfl)
section
variable (a b c d:Int)(e:aek)
def pJ:Int:=j6 .i64 ((3:Int) * d)
def sR:aeg:= [(c,j6 .i64 (pJ d + b),true)]
def mR:Int:=Int.tmod (j6 .i64 (d + (1:Int))) a
def sS:Int:=j6 .i64 ((↑e.length:Int) + mR a d)
def pK:aeg:= [(sS a d e,(2:Int),false),(sS a d e,(3:Int),false)]
def sU:aeg:=pK a d e++yS a c d (mR a d) e
def sV:aeg:= [(c,j6 .i64 (pJ d + (1:Int)),true)]
def pL:aeg:= [(sS a d e,(3:Int),true)]
def uK:Int:=j6 .i64 (pJ d + (2:Int))
def sW:aeg:= [(c,bif b==3 then uK d else j6 .i64 (pJ d + b),true)]
def tS:Int:=j6 .i64 (j6 .i64 (pJ d + b) + (1:Int))
def tU:ael:=bif b==1 then yU b c d else bif b==2 then yU b c d else yU b c d
def tV:aec:=bif b==1 then sR b c d++sU a c d e else bif b==2 then sV c d++pL a d e else sW b c d++ []
def tW:aej:=bif b==1 then [(c,tS b d)]else bif b==2 then [(c,uK d)]else [(c,bif b==3 then j6 .i64 ((3:Int) * mR a d)else tS b d)]
def se:Bool:=allT [neI a 0,!b==1||leN (0 + z7 (pK a d e)) 9223372036854775807,!b==1||leN ((0 + z7 (pK a d e)) * 24) 140737488355328,!b==1||FO a c d (mR a d) e,!b==1||leN (z7 (pK a d e) + z7 (yS a c d (mR a d) e)) 9223372036854775807,!b==1||leN ((z7 (pK a d e) + z7 (yS a c d (mR a d) e)) * 24) 140737488355328,b==1||(!b==2||leN (0 + z7 (pL a d e)) 9223372036854775807),b==1||(!b==2||leN ((0 + z7 (pL a d e)) * 24) 140737488355328),!b==1||leN (z7 (sR b c d) + z7 (sU a c d e)) 9223372036854775807,!b==1||leN ((z7 (sR b c d) + z7 (sU a c d e)) * 24) 140737488355328,!b==1||vV b c d,b==1||(!b==2||leN (z7 (sV c d) + z7 (pL a d e)) 9223372036854775807),b==1||(!b==2||leN ((z7 (sV c d) + z7 (pL a d e)) * 24) 140737488355328),b==1||(!b==2||vV b c d),b==1||(b==2||leN (z7 (sW b c d) + 0) 9223372036854775807),b==1||(b==2||leN ((z7 (sW b c d) + 0) * 24) 140737488355328),b==1||(b==2||vV b c d)]
end
def Mt:aem
 | [.one ⟨true,[.val (.int .i64 a),.ref 0]⟩,.one ⟨false,[.val (.int .i64 b)]⟩,.one ⟨false,[.val (.int .i64 c)]⟩,.one ⟨false,[.val (.int .i64 d)]⟩],[.row false 2 (.int .i64) e]=>some ⟨.one ⟨true,[.val (.string (tU b c d)),.ref 1,.ref 2]⟩,[aeq e],[aeB (tV a b c d e),.row true 103 ad8 (tW a b c d)],[se a b c d e]⟩
 |_,_=>none
def lp:PF prog:=PF.ofG prog (T3z [IU,NV]) [] bB 61 f61 func61 (fun c _=>LOk.nil c) Mt (by
 intro _ _ _ h;unfold Mt at h;split at h<;>cases h;kernel_rfl)
section
variable (a b c d:Int)(e:aek)
def GX:Int:=j6 .i64 ((↑e.length:Int) + c)
def GY:Int:=j6 .i64 ((↑e.length:Int) + a)
def El:ael:=yU b c d
def Em:aec:= [(GX c e,bif b==5 then(0:Int)else bif b==6 then(1:Int)else(0:Int),true),(GY a e,d,true)]
def En:aej:= [(GX c e,bif b==5 then(2:Int)else bif b==6 then(3:Int)else(1:Int)),(GY a e,j6 .i64 (d - (1:Int)))]
def AL:Bool:=allT [vV b c d]
end
def Mp:aem
 | [.one ⟨true,[.val (.int .i64 a),.ref 0]⟩,.one ⟨false,[.val (.int .i64 b)]⟩,.one ⟨false,[.val (.int .i64 c)]⟩,.one ⟨false,[.val (.int .i64 d)]⟩],[.row false 2 (.int .i64) e]=>some ⟨.one ⟨true,[.val (.string (El b c d)),.ref 1,.ref 2]⟩,[aeq e],[aeB (Em a b c d e),.row true 103 ad8 (En a b c d e)],[AL b c d]⟩
 |_,_=>none
def ln:PF prog:=PF.ofG prog [NV] [] bB 62 f62 func62 (fun c _=>LOk.nil c) Mp (by
 intro _ _ _ h;unfold Mp at h;split at h<;>cases h;kernel_rfl)
abbrev ox:=Int×Int×List Int×List Int
section
variable (a b:Int)(c d:aek)
def ur:aek:= [j6 .i64 ((3:Int) * b)]
def EI:Bool:=ltI a (↑d.length:Int)
def EJ:Bool:=leN (z7 c + z7 (ur b)) 9223372036854775807
def EK:Bool:=leN ((z7 c + z7 (ur b)) * 8) 140737488355328
def EL:Int:=j6 .i64 (a + (1:Int))
def EM:aek:=c++ur b
end
def OL:ox→List (Nat×SV)
 |(a,_,_,_)=> [(9,(aep a)),(3,(aeo (.ptr 0 0))),(7,(aeo (.ref 1)))]
def Oz:ox→List (Nat×Entry)
 |(_,a,b,c)=> [(0,(.box 26 [aen a,.ref 2])),(2,(aeq c)),(1,(aer b))]
def Ph:Nat→ox→List (Nat×SV)
 |_,(_,_,_,_)=> [(7,(aeo (.ref 1)))]
def OW:Nat→ox→List (Nat×Entry)
 |_,(_,a,b,c)=> [(0,(.box 26 [aen a,.ref 2])),(1,(aer b)),(2,(aeq c))]
def Dx:ox→LT ox
 |(a,b,c,d)=> .ite (EI a d) (.need [EJ b c,EK b c] (.nrm ((EL a),b,EM b c,d) [(0,0),(1,704),(2,2)])) (.ext 0 [(0,0),(1,1),(2,2)])
def DM(s:St):Option ox:=do
 let some ⟨none,.one ⟨false,[.val (.int .i64 a)]⟩⟩:=s.look 9|none
 let some ⟨none,.one ⟨false,[.ptr 128 0]⟩⟩:=s.look 3|none
 let some ⟨none,.one ⟨false,[.ref 256]⟩⟩:=s.look 7|none
 let some (.box 26 [.val (.int .i64 b),.ref 0]):=s.ent 128|none
 let some (.row false 2 (.int .i64) d):=s.ent 0|none
 let some (.row true 2 (.int .i64) c):=s.ent 256|none
 some (a,b,c,d)
def jZ:Lp ox where
 h:=⟨[18,19,20,21,22,25,26,27,28,29,30,7,23,24,9],[0,2],[1],[]⟩
 JL:=OL
 JE:=Oz
 XL:=Ph
 XE:=OW
 q:=fun j=>match j with | _=> .exit 0
 tags:= [0]
 lt:=Dx
 fuel:=fun(a,b,c,d)=>a.natAbs + b.natAbs + c.length + d.length
 fix:=fun(_,b,_,d) (a,_,c,_)=>(a,b,c,d)
 σ:= [(0,128),(2,0),(1,256)]
 rd:=DM
theorem MQ:LoopOk prog (fun k=>Nat.blt k Tryz.f37.ntmps) jZ.F (bf f37 0):=by
 refine Lp.ok (tbl:= (T3z [ed,cX,lp,ln])) (lf:= []) bB jZ (by kernel_rfl) (LOk.nil _) (fun _=>rfl) (fun _ _=>rfl) ?_ ?_ ?_ ?_ (fun _=>rfl) ?_
 ·intro _;kernel_rfl
 ·intro _;kernel_rfl
 ·intro s x h
  have h:DM s=some x:=h
  unfold DM at h
  repeat' split at h
  all_goals cases h
  constructor<;>repeat(first|refine aa ‹_› rfl ?_|refine ab rfl ‹_› rfl ?_|rfl)
 ·intro _;kernel_rfl
 ·intro _ _;exact(And.intro rfl trivial)
abbrev oy:=Int×Int×List Int×List Int×List Int
section
variable (a b:Int)(c d:aek)
def EN:Bool:=ltI a b
def EO:Bool:=leN (z7 c + z7 [(4:Int)]) (9223372036854775807:Nat)
def EP:Bool:=leN ((z7 c + z7 [(4:Int)]) * (8:Nat)) 140737488355328
def EQ:Bool:=leN (z7 d + z7 [(0:Int)]) (9223372036854775807:Nat)
def ER:Bool:=leN ((z7 d + z7 [(0:Int)]) * (8:Nat)) 140737488355328
def ES:Int:=j6 .i64 (a + (1:Int))
def ET:aek:=c++ [(4:Int)]
def EU:aek:=d++ [(0:Int)]
end
def OM:oy→List (Nat×SV)
 |(a,_,_,_,_)=> [(10,(aep a)),(3,(aeo (.ptr 0 0))),(7,(aeo (.ref 1))),(8,(aeo (.ref 2)))]
def OA:oy→List (Nat×Entry)
 |(_,a,b,c,d)=> [(0,(.box 26 [aen a,.ref 3])),(3,(aeq d)),(1,(aer b)),(2,(aer c))]
def Pj:Nat→oy→List (Nat×SV)
 |_,(_,_,_,_,_)=> [(7,(aeo (.ref 1))),(8,(aeo (.ref 2)))]
def OX:Nat→oy→List (Nat×Entry)
 |_,(_,a,b,c,d)=> [(0,(.box 26 [aen a,.ref 3])),(1,(aer b)),(2,(aer c)),(3,(aeq d))]
def Dy:oy→LT oy
 |(a,b,c,d,e)=> .ite (EN a b) (.need [EO c,EP c] (.need [EQ d,ER d] (.nrm ((ES a),b,ET c,EU d,e) [(0,0),(1,448),(2,704),(3,3)]))) (.ext 0 [(0,0),(1,1),(2,2),(3,3)])
def DN(s:St):Option oy:=do
 let some ⟨none,.one ⟨false,[.val (.int .i64 a)]⟩⟩:=s.look 10|none
 let some ⟨none,.one ⟨false,[.ptr 128 0]⟩⟩:=s.look 3|none
 let some ⟨none,.one ⟨false,[.ref 704]⟩⟩:=s.look 7|none
 let some ⟨none,.one ⟨false,[.ref 448]⟩⟩:=s.look 8|none
 let some (.box 26 [.val (.int .i64 b),.ref 0]):=s.ent 128|none
 let some (.row false 2 (.int .i64) e):=s.ent 0|none
 let some (.row true 2 (.int .i64) c):=s.ent 704|none
 let some (.row true 2 (.int .i64) d):=s.ent 448|none
 some (a,b,c,d,e)
def ka:Lp oy where
 h:=⟨[31,32,33,34,37,38,39,7,40,41,42,8,35,36,10],[0,3],[1,2],[]⟩
 JL:=OM
 JE:=OA
 XL:=Pj
 XE:=OX
 q:=fun j=>match j with | _=> .exit 2
 tags:= [0]
 lt:=Dy
 fuel:=fun(a,b,c,d,e)=>a.natAbs + b.natAbs + c.length + d.length + e.length
 fix:=fun(_,b,_,_,e) (a,_,c,d,_)=>(a,b,c,d,e)
 σ:= [(0,128),(3,0),(1,704),(2,448)]
 rd:=DN
theorem MR:LoopOk prog (fun k=>Nat.blt k Tryz.f37.ntmps) ka.F (bf f37 1):=by
 refine Lp.ok (tbl:= (T3z [ed,cX,lp,ln])) (lf:= []) bB ka (by kernel_rfl) (LOk.nil _) (fun _=>rfl) (fun _ _=>rfl) ?_ ?_ ?_ ?_ (fun _=>rfl) ?_
 ·intro _;kernel_rfl
 ·intro _;kernel_rfl
 ·intro s x h
  have h:DN s=some x:=h
  unfold DN at h
  repeat' split at h
  all_goals cases h
  constructor<;>repeat(first|refine aa ‹_› rfl ?_|refine ab rfl ‹_› rfl ?_|rfl)
 ·intro _;kernel_rfl
 ·intro _ _;exact(And.intro rfl trivial)
abbrev oz:=Int×List (Int×(Int×Int))×List (ael×((List (Int×(Int×Bool)))×(List (Int×Int))))×Int×List Int
section
variable (a:Int)(b:aee)(c:ad7)(d:Int)(e:aek)
def aI:Int×Int×Int:=z8 b[z6 a]? ((0:Int),(0:Int),(0:Int))
def cK:Bool:=leI ((aI a b).1) 3
def rP:ad9:= [(tU ((aI a b).1) (((aI a b).2).1) ((aI a b).2.2),tV d ((aI a b).1) (((aI a b).2).1) ((aI a b).2.2) e,tW d ((aI a b).1) (((aI a b).2).1) ((aI a b).2.2))]
def rQ:ad9:= [(El ((aI a b).1) (((aI a b).2).1) ((aI a b).2.2),Em d ((aI a b).1) (((aI a b).2).1) ((aI a b).2.2) e,En d ((aI a b).1) (((aI a b).2).1) ((aI a b).2.2) e)]
def vU:Bool:=ltI a (↑b.length:Int)
def zT:Bool:=leI 0 a
def zU:Bool:=ltN a.toNat b.length
def sN:Bool:= !cK a b||leI 0 a
def sO:Bool:= !cK a b||ltI a (↑b.length:Int)
def sP:Bool:= !cK a b||ltN a.toNat b.length
def zV:Bool:= !cK a b||se d ((aI a b).1) (((aI a b).2).1) ((aI a b).2.2) e
def zW:Bool:= !cK a b||leN (z7 c + z7 (rP a b d e)) 9223372036854775807
def zX:Bool:= !cK a b||leN ((z7 c + z7 (rP a b d e)) * 64) 140737488355328
def sQ:Bool:=cK a b||leI 0 a
def rN:Bool:=cK a b||ltI a (↑b.length:Int)
def rO:Bool:=cK a b||ltN a.toNat b.length
def yj:Bool:=cK a b||AL ((aI a b).1) (((aI a b).2).1) ((aI a b).2.2)
def yk:Bool:=cK a b||leN (z7 c + z7 (rQ a b d e)) 9223372036854775807
def ym:Bool:=cK a b||leN ((z7 c + z7 (rQ a b d e)) * 64) 140737488355328
def yo:Int:=j6 .i64 (a + (1:Int))
def yp:ad7:=bif cK a b then c++rP a b d e else c++rQ a b d e
end
def ON:oz→List (Nat×SV)
 |(a,_,_,_,_)=> [(13,(aep a)),(12,(aeo (.ref 0))),(11,(aeo (.ref 1))),(3,(aeo (.ptr 2 0)))]
def OB:oz→List (Nat×Entry)
 |(_,a,b,c,d)=> [(0,(aex a)),(2,(.box 26 [aen c,.ref 3])),(3,(aeq d)),(1,(aey b))]
def Pk:Nat→oz→List (Nat×SV)
 |_,(_,_,_,_,_)=> [(11,(aeo (.ref 1)))]
def OY:Nat→oz→List (Nat×Entry)
 |_,(_,a,b,c,d)=> [(0,(aex a)),(1,(aey b)),(2,(.box 26 [aen c,.ref 3])),(3,(aeq d))]
def yg:oz→LT oz
 |(a,b,c,d,e)=> .ite (vU a b) (.need [zT a,vU a b,zU a b] (.need [sN a b,sO a b,sP a b,sN a b,sO a b,sP a b,sN a b,sO a b,sP a b,zV a b d e,zW a b c d e,zX a b c d e,sQ a b,rN a b,rO a b,sQ a b,rN a b,rO a b,sQ a b,rN a b,rO a b,yj a b,yk a b c d e,ym a b c d e] (.nrm ((yo a),b,yp a b c d e,d,e) [(0,0),(1,1920),(2,2),(3,3)]))) (.ext 0 [(0,0),(1,1),(2,2),(3,3)])
def DO(s:St):Option oz:=do
 let some ⟨none,.one ⟨false,[.val (.int .i64 a)]⟩⟩:=s.look 13|none
 let some ⟨none,.one ⟨false,[.ref 1216]⟩⟩:=s.look 12|none
 let some ⟨none,.one ⟨false,[.ref 896]⟩⟩:=s.look 11|none
 let some ⟨none,.one ⟨false,[.ptr 128 0]⟩⟩:=s.look 3|none
 let some (.row true 69 (.pair (.int .i64) (.pair (.int .i64) (.int .i64))) b):=s.ent 1216|none
 let some (.box 26 [.val (.int .i64 d),.ref 0]):=s.ent 128|none
 let some (.row false 2 (.int .i64) e):=s.ent 0|none
 let some (.row true 60 (.pair .str (.pair (.sl 100 (.pair (.int .i64) (.pair (.int .i64) .bool))) (.sl 103 (.pair (.int .i64) (.int .i64))))) c):=s.ent 896|none
 some (a,b,c,d,e)
def ii:Lp oz where
 h:=⟨[48,49,50,51,54,55,56,57,58,59,60,61,62,63,64,65,66,67,68,69,70,71,72,73,74,75,76,77,78,79,11,80,81,82,83,84,85,86,87,88,89,90,91,92,93,94,95,96,97,98,99,52,53,13],[0,2,3],[1],[]⟩
 JL:=ON
 JE:=OB
 XL:=Pk
 XE:=OY
 q:=fun j=>match j with | _=> .exit 4
 tags:= [0]
 lt:=yg
 fuel:=fun(a,b,c,d,e)=>a.natAbs + b.length + c.length + d.natAbs + e.length
 fix:=fun(_,b,_,d,e) (a,_,c,_,_)=>(a,b,c,d,e)
 σ:= [(0,1216),(2,128),(3,0),(1,896)]
 rd:=DO
theorem MS:LoopOk prog (fun k=>Nat.blt k Tryz.f37.ntmps) ii.F (bf f37 2):=by
 refine Lp.ok (tbl:= (T3z [ed,cX,lp,ln])) (lf:= []) bB ii (by kernel_rfl) (LOk.nil _) (fun _=>rfl) (fun _ _=>rfl) ?_ ?_ ?_ ?_ (fun _=>rfl) ?_
 ·intro _;kernel_rfl
 ·intro _;kernel_rfl
 ·intro s x h
  have h:DO s=some x:=h
  unfold DO at h
  repeat' split at h
  all_goals cases h
  constructor<;>repeat(first|refine aa ‹_› rfl ?_|refine ab rfl ‹_› rfl ?_|rfl)
 ·intro _;kernel_rfl
 ·intro _ _;exact(And.intro rfl trivial)
section
variable (a b:Int)(c:Bool)(d:aek)
def Hb:Int×Int×aek×aek:=((0:Int),a,[],d)
def Hc:Int×Int×aek×aek×aek:=((0:Int),a,((Lp.res jZ (Hb a d)).2.2.2).1,d,d)
def yT:aek×aek×aek:=(Lp.res ka (Hc a d)).2.2.2
def Dc:aek:= [j6 .i64 (b + (1:Int))]
def Dd:aek:=((yT a d).2).1
def Hd:Int×aeh×ad9×Int×aek:=((0:Int),kL d.length a.toNat b.toNat c,[],a,d)
def AM:aek:=(yT a d).1++Dc b
def Ep:aek:=Dd a d++ [b]
def Er:ad7:=((Lp.res ii (Hd a b c d)).2.2.2).1
def Es:Bool:=allT [leN d.length (1048576:Nat),Lp.fin jZ (Hb a d),Lp.fin ka (Hc a d),isR a b d,Lp.fin ii (Hd a b c d),leN (z7 ((yT a d).1) + z7 (Dc b)) 9223372036854775807,leN ((z7 ((yT a d).1) + z7 (Dc b)) * 8) 140737488355328,leN (z7 (Dd a d) + z7 [b]) (9223372036854775807:Nat),leN ((z7 (Dd a d) + z7 [b]) * (8:Nat)) (140737488355328:Nat)]
end
def Mr:aem
 | [.one ⟨true,[.val (.int .i64 a),.ref 0]⟩,.one ⟨false,[.val (.int .i64 b)]⟩,.one ⟨false,[.val (.bool c)]⟩],[.row false 2 (.int .i64) d]=>some ⟨.one ⟨true,[.ref 1,.ref 2,.ref 3]⟩,[aeq d],[aer (AM a b d),aer (Ep a b d),aey (Er a b c d)],[Es a b c d]⟩
 |_,_=>none
def wQ:PF prog:=PF.ofG prog (T3z [ed,cX,lp,ln]) [jZ.F,ka.F,ii.F] bB 37 f37 func37 (LOk.fnT (l:= [bf f37 0,bf f37 1,bf f37 2]) (by kernel_rfl) (.cons MQ (.cons MR (.cons MS (.nil _))))) Mr (by
 intro _ _ _ h;unfold Mr at h;split at h<;>cases h;kernel_rfl)
abbrev km:=Int×List Int×Int×Int×List Int×List Int×List Int×List (ael×((List (Int×(Int×Bool)))×(List (Int×Int))))×List Int
section
variable (a:Int)(b:aek)(c d:Int)(e f g:aek)(i:ad7)(j:aek)
def rc:Int:=nxV (↑(z7 (bH f g i b)):Int) c d j
def lQ:Int:=z8 (bH f g i b)[z6 (rc b c d f g i j)]? 0
def uC:Bool:=ltI 0 a
def zY:Bool:=BD f g i b
def zZ:Bool:=(↑(z7 (bH f g i b)):Int)==0
def FP:Bool:=fY c d j
def FQ:Bool:=leI 0 (rc b c d f g i j)
def FR:Bool:=ltI (rc b c d f g i j) (↑(z7 (bH f g i b)):Int)
def FS:Bool:=ltN (z6 (rc b c d f g i j)) (z7 (bH f g i b))
def FT:Bool:=leN (z7 e + z7 [lQ b c d f g i j]) 9223372036854775807
def FU:Bool:=leN ((z7 e + z7 [lQ b c d f g i j]) * 8) 140737488355328
def FV:Bool:=Ef (lQ b c d f g i j) i b
def Li:Int:=j6 .i64 (a - (1:Int))
def Ff:aek:=Ee (lQ b c d f g i j) i b
def Lj:Int:=nxA (↑(z7 (bH f g i b)):Int) c j
def Lk:Int:=nxS (↑(z7 (bH f g i b)):Int) c d j
def Fg:aek:=e++ [lQ b c d f g i j]
end
def KE:km→List (Nat×SV)
 |(a,_,_,_,_,_,_,_,_)=> [(12,(aep a)),(10,(aeo (.ptr 0 0))),(11,(aeo (.ref 1))),(0,(aeo (.ptr 2 0))),(9,(aeo (.ref 3)))]
def KD:km→List (Nat×Entry)
 |(_,a,b,c,d,e,f,g,i)=> [(0,(.box 35 [.ref 4,.ref 5,.ref 6])),(2,(.box 90 [.ref 7,aen b,aen c])),(4,(aer e)),(5,(aer f)),(6,(aey g)),(7,(aet i)),(1,(aer a)),(3,(aer d))]
def KK:Nat→km→List (Nat×SV)
 |0,(_,_,_,_,_,_,_,_,_)=> [(9,(aeo (.ref 3)))]
 |_,(_,_,_,_,_,_,_,_,_)=> [(9,(aeo (.ref 3)))]
def KJ:Nat→km→List (Nat×Entry)
 |0,(_,a,b,c,d,e,f,g,i)=> [(0,(.box 35 [.ref 4,.ref 5,.ref 6])),(1,(aer a)),(2,(.box 90 [.ref 7,aen b,aen c])),(3,(aer d)),(4,(aer e)),(5,(aer f)),(6,(aey g)),(7,(aet i))]
 |_,(_,a,b,c,d,e,f,g,i)=> [(0,(.box 35 [.ref 4,.ref 5,.ref 6])),(1,(aer a)),(2,(.box 90 [.ref 7,aen b,aen c])),(3,(aer d)),(4,(aer e)),(5,(aer f)),(6,(aey g)),(7,(aet i))]
def tM:km→LT km
 |(a,b,c,d,e,f,g,i,j)=> .ite (uC a) (.need [zY b f g i] (.ite (zZ b f g i) (.ext 0 [(0,0),(1,1),(2,2),(3,3),(4,4),(5,5),(6,6),(7,7)]) (.need [FP c d j,FQ b c d f g i j,FR b c d f g i j,FS b c d f g i j] (.need [FT b c d e f g i j,FU b c d e f g i j] (.need [FV b c d f g i j] (.nrm ((Li a),Ff b c d f g i j,Lj b c f g i j,Lk b c d f g i j,Fg b c d e f g i j,f,g,i,j) [(0,0),(1,1664),(2,2),(3,1344),(4,4),(5,5),(6,6),(7,7)])))))) (.ext 1 [(0,0),(1,1),(2,2),(3,3),(4,4),(5,5),(6,6),(7,7)])
def yM(s:St):Option km:=do
 let some ⟨none,.one ⟨false,[.val (.int .i64 a)]⟩⟩:=s.look 12|none
 let some ⟨none,.one ⟨false,[.ptr 1728 0]⟩⟩:=s.look 10|none
 let some ⟨none,.one ⟨false,[.ref 1984]⟩⟩:=s.look 11|none
 let some ⟨none,.one ⟨false,[.ptr 0 0]⟩⟩:=s.look 0|none
 let some ⟨none,.one ⟨false,[.ref 1088]⟩⟩:=s.look 9|none
 let some (.box 35 [.ref 1664,.ref 1665,.ref 1666]):=s.ent 1728|none
 let some (.box 90 [.ref 1,.val (.int .i64 c),.val (.int .i64 d)]):=s.ent 0|none
 let some (.row true 2 (.int .i64) f):=s.ent 1664|none
 let some (.row true 2 (.int .i64) g):=s.ent 1665|none
 let some (.row true 60 (.pair .str (.pair (.sl 100 (.pair (.int .i64) (.pair (.int .i64) .bool))) (.sl 103 (.pair (.int .i64) (.int .i64))))) i):=s.ent 1666|none
 let some (.row false 5 (.int IntKind.u8) j):=s.ent 1|none
 let some (.row true 2 (.int .i64) b):=s.ent 1984|none
 let some (.row true 2 (.int .i64) e):=s.ent 1088|none
 some (a,b,c,d,e,f,g,i,j)
def bU:Lp km where
 h:=⟨[39,40,43,44,45,13,46,47,48,49,50,51,52,53,54,55,14,56,57,58,59,9,60,61,62,63,11,41,42,12],[0,2,4,5,6,7],[1,3],[]⟩
 JL:=KE
 JE:=KD
 XL:=KK
 XE:=KJ
 q:=fun j=>match j with | 0=> .exit 0 | _=> .exit 0
 tags:= [0,1]
 lt:=tM
 fuel:=fun(a,b,c,d,e,f,g,i,k)=>a.natAbs + b.length + c.natAbs + d.natAbs + e.length + f.length + g.length + i.length + k.length
 fix:=fun(_,_,_,_,_,f,g,i,k) (a,b,c,d,e,_,_,_,_)=>(a,b,c,d,e,f,g,i,k)
 σ:= [(0,1728),(2,0),(4,1664),(5,1665),(6,1666),(7,1),(1,1984),(3,1088)]
 rd:=yM
theorem Jp:LoopOk prog (fun k=>Nat.blt k Tryz.f15.ntmps) bU.F (bf f15 0):=by
 refine Lp.ok (tbl:= (T3z [mD,yL,wQ,cX,jk,tQ,wO,jl])) (lf:= []) bB bU (by kernel_rfl) (LOk.nil _) (fun _=>rfl) (fun j _=>by unfold bU;match j with | 0=>rfl | _ + 1=>rfl) ?_ ?_ ?_ ?_ (fun _=>rfl) ?_
 ·intro _;kernel_rfl
 ·intro _;kernel_rfl
 ·intro s x h
  have h:yM s=some x:=h
  unfold yM at h
  repeat' split at h
  all_goals cases h
  constructor<;>repeat(first|refine aa ‹_› rfl ?_|refine ab rfl ‹_› rfl ?_|rfl)
 ·intro _;kernel_rfl
 ·intro _ _;exact(And.intro (And.intro trivial rfl) trivial)
section
variable (a b:Int)(c:aek)
def ao:Bool:=yO (gj a b c) (ir a b c) (eX a b c)!=0
def iK:aek:=Ep (gj a b c) (ir a b c) (eX a b c)
def rb:ad9:=Er (gj a b c) (ir a b c) (qo a b c) (eX a b c)
def oT:Int×aek×Int×Int×aek×aek×aek×ad9×aek:=(nxV 14 (iu a b c) (lP a b c) c,iK a b c,nxA 14 (iu a b c) c,nxS 14 (iu a b c) (lP a b c) c,[],AM (gj a b c) (ir a b c) (eX a b c),iK a b c,rb a b c,c)
def aJ:Bool:=Nat.beq ((Lp.res bU (oT a b c)).1) 0
def tB:Int×Int×aek×aek×aek×ad9×aek:=(Lp.res bU (oT a b c)).2.2.2
def cM:Int:=(tB a b c).1
def xA:Int×aek×aek×aek×ad9×aek:=(tB a b c).2
def oU:Int:=(xA a b c).1
def HG:Int:=nxV 40 (cM a b c) (oU a b c) c
def bP:Bool:=HG a b c==0
def cS:Bool:=HG a b c==1
def Ge:Int:=bif bP a b c then gj a b c else bif cS a b c then gj a b c else gj a b c
def Gf:Int:=bif bP a b c then ir a b c else bif cS a b c then ir a b c else ir a b c
def Gg:Bool:=bif bP a b c then qo a b c else bif cS a b c then qo a b c else qo a b c
def sG:aek:= [(-1:Int),(↑(z7 (rb a b c)):Int),(0:Int)]
def Gh:Int:=bif bP a b c then pkA (nxA 40 (cM a b c) c) (sG a b c) c else bif cS a b c then nxA 2 (nxA 40 (cM a b c) c) c else nxA 40 (cM a b c) c
def nN:Int:=nxS 40 (cM a b c) (oU a b c) c
def Gi:Int:=bif bP a b c then pkS (nxA 40 (cM a b c) c) (nN a b c) (sG a b c) c else bif cS a b c then nxS 2 (nxA 40 (cM a b c) c) (nN a b c) c else nN a b c
def Bu:aek:=bif bP a b c then eX a b c else bif cS a b c then eX a b c else eX a b c
def nO:aek:=((xA a b c).2).1
def qi:aek:= [pkV (nxA 40 (cM a b c) c) (nN a b c) (sG a b c) c]
def jv:Int:=j6 .i64 ((200:Int) + nxV 2 (nxA 40 (cM a b c) c) (nN a b c) c)
def wj:aek:=bif bP a b c then nO a b c++qi a b c else bif cS a b c then j7 (z6 (jv a b c)) (0:Int)else nO a b c
def Gj:aek:=bif bP a b c then c else bif cS a b c then c else c
def Bv:Bool:=fY (nxA 40 (cM a b c) c) (nN a b c) c
def wl:Bool:= !bP a b c||Bv a b c&&leN 1 (z7 (sG a b c))
def wm:Bool:= !bP a b c||leN (z7 (nO a b c) + z7 (qi a b c)) 9223372036854775807
def wn:Bool:= !bP a b c||leN ((z7 (nO a b c) + z7 (qi a b c)) * 8) 140737488355328
def wo:Bool:=bP a b c||(!cS a b c||Bv a b c)
def wq:Bool:=bP a b c||(!cS a b c||leI 0 (jv a b c))
def ws:Bool:=bP a b c||(!cS a b c||leI (jv a b c) (jv a b c))
def wt:Bool:=bP a b c||(!cS a b c||leI ((↑(8:Nat):Int) * jv a b c) 281474976710656)
def wu:Bool:=bP a b c||(!cS a b c||leI (jv a b c) 9223372036854775807)
def Ia:Int:=bif ao a b c then gj a b c else bif aJ a b c then Ge a b c else Ge a b c
def Ib:Int:=bif ao a b c then ir a b c else bif aJ a b c then Gf a b c else Gf a b c
def Ic:Bool:=bif ao a b c then qo a b c else bif aJ a b c then Gg a b c else Gg a b c
def Ps:Int:=bif ao a b c then iu a b c else bif aJ a b c then Gh a b c else Gh a b c
def Pt:Int:=bif ao a b c then lP a b c else bif aJ a b c then Gi a b c else Gi a b c
def ut:aek:=bif ao a b c then eX a b c else bif aJ a b c then Bu a b c else Bu a b c
def uu:aek:=bif ao a b c then [(0:Int)]else bif aJ a b c then wj a b c else wj a b c
def Pu:aek:=bif ao a b c then c else bif aJ a b c then Gj a b c else Gj a b c
def uv:Bool:=allT [FN a b c,ao a b c||Es (gj a b c) (ir a b c) (qo a b c) (eX a b c),ao a b c||leN (z7 (iK a b c)) 1048576,ao a b c||fY (iu a b c) (lP a b c) c,ao a b c||Lp.fin bU (oT a b c),ao a b c||(!aJ a b c||fY (cM a b c) (oU a b c) c),ao a b c||(!aJ a b c||wl a b c),ao a b c||(!aJ a b c||wm a b c),ao a b c||(!aJ a b c||wn a b c),ao a b c||(!aJ a b c||wo a b c),ao a b c||(!aJ a b c||wq a b c),ao a b c||(!aJ a b c||ws a b c),ao a b c||(!aJ a b c||wt a b c),ao a b c||(!aJ a b c||wu a b c),ao a b c||(aJ a b c||fY (cM a b c) (oU a b c) c),ao a b c||(aJ a b c||wl a b c),ao a b c||(aJ a b c||wm a b c),ao a b c||(aJ a b c||wn a b c),ao a b c||(aJ a b c||wo a b c),ao a b c||(aJ a b c||wq a b c),ao a b c||(aJ a b c||ws a b c),ao a b c||(aJ a b c||wt a b c),ao a b c||(aJ a b c||wu a b c)]
end
def HY:aem
 | [.one ⟨false,[.ptr 0 0]⟩],[.box 90 [.ref 1,.val (.int .i64 a),.val (.int .i64 b)],.row false 5 (.int .u8) c]=>some ⟨.tup [⟨true,[aen (Ia a b c),.ref 2]⟩,⟨false,[aen (Ib a b c)]⟩,⟨false,[.val (.bool (Ic a b c))]⟩,⟨false,[.ref 3]⟩],[.box 90 [.ref 4,aen (Ps a b c),aen (Pt a b c)],aet c],[aeq (ut a b c),aeq (uu a b c),aet (Pu a b c)],[uv a b c]⟩
 |_,_=>none
def DA:PF prog:=PF.ofG prog (T3z [mD,yL,wQ,cX,jk,tQ,wO,jl]) [bU.F] bB 15 f15 func15 (LOk.fnT (l:= [bf f15 0]) (by kernel_rfl) (.cons Jp (.nil _))) HY (by
 intro _ _ _ h;unfold HY at h;split at h<;>cases h;kernel_rfl)
section
variable (a:aek)
def aj:Int:=Ia 0 (frS a) a
def aS:Int:=Ib 0 (frS a) a
def cB:Bool:=Ic 0 (frS a) a
def af:aek:=ut 0 (frS a) a
def aT:aek:=uu 0 (frS a) a
def xR:Bool:=allT [fY 0 0 a,uv 0 (frS a) a]
end
def DS:aem
 | [.one ⟨false,[.ref 0]⟩],[.row false 5 (.int .u8) a]=>some ⟨.tup [⟨true,[aen (aj a),.ref 1]⟩,⟨false,[aen (aS a)]⟩,⟨false,[.val (.bool (cB a))]⟩,⟨false,[.ref 2]⟩],[aet a],[aeq (af a),aeq (aT a)],[xR a]⟩
 |_,_=>none
def Ks:PF prog:=PF.ofG prog (T3z [DA,IM]) [] bB 5 f5 func5 (fun c _=>LOk.nil c) DS (by
 intro _ _ _ h;unfold DS at h;split at h<;>cases h;kernel_rfl)
set_option maxHeartbeats 4000000
theorem S1:(∀ b:Bool,(b||false)=b)∧((false=true)=False)∧(∀ a b:Bool,((a&&b)=true)=(a=true∧b=true))∧(∀ a b:Int,(ltI a b=true)=(a < b))∧(∀ a b:Int,(leI a b=true)=(a≤b))∧(∀ a b:Int,(ltI a b=false)=(b≤a))∧(∀ a b:Int,(leI a b=false)=(b < a)):=by and_intros <;> intros <;> simp
theorem S2:(∀ (α:Type) (a b:List α),(a++b).length=a.length + b.length)∧(∀ (α:Type) (a:α) (l:List α),(a::l).length=l.length + 1)∧(∀ α:Type,([]:List α).length=0):=by and_intros <;> intros <;> simp
theorem Yq{b:Bool}{l:List Bool}:allT (b::l)=true↔b=true∧allT l=true:=by cases b <;> simp [allT]
theorem Yr:allT []=true↔True:=by simp [allT]
theorem acW{t:Bool}{a a' s s':Int}{c:aek}(h:fY a s c=true)(h':fY a' s' c=true):fY (bif t then a else a') (bif t then s else s') c=true:=by cases t <;> assumption
theorem acN{α:Type}{t:Bool}{l l':List α}{n:Nat}(h:l.length≤n)(h':l'.length≤n):(bif t then l else l').length≤n:=by cases t <;> assumption
def LT.ok{X:Type}(J:X→Prop)(Q:Nat→Prop):LT X→Prop
 | .nrm x _=>J x
 | .ext j _=>Q j
 | .need nd t=>allT nd=true∧t.ok J Q
 | .ite b t e=>(b=true→t.ok J Q)∧(b=false→e.ok J Q)
theorem RH(a s:Int)(c:aek)(h:fY a s c=true):FN a s c=true∧fY (iu a s c) (lP a s c) c=true:=by
 have s1:=He (n:=16) h
 obtain⟨l1,l2,l3⟩:=Qo (nxA 16 a c) (nxS 16 a s c) c s1
 have n1:=UH (n:=2) s1 (by omega)
 have Hy:neI (IntKind.i64.wrap (2 + nxV 2 (nxA 16 a c) (nxS 16 a s c) c)) 0=true:=UF (by rw [aC (by omega) (by omega)];omega)
 refine⟨?_,?_⟩
 all_goals simp only [cv,mM,sd,mN,Eh,Ei,Ej,fj,AK,Ek,ra,uI,CY,CZ,yP,Da,yQ,Db,GS,uJ,yR,GU,GW,gj,ir,qo,iu,lP,eX,FN,Yq,Yr,and_true,Bool.or_eq_true,q8]
 all_goals repeat' refine And.intro ?_ ?_
 all_goals first
   |omega
   |(repeat (first | assumption | apply He | apply Zp | apply acW | refine Or.inr ?_ | refine And.intro ?_ ?_ | exact trivial | exact WN _ _ | rfl)
     done)
   |((repeat refine Or.inr ?_)
     exact qf (by first | omega | (simp only [S2];omega)))
   |(simp only [S2]
     omega)
   |(repeat' apply acN
     all_goals first | omega | (simp only [S2];omega))
   |(try simp only [S1]at *
     rw [aC (by omega) (by omega)]
     first | omega | (simp only [S2];omega))
   |(simp only [S1]at *
     first | omega | (exfalso;omega))
   |(exfalso;simp_all;done)
theorem XC(a s:Int)(c:aek)(h:fY a s c=true):(eX a s c).length≤9:=by
 have s1:=He (n:=16) h
 obtain⟨l1,l2,l3⟩:=Qo (nxA 16 a c) (nxS 16 a s c) c s1
 simp only [eX]
 cases cv a s c
 ·cases fj a s c <;> simp [uJ,yR]
 ·exact l3
theorem abn{k a b:Int}(hk:0≤k∧k≤6)(ha:0≤a∧a≤100)(hb:0≤b∧b≤100):vV k a b=true:=by
 have a2:=LU ha.1 (by omega:a≤9223372036854775807)
 have b2:=LU hb.1 (by omega:b≤9223372036854775807)
 have h5:(ByteArray.mk #[95]).size=1:=rfl
 have hs:(HU k).size≤8:=by
  have hc:k=0∨k=1∨k=2∨k=3∨k=4∨k=5∨k=6:=by omega
  rcases hc with rfl | rfl | rfl | rfl | rfl | rfl | rfl <;> decide
 have s1:(wU k).size≤9:=by rw [wU,ByteArray.size_append,h5];omega
 have s2:(wU k++Bz a).size≤30:=by rw [ByteArray.size_append];omega
 have s3:(Et k a).size≤31:=by rw [Et,ByteArray.size_append,h5];omega
 simp only [vV,Yq,Yr,and_true]
 and_intros
 all_goals first
  |exact du (by omega)
  |exact eV (by simp only [w6,w7];omega)
  |exact lR (by simp only [w6,w7];omega)
  |exact qf (by omega)
  |rfl
  |(simp only [q8,Hk,Ip,sj];omega)
def nmS(x:Int×Int×Int):ael:=yU x.1 x.2.1 x.2.2
def ruS(T:Nat)(n:Int)(x:Int×Int×Int):RuE:=(nmS x,gK T n x,eK T n x)
theorem acZ(a b c n:Int)(ps:aek)(hp:ps.length≤4)(hb:0≤b∧b≤8)(hc:0≤c∧c≤8):
  gJ.fin ((0:Int),a,b,c,n,[],ps)=true∧gJ.res ((0:Int),a,b,c,n,[],ps)=(0,((ps.length:Int),a,b,c,n,Rs ps.length a b c,ps)):=by
 have kn:=gJ.gath (fun k l=>((k:Int),a,b,c,n,l,ps)) (fun x=>x.2.2.2.2.2.1) (fun(o:Nat)=>bif(o:Int)==a then []else oth b c (o:Int)) 0 ps.length 4 [] (by omega)
  (fun o _=>by cases (o:Int)==a <;> simp [oth]) (fun o l ho hL=> ?_) (fun l=> ?_)
 ·exact kn
 ·simp only [w7]at hL
  have hw:IntKind.i64.wrap ((o:Int) + 1)=((o + 1:Nat):Int):=mO ho (by omega)
  have h3:ltI (o:Int) (ps.length:Int)=true:=eV (by omega)
  have q1:IntKind.i64.wrap (3 * b)=3 * b:=aC (by omega) (by omega)
  have q2:IntKind.i64.wrap (3 * b + 2)=3 * b + 2:=aC (by omega) (by omega)
  have q3:IntKind.i64.wrap (3 * c)=3 * c:=aC (by omega) (by omega)
  have q4:IntKind.i64.wrap (3 * c + 1)=3 * c + 1:=aC (by omega) (by omega)
  have q5:IntKind.i64.wrap (3 * c + 2)=3 * c + 2:=aC (by omega) (by omega)
  have l1:=xK (b:=4) (show l.length≤23 by omega) (by decide) (by decide)
  have l2:=IG (b:=4) (show l.length≤23 by omega) (by decide) (by decide)
  refine⟨?_,?_,?_⟩
  ·cases ho2:(o:Int)==a <;> simp [qJ,qK,xu,xw,tR,xx,xy,xz,vC,gJ,LT.nds,allT,h3,ho2,l1,l2]
  ·cases ho2:(o:Int)==a <;> simp [qJ,qK,xu,xw,tR,xx,xy,xz,vC,gJ,LT.each,h3,hw,ho2]
  ·cases ho2:(o:Int)==a <;> simp [qJ,qK,xu,xw,tR,xx,xy,xz,vC,gJ,LT.fn,h3,ho2,oth,q1,q2,q3,q4,q5]
 ·have h3:ltI (ps.length:Int) (ps.length:Int)=false:=qW (by omega)
  simp [qJ,qK,xu,xw,tR,xx,xy,xz,vC,gJ,LT.out,h3]
theorem aaC{n k i b:Int}{ps:aek}(hT:isT n ps=true)(hk:0≤k∧k≤3)(hi:0≤i∧i < ps.length)(hb:0≤b∧b < n):
  (tU k i b,tV n k i b ps,tW n k i b)=ruS ps.length n (k,i,b)∧se n k i b ps=true:=by
 obtain⟨h1,h2,_⟩:=gt.1 hT
 have hc:0≤Int.tmod (b + 1) n∧Int.tmod (b + 1) n < n:=by
  rcases HC h1.1 hb with⟨h1,h2⟩ | ⟨h1,h2⟩ <;> rw [h1] <;> omega
 have q1:IntKind.i64.wrap (3 * b)=3 * b:=aC (by omega) (by omega)
 have q2:IntKind.i64.wrap (3 * b + 1)=3 * b + 1:=aC (by omega) (by omega)
 have q3:IntKind.i64.wrap (3 * b + 2)=3 * b + 2:=aC (by omega) (by omega)
 have q3b:IntKind.i64.wrap (3 * b + 1 + 1)=3 * b + 2:=by rw [aC (by omega) (by omega)];omega
 have q4:IntKind.i64.wrap (b + 1)=b + 1:=aC (by omega) (by omega)
 have q5:IntKind.i64.wrap ((ps.length:Int) + Int.tmod (b + 1) n)=(ps.length:Int) + Int.tmod (b + 1) n:=aC (by omega) (by omega)
 have q6:IntKind.i64.wrap (3 * Int.tmod (b + 1) n)=3 * Int.tmod (b + 1) n:=aC (by omega) (by omega)
 obtain⟨w1,w2⟩:=acZ i b (Int.tmod (b + 1) n) n ps (by omega) (by omega) (by omega)
 have Hy:neI n 0=true:=by simp;omega
 have ho:(Rs ps.length i b (Int.tmod (b + 1) n)).length≤16:=Nat.le_trans (BZ _ 4 (fun o=>by cases (o:Int)==i <;> simp [oth]) ps.length) (by omega)
 have r0:=abn (k:=k) (a:=i) (b:=b) (by omega) (by omega) (by omega)
 have l1:leN (1 + ((Rs ps.length i b (Int.tmod (b + 1) n)).length + 1 + 1)) 9223372036854775807=true:=qf (by omega)
 have l2:leN ((1 + ((Rs ps.length i b (Int.tmod (b + 1) n)).length + 1 + 1)) * 24) 140737488355328=true:=qf (by omega)
 have l3:leN (2 + (Rs ps.length i b (Int.tmod (b + 1) n)).length) 9223372036854775807=true:=qf (by omega)
 have l4:leN ((2 + (Rs ps.length i b (Int.tmod (b + 1) n)).length) * 24) 140737488355328=true:=qf (by omega)
 have kc:k=0∨k=1∨k=2∨k=3:=by omega
 have f1:yS n i b (Int.tmod (b + 1) n) ps=Rs ps.length i b (Int.tmod (b + 1) n):=by simp only [yS,Eo,w2]
 have f2:FO n i b (Int.tmod (b + 1) n) ps=true:=by simp only [FO,Eo,w1,allT,cond_true]
 constructor
 ·rcases kc with rfl | rfl | rfl | rfl <;> simp [pJ,sR,mR,sS,pK,sU,sV,pL,uK,sW,tS,tU,tV,tW,se,q1,q2,q3,q3b,q4,q5,q6,f1,ruS,nmS,gK,eK]
 ·simp only [se,Yq,Yr,and_true]
  rcases kc with rfl | rfl | rfl | rfl <;> (and_intros <;> first
   |exact Hy
   |(simp only [Bool.or_eq_true];first
     |exact .inl rfl
     |exact .inr (.inl rfl)
     |exact .inr r0
     |exact .inr (.inr r0)
     |(refine .inr ?_;simp only [pJ,sR,mR,sS,pK,sU,sV,pL,uK,sW,tS,tU,tV,tW,se,q4,f1,f2];done)
     |(refine .inr ?_;simp only [pJ,sR,mR,sS,pK,sU,sV,pL,uK,sW,tS,tU,tV,tW,se,q4,f1];exact qf (by simp only [w6,w7,w5];omega))
     |(refine .inr (.inr ?_);simp only [pJ,sR,mR,sS,pK,sU,sV,pL,uK,sW,tS,tU,tV,tW,se];exact qf (by simp only [w6,w7,w5];omega))))
theorem aaz{n k b d:Int}{ps:aek}(hT:isT n ps=true)(hk:4≤k∧k≤6)(hb:0≤b∧b < n)(hd:1≤d∧d≤2):
  (El k b d,Em n k b d ps,En n k b d ps)=ruS ps.length n (k,b,d)∧AL k b d=true:=by
 obtain⟨h1,h2,_⟩:=gt.1 hT
 have q1:IntKind.i64.wrap ((ps.length:Int) + b)=(ps.length:Int) + b:=aC (by omega) (by omega)
 have q2:IntKind.i64.wrap ((ps.length:Int) + n)=(ps.length:Int) + n:=aC (by omega) (by omega)
 have q3:IntKind.i64.wrap (d - 1)=d - 1:=aC (by omega) (by omega)
 have r0:=abn (k:=k) (a:=b) (b:=d) (by omega) (by omega) (by omega)
 have kc:k=4∨k=5∨k=6:=by omega
 constructor
 ·rcases kc with rfl | rfl | rfl <;> simp [GX,GY,El,Em,En,AL,q1,q2,q3,ruS,nmS,gK,eK]
 ·simp only [AL,allT,r0,cond_true]
set_option maxHeartbeats 1000000
theorem ady(n:Int)(ps:aek)(hn:0≤n∧n≤8)(hp:ps.length≤100):
  jZ.fin ((0:Int),n,[],ps)=true∧jZ.res ((0:Int),n,[],ps)=(0,((ps.length:Int),n,j7 ps.length (3 * n),ps)):=by
 have kn:=jZ.iter (fun i=>((i:Int),n,j7 i (3 * n),ps)) 0 ps.length (by omega) (fun i hi=> ?_) ?_
 ·exact kn
 ·have hw:IntKind.i64.wrap ((i:Int) + 1)=((i + 1:Nat):Int):=mO hi (by omega)
  have h3:ltI (i:Int) (ps.length:Int)=true:=eV (by omega)
  have q1:IntKind.i64.wrap (3 * n)=3 * n:=aC (by omega) (by omega)
  have l1:=xK (b:=1) (show i≤500 by omega) (by decide) (by decide)
  have l2:=Hl (b:=1) (show i≤500 by omega) (by decide) (by decide)
  simp only [ur,EI,EJ,EK,EL,EM,Dx,jZ,LT.out,allT,h3,hw,q1,l1,l2,Rz,w9,w6,w7,Nat.zero_add,cond_true]
 ·have h3:ltI (ps.length:Int) (ps.length:Int)=false:=qW (by omega)
  simp only [ur,EI,EJ,EK,EL,EM,Dx,jZ,LT.out,h3,cond_false]
theorem adz(m:Nat)(zs ps qs:aek)(hm:m≤8)(hz:zs.length≤100)(hp:ps.length≤100):
  ka.fin ((0:Int),(m:Int),zs,ps,qs)=true∧ka.res ((0:Int),(m:Int),zs,ps,qs)=(0,((m:Int),(m:Int),zs++j7 m 4,ps++j7 m 0,qs)):=by
 have kn:=ka.iter (fun i=>((i:Int),(m:Int),zs++j7 i 4,ps++j7 i 0,qs)) 0 m (by omega) (fun i hi=> ?_) ?_
 ·simpa only [show ((0:Nat):Int)=0 from rfl,List.replicate_zero,List.append_nil] using kn
 ·have hw:IntKind.i64.wrap ((i:Int) + 1)=((i + 1:Nat):Int):=mO hi (by omega)
  have h3:ltI (i:Int) (m:Int)=true:=eV (by omega)
  have l1:=xK (b:=1) (show zs.length + i≤500 by omega) (by decide) (by decide)
  have l2:=Hl (b:=1) (show zs.length + i≤500 by omega) (by decide) (by decide)
  have l3:=xK (b:=1) (show ps.length + i≤500 by omega) (by decide) (by decide)
  have l4:=Hl (b:=1) (show ps.length + i≤500 by omega) (by decide) (by decide)
  simp only [EN,EO,EP,EQ,ER,ES,ET,EU,Dy,ka,LT.out,allT,h3,hw,l1,l2,l3,l4,Rz,w5,w9,w6,w7,Nat.zero_add,cond_true,List.append_assoc]
 ·have h3:ltI (m:Int) (m:Int)=false:=qW (by omega)
  simp only [EN,EO,EP,EQ,ER,ES,ET,EU,Dy,ka,LT.out,h3,cond_false]
theorem adA(n:Int)(d:Nat)(L:aeh)(ps:aek)(hT:isT n ps=true)(hd:d≤2)(hL:L.length≤500)(hk: ∀ x∈L,kOk ps.length n.toNat d x):
  ii.fin ((0:Int),L,[],n,ps)=true∧ii.res ((0:Int),L,[],n,ps)=(0,((L.length:Int),L,L.map (ruS ps.length n),n,ps)):=by
 obtain⟨h1,h2,_⟩:=gt.1 hT
 have kn:=ii.iter (fun i=>((i:Int),L,(L.take i).map (ruS ps.length n),n,ps)) 0 L.length (by omega) (fun i hi=> ?_) ?_
 ·simpa only [show ((0:Nat):Int)=0 from rfl,List.take_zero,List.map_nil,List.take_length] using kn
 ·have hw:IntKind.i64.wrap ((i:Int) + 1)=((i + 1:Nat):Int):=mO hi (by omega)
  have h3:ltI (i:Int) (L.length:Int)=true:=eV (by omega)
  have h4:leI 0 (i:Int)=true:=du (by omega)
  have h5:ltN i L.length=true:=lR hi
  have hmi:min i L.length=i:=by omega
  have l1:=xK (b:=1) (show i≤500 by omega) (by decide) (by decide)
  have l2:=XI (b:=1) (show i≤500 by omega) (by decide) (by decide)
  have e0:aI (i:Int) L=L[i]:=by
   simp only [aI,q9,List.getElem?_eq_getElem hi];rfl
  have hx:=hk _ (List.getElem_mem hi)
  rcases hx with⟨g1,g2,g3⟩ | ⟨g1,g2,g3⟩
  ·have a1:leI L[i].1 3=true:=du (by omega)
   obtain⟨t1,t2⟩:=aaC (k:=L[i].1) (i:=L[i].2.1) (b:=L[i].2.2) hT (by omega) (by omega) (by omega)
   have e2:rP (i:Int) L n ps= [ruS ps.length n L[i]]:=by
    simp only [rP,e0];rw [t1]
   simp only [ii,yg,vU,zT,zU,sN,sO,sP,zV,zW,zX,sQ,rN,rO,yj,yk,ym,yo,yp,cK,e0,e2,a1,t2,LT.out,allT,h3,h4,h5,hw,l1,l2,hmi,Ku hi,q9,
    List.length_map,List.length_take,w6,w7,Nat.zero_add,cond_true,Bool.not_true,Bool.false_or,Bool.true_or]
  ·have a1:leI L[i].1 3=false:=abe (by omega)
   obtain⟨t1,t2⟩:=aaz (k:=L[i].1) (b:=L[i].2.1) (d:=L[i].2.2) hT (by omega) (by omega) (by omega)
   have e2:rQ (i:Int) L n ps= [ruS ps.length n L[i]]:=by
    simp only [rQ,e0];rw [t1]
   simp only [ii,yg,vU,zT,zU,sN,sO,sP,zV,zW,zX,sQ,rN,rO,yj,yk,ym,yo,yp,cK,e0,e2,a1,t2,LT.out,allT,h3,h4,h5,hw,l1,l2,hmi,Ku hi,q9,
    List.length_map,List.length_take,w6,w7,Nat.zero_add,cond_true,cond_false,Bool.not_false,Bool.false_or,Bool.true_or]
 ·have h3:ltI (L.length:Int) (L.length:Int)=false:=qW (by omega)
  simp only [aI,cK,rP,rQ,vU,zT,zU,sN,sO,sP,zV,zW,zX,sQ,rN,rO,yj,yk,ym,yo,yp,yg,ii,LT.out,h3,cond_false]
theorem aaB(n d:Int)(s:Bool)(ps:aek)(h:isR n d ps=true):
  Ep n d ps=stM n d ps∧Er n d s ps=(kL ps.length n.toNat d.toNat s).map (ruS ps.length n)∧Es n d s ps=true:=by
 obtain⟨hT,hd⟩:=Hj.1 h
 obtain⟨h1,h2,_⟩:=gt.1 hT
 obtain⟨m,rfl⟩:=Int.eq_ofNat_of_zero_le (show 0≤n by omega)
 obtain⟨k,rfl⟩:=Int.eq_ofNat_of_zero_le hd.1
 have hk:=IF (s:=s) h
 simp only [q9]at hk
 obtain⟨a1,a2⟩:=ady m ps (by omega) (by omega)
 obtain⟨b1,b2⟩:=adz m (j7 ps.length (3 * (m:Int))) ps ps (by omega) (by rw [w9];omega) (by omega)
 obtain⟨c1,c2⟩:=adA m k (kL ps.length m k s) ps hT (by omega) (by omega) (fun x hx=>by simpa only [q9] using UA hx)
 have l1:=xK (b:=1) (show ps.length + m≤500 by omega) (by decide) (by decide)
 have l2:=Hl (b:=1) (show ps.length + m≤500 by omega) (by decide) (by decide)
 have l4:leN ps.length 1048576=true:=qf (by omega)
 simp only [Hb,Hc,yT,Dc,Dd,Hd,AM,Ep,Er,Es,a1,a2,b1,b2,q9,c1,c2,l1,l2,l4,h,allT,stM,stV,List.append_assoc,w5,w9,w6,w7,Nat.zero_add,cond_true,and_self]
theorem aaA(v:aek)(g:aeg)(hg:g.length≤500)(h:inT v.length g):Eg v g=true:=by
 have kn:=jY.inv (fun k x=>x.1=(g.length:Int) - (k:Int)∧k≤g.length∧x.2=(g,v)) (fun _ _=>True) (fun k x hx=> ?_) (fun x hx=> ?_) g.length ((0:Int),g,v) (by omega) ⟨by simp,by omega,rfl⟩
 ·simp only [Eg,GR,kn.1,allT,cond_true]
 ·obtain⟨a,b,c⟩:=x
  obtain⟨h0,h1,h2⟩:=hx
  simp only at h0 h1 h2
  cases h2
  obtain⟨i,rfl⟩: ∃ i:Nat,a=(i:Int):=⟨g.length - (k + 1),by omega⟩
  have hi:i < g.length:=by omega
  have hw:IntKind.i64.wrap ((i:Int) + 1)=(i:Int) + 1:=aC (by omega) (by omega)
  have h3:ltI (i:Int) (g.length:Int)=true:=eV (by omega)
  have h4:leI 0 (i:Int)=true:=du (by omega)
  have h5:ltN i g.length=true:=lR hi
  have lV: ∀ d,z8 g[i]? d=g[i]:=fun d=>by rw [List.getElem?_eq_getElem hi];rfl
  have hv:=h _ (List.getElem_mem hi)
  have g1:leI 0 g[i].1=true:=du hv.1
  have g2:ltI g[i].1 (v.length:Int)=true:=eV hv.2
  have g3:ltN g[i].1.toNat v.length=true:=lR (by omega)
  cases hq:(!(z8 v[g[i].1.toNat]? 0==g[i].2.1)==g[i].2.2)with
  |true=>exact .inl ⟨0,by simp only [lm,qI,sL,sM,zO,zP,zQ,zR,zS,yf,jY,LT.out,allT,h3,h4,h5,lV,g1,g2,g3,hq,q9,cond_true],trivial⟩
  |false=>exact .inr ⟨((i:Int) + 1,g,v),by simp only [lm,qI,sL,sM,zO,zP,zQ,zR,zS,yf,jY,LT.out,allT,h3,h4,h5,lV,g1,g2,g3,hq,hw,q9,cond_true,cond_false],by simp only;omega,by omega,rfl⟩
 ·obtain⟨a,b,c⟩:=x
  obtain⟨h0,h1,h2⟩:=hx
  simp only at h0 h1 h2
  cases h2
  have h3:ltI a (g.length:Int)=false:=qW (by omega)
  exact⟨1,by simp only [lm,qI,sL,sM,zO,zP,zQ,zR,zS,yf,jY,LT.out,h3,cond_false],trivial⟩
def abT(m:Nat)(rs:List RuE):Prop:= ∀ r∈rs,(inT m r.2.1∧r.2.1.length≤24)∧(inA m r.2.2∧r.2.2.length≤4)
theorem acU(sz st v:aek)(rs:List RuE)(hr:rs.length≤500)(h:abT v.length rs):
  BD sz st rs v=true∧(bH sz st rs v).length≤500∧ ∀ x∈bH sz st rs v,0≤x∧x < rs.length:=by
 have kn:=ju.inv (fun k x=>x.1=(rs.length:Int) - (k:Int)∧k≤rs.length∧x.2.1=v∧(∀ e∈x.2.2.1,0≤e∧e < rs.length)∧x.2.2.1.length + k≤rs.length∧x.2.2.2=(sz,st,rs))
  (fun _ y=>(∀ e∈y.2.2.1,0≤e∧e < rs.length)∧y.2.2.1.length≤rs.length) (fun k x hx=> .inr ?_) (fun x hx=> ?_) rs.length ((0:Int),v,[],sz,st,rs) (by omega) ⟨by simp,by omega,rfl,by simp,by simp,rfl⟩
 ·obtain⟨k1,j,y,k2,k3,k4⟩:=kn
  simp only [EH,bH,BD,k1,k2,allT,cond_true,true_and]
  exact⟨by omega,k3⟩
 ·obtain⟨a,c,d,f,g,l⟩:=x
  obtain⟨h0,h1,h2,h3,h4,h5⟩:=hx
  simp only at h0 h1 h2 h3 h4 h5
  cases h5
  subst h2
  obtain⟨i,rfl⟩: ∃ i:Nat,a=(i:Int):=⟨rs.length - (k + 1),by omega⟩
  have hi:i < rs.length:=by omega
  have hw:IntKind.i64.wrap ((i:Int) + 1)=(i:Int) + 1:=aC (by omega) (by omega)
  have g3:ltI (i:Int) (rs.length:Int)=true:=eV (by omega)
  have g4:leI 0 (i:Int)=true:=du (by omega)
  have g5:ltN i rs.length=true:=lR hi
  have e0:nM (i:Int) rs=rs[i].2.1:=by
   unfold nM
   rw [q9,List.getElem?_eq_getElem hi];rfl
  obtain⟨⟨r1,r2⟩,_⟩:=h _ (List.getElem_mem hi)
  have hh:=aaA c rs[i].2.1 (by omega) r1
  have l1:=xK (b:=1) (show d.length≤500 by omega) (by decide) (by decide)
  have l2:=Hl (b:=1) (show d.length≤500 by omega) (by decide) (by decide)
  cases hq:AJ c rs[i].2.1 with
  |true=>
   refine⟨((i:Int) + 1,c,d++ [(i:Int)],sz,st,rs),?_,by simp only;omega,by omega,rfl,?_,by simp only [w5,w6,w7];omega,rfl⟩
   ·simp only [ju,wh,tz,xh,xj,xk,xl,xm,xo,tA,xt,e0,LT.out,allT,g3,g4,g5,hh,hq,hw,l1,l2,w6,w7,Nat.zero_add,q9,cond_true,Bool.not_true,Bool.false_or]
   ·intro e he
    rcases List.mem_append.1 he with he | he
    ·exact h3 e he
    ·simp at he;subst he;omega
  |false=>
   refine⟨((i:Int) + 1,c,d,sz,st,rs),?_,by simp only;omega,by omega,rfl,h3,by simp only;omega,rfl⟩
   simp only [ju,wh,tz,xh,xj,xk,xl,xm,xo,tA,xt,e0,LT.out,allT,g3,g4,g5,hh,hq,hw,q9,cond_true,cond_false,Bool.not_false,Bool.true_or]
 ·obtain⟨a,c,d,f,g,l⟩:=x
  obtain⟨h0,h1,h2,h3,h4,h5⟩:=hx
  simp only at h0 h1 h2 h3 h4 h5
  cases h5
  have g3:ltI a (rs.length:Int)=false:=qW (by omega)
  exact⟨0,by simp only [nM,tz,xh,xj,xk,xl,xm,xo,tA,xt,wh,ju,LT.out,g3,cond_false],h3,by simpa using h4⟩
theorem acT(rs:List RuE)(v:aek)(b:Int)(hr:rs.length≤500)(h:abT v.length rs)(hb:0≤b∧b < rs.length)(hv:v.length≤500):
  Ef b rs v=true∧(Ee b rs v).length=v.length:=by
 have MF:b.toNat < rs.length:=by omega
 have e0:CX b rs v=((0:Int),rs[b.toNat].2.2,v):=by
  unfold CX
  rw [List.getElem?_eq_getElem MF];rfl
 obtain⟨_,r1,r2⟩:=h _ (List.getElem_mem MF)
 generalize rs[b.toNat].2.2=es at e0 r1 r2
 have kn:=mT.iter (fun i=>((i:Int),es,apE v (es.take i))) 0 es.length (by omega) (fun i hi=> ?_) ?_
 ·simp only [show ((0:Nat):Int)=0 from rfl,List.take_zero,List.take_length,show apE v []=v from rfl]at kn
  have t1:leI 0 b=true:=du hb.1
  have t2:ltI b (rs.length:Int)=true:=eV hb.2
  have t3:ltN b.toNat rs.length=true:=lR MF
  have t4:leN v.length 1048576=true:=qf (by omega)
  simp only [Ee,Ef,e0,kn.1,kn.2,t1,t2,t3,t4,allT,cond_true,true_and]
  exact QO es v
 ·have hw:IntKind.i64.wrap ((i:Int) + 1)=((i + 1:Nat):Int):=mO hi (by omega)
  have h3:ltI (i:Int) (es.length:Int)=true:=eV (by omega)
  have h4:leI 0 (i:Int)=true:=du (by omega)
  have h5:ltN i es.length=true:=lR hi
  have lV: ∀ d,z8 es[i]? d=es[i]:=fun d=>by rw [List.getElem?_eq_getElem hi];rfl
  have hv2:=r1 _ (List.getElem_mem hi)
  have hl:=QO (es.take i) v
  have g1:leI 0 es[i].1=true:=du hv2.1
  have g2:ltI es[i].1 (v.length:Int)=true:=eV hv2.2
  have g3:ltN es[i].1.toNat v.length=true:=lR (by omega)
  simp only [pX,vL,zM,zN,EC,ED,EE,EF,EG,Dw,mT,LT.out,allT,hw,h3,h4,h5,lV,hl,g1,g2,g3,Xd hi,q9,cond_true]
 ·have h3:ltI (es.length:Int) (es.length:Int)=false:=qW (by omega)
  simp only [pX,vL,zM,zN,EC,ED,EE,EF,EG,Dw,mT,LT.out,h3,cond_false]
set_option maxHeartbeats 1000000
theorem acS{n:Int}{d:Nat}{s:Bool}{ps:aek}(hT:isT n ps=true):abT (ps.length + n.toNat + 1) ((kL ps.length n.toNat d s).map (ruS ps.length n)):=by
 obtain⟨h1,h2,_⟩:=gt.1 hT
 intro r hr
 obtain⟨x,hx,rfl⟩:=List.mem_map.1 hr
 obtain⟨r1,r2,r3⟩:=WQ (n:=n) (by omega:ps.length≤4) h1.1 (UA hx)
 obtain⟨t1,t2⟩:=abo r1
 have t3:=YW r2
 rw [Me]at t1 t3
 exact⟨⟨t1,t2⟩,t3,r3⟩
theorem acq(m:Nat)(sz st c v:aek)(rs:List RuE)(N:Nat)(hN:N≤13)(a s:Int)(hsrc:fY a s c=true)(hr:rs.length≤500)(h:abT m rs)(hm:m≤500)(hv:v.length=m):
  bU.fin ((N:Int),v,a,s,[],sz,st,rs,c)=true∧ ∃ j y,bU.res ((N:Int),v,a,s,[],sz,st,rs,c)=(j,y)∧fY y.2.2.1 y.2.2.2.1 c=true∧y.2.2.2.2.1.length≤14:=by
 refine bU.inv (fun k x=>x.1=(k:Int)∧k≤13∧x.2.1.length=m∧fY x.2.2.1 x.2.2.2.1 c=true∧x.2.2.2.2.1.length + k≤13∧x.2.2.2.2.2=(sz,st,rs,c))
  (fun _ y=>fY y.2.2.1 y.2.2.2.1 c=true∧y.2.2.2.2.1.length≤14) (fun k x hx=> ?_) (fun x hx=> ?_) N _ (by omega) ⟨rfl,hN,hv,hsrc,by simpa using hN,rfl⟩
 ·obtain⟨d,e,f,g,i,l,o,p,r⟩:=x
  obtain⟨h0,h1,h2,h3,h4,h5⟩:=hx
  simp only at h0 h1 h2 h3 h4 h5
  cases h5
  subst h0
  obtain⟨e1,e2,e3⟩:=acU sz st e rs hr (by rw [h2];exact h)
  have hw:IntKind.i64.wrap (((k + 1:Nat):Int) - 1)=(k:Int):=by rw [aC (by omega) (by omega)];omega
  have t1:ltI 0 ((k + 1:Nat):Int)=true:=eV (by omega)
  cases hz:(((bH sz st rs e).length:Int)==0)with
  |true=>
   exact .inl ⟨0,by simp only [bU,tM,uC,zY,zZ,LT.out,allT,t1,e1,hz,cond_true],h3,by simp only;omega⟩
  |false=>
   have hz1:((bH sz st rs e).length:Int)≠0:=by simpa using hz
   have n1:=UH (n:=((bH sz st rs e).length:Int)) h3 (by omega)
   have s1:=He (n:=((bH sz st rs e).length:Int)) h3
   have e0:rc e f g sz st rs c=nxV ((bH sz st rs e).length:Int) f g c:=rfl
   generalize hq:nxV ((bH sz st rs e).length:Int) f g c=q at n1 e0
   have hql:q.toNat < (bH sz st rs e).length:=by omega
   have ea:lQ e f g sz st rs c=(bH sz st rs e)[q.toNat]:=by
    simp only [lQ,e0,List.getElem?_eq_getElem hql];rfl
   have uL:=e3 _ (List.getElem_mem hql)
   generalize (bH sz st rs e)[q.toNat]=b at ea uL
   obtain⟨p1,p2⟩:=acT rs e b hr (by rw [h2];exact h) uL (by omega)
   have t2:leI 0 q=true:=du n1.1
   have t3:ltI q ((bH sz st rs e).length:Int)=true:=eV n1.2
   have t4:ltN q.toNat (bH sz st rs e).length=true:=lR hql
   have l1:=xK (b:=1) (show i.length≤500 by omega) (by decide) (by decide)
   have l2:=Hl (b:=1) (show i.length≤500 by omega) (by decide) (by decide)
   refine .inr ⟨_,by simp only [bU,tM,uC,zY,zZ,FP,FQ,FR,FS,FT,FU,FV,e0,ea,LT.out,allT,t1,e1,hz,h3,t2,t3,t4,l1,l2,p1,w6,w7,Nat.zero_add,cond_true,cond_false];rfl,?_,by omega,?_,?_,?_,rfl⟩
   ·exact hw
   ·simp only [Ff,ea];rw [p2];exact h2
   ·exact s1
   ·simp only [Fg,w5,w6,w7];omega
 ·obtain⟨d,e,f,g,i,l,o,p,r⟩:=x
  obtain⟨h0,h1,h2,h3,h4,h5⟩:=hx
  simp only at h0 h1 h2 h3 h4 h5
  cases h5
  subst h0
  exact⟨1,by simp only [bU,tM,uC,LT.out,show ltI 0 ((0:Nat):Int)=false from rfl,cond_false],h3,by simp only;omega⟩
theorem Wq(a s:Int)(c:aek)(h:fY a s c=true):
  uv a s c=true∧(ut a s c).length≤9∧(uu a s c).length≤202:=by
 obtain⟨d1,d2⟩:=RH a s c h
 have d3:=XC a s c h
 have hl5:(ut a s c).length≤9:=by
  simp only [ut,Bu,Bool.cond_self];exact d3
 cases h0:ao a s c with
 |true=>
  refine⟨?_,hl5,?_⟩
  ·simp only [uv,h0,d1,allT,Bool.true_or,cond_true]
  ·simp only [uu,h0,cond_true];simp
 |false=>
  have hR:isR (gj a s c) (ir a s c) (eX a s c)=true:=by
   have:Ga (gj a s c) (ir a s c) (eX a s c)=0:=by
    have:=h0
    simp only [ao,TY]at this
    simpa using this
   exact zp.1 this
  obtain⟨hT,hd⟩:=Hj.1 hR
  obtain⟨t1,t2,_⟩:=gt.1 hT
  obtain⟨m1,m2,m3⟩:=aaB (gj a s c) (ir a s c) (qo a s c) (eX a s c) hR
  have hk:=IF (s:=qo a s c) hR
  have n1:=UH (n:=14) d2 (by omega)
  have s1:=He (n:=14) d2
  obtain⟨r1,j,y,r2,r3,r4⟩:=acq ((eX a s c).length + (gj a s c).toNat + 1) (AM (gj a s c) (ir a s c) (eX a s c)) (iK a s c) c (iK a s c)
   (rb a s c) (nxV 14 (iu a s c) (lP a s c) c).toNat (by omega) (nxA 14 (iu a s c) c) (nxS 14 (iu a s c) (lP a s c) c) s1
   (by simp only [rb,m2,List.length_map];omega) (by simp only [rb,m2];exact acS hT) (by omega) (by simp only [iK,m1];rw [Hm])
  have e3:oT a s c=(((nxV 14 (iu a s c) (lP a s c) c).toNat:Int),iK a s c,nxA 14 (iu a s c) c,nxS 14 (iu a s c) (lP a s c) c,[],
    AM (gj a s c) (ir a s c) (eX a s c),iK a s c,rb a s c,c):=by
   simp only [oT]
   rw [show (((nxV 14 (iu a s c) (lP a s c) c).toNat:Nat):Int)=nxV 14 (iu a s c) (lP a s c) c by omega]
  have f1:Lp.fin bU (oT a s c)=true:=by rw [e3];exact r1
  have f2:Lp.res bU (oT a s c)=(j,y):=by rw [e3];exact r2
  have g6:cM a s c=y.2.2.1:=by simp only [cM,tB,f2]
  have g8:oU a s c=y.2.2.2.1:=by simp only [oU,xA,tB,f2]
  have g20:nO a s c=y.2.2.2.2.1:=by simp only [nO,xA,tB,f2]
  have s2:fY (cM a s c) (oU a s c) c=true:=by rw [g6,g8];exact r3
  have s3:Bv a s c=true:=He (n:=40) s2
  have n3:=UH (n:=2) (He (n:=40) s2) (by omega)
  have l20:(nO a s c).length≤14:=by rw [g20];exact r4
  have a22:200≤jv a s c∧jv a s c≤201:=by
   simp only [jv,nN];rw [aC (by omega) (by omega)];omega
  have q1:leN (iK a s c).length 1048576=true:=qf (by simp only [iK,m1];rw [Hm];omega)
  have q26:wl a s c=true:=by
   simp only [wl,s3,sG,WN,Bool.and_self,w8]
  have q27:wm a s c=true:=by
   simp only [wm];rw [qf (by simp only [qi,w6,w7];omega),w8]
  have q28:wn a s c=true:=by
   simp only [wn];rw [qf (by simp only [qi,w6,w7];omega),w8]
  have q29:wo a s c=true:=by simp only [wo,s3,w8]
  have q30:wq a s c=true:=by simp only [wq];rw [du (by omega),w8,w8]
  have q31:ws a s c=true:=by simp only [ws];rw [du (by omega),w8,w8]
  have q32:wt a s c=true:=by simp only [wt];rw [du (by omega),w8,w8]
  have q33:wu a s c=true:=by simp only [wu];rw [du (by omega),w8,w8]
  refine⟨?_,hl5,?_⟩
  ·simp only [uv,h0,d1,d2,m3,q1,f1,s2,q26,q27,q28,q29,q30,q31,q32,q33,allT,w8,cond_true]
  ·have h23:(wj a s c).length≤202:=by
    simp only [wj]
    cases bP a s c <;> cases cS a s c <;> simp only [cond_true,cond_false,w5,w9,qi,w6,w7] <;> omega
   simp only [uu,h0,cond_false,Bool.cond_self];exact h23
theorem PC(c:aek)(h:fY 0 0 c=true):xR c=true∧(af c).length≤9∧(aT c).length≤202:=by
 obtain⟨d1,d2,d3⟩:=Wq 0 (frS c) c (ZG c h).2
 exact⟨by simp only [xR,allT,h,d1,cond_true],d2,d3⟩
def DT:aem
 | [.one ⟨false,[.ref 0]⟩],[.row false 5 (.int .u8) a]=>some ⟨.tup [⟨true,[aen (aj a),.ref 1]⟩,⟨false,[aen (aS a)]⟩,⟨false,[.val (.bool (cB a))]⟩,⟨false,[.ref 2]⟩],[aet a],[aeq (af a),aeq (aT a)],[fY 0 0 a]⟩
 |_,_=>none
def xO:PF prog:=PF.alt Ks DT (by
 intro args es o h ec;unfold DT at h;split at h
 ·rename_i a
  cases h
  have ec:=Bq ec
  have hh:=(PC a ec).1
  have en:=hh
  exact yF rfl (tw en) rfl rfl rfl
 ·cases h)
section
variable (a:aek)
def qm:Bool:=Hw (aj a) (aS a) (cB a) (af a) (aT a)!=Hw (aj a) (aS a) (cB a) (af a) (aT a)
def cz:Bool:=bif qm a then true else !zC (evE (aj a) (aS a) (cB a) (af a) (aT a)) (evE (aj a) (aS a) (cB a) (af a) (aT a))
def cA:Bool:=Hw (aj a) (aS a) (cB a) (af a) (aT a)!=0
def cQ:Bool:=Ga (aj a) (aS a) (af a)!=0
def iD:aek:=bif isR (aj a) (aS a) (af a)then szM (z7 (af a)) (aj a) (z6 (aS a))else []
def iE:aek:=bif isR (aj a) (aS a) (af a)then stM (aj a) (aS a) (af a)else []
def iF:ad9:=bif isR (aj a) (aS a) (af a)then List.map (ruK (z7 (af a)) (aj a)) (kL (z7 (af a)) (z6 (aj a)) (z6 (aS a)) (cB a))else []
def bX:Bool:=qw (iD a) (iE a) (iF a) (aT a)!=0
def bY:Int:=(↑(z7 (mh (iD a) (iE a) (iF a) (aT a))):Int)
def mQ:Int:=j6 .i64 (bY a - (1:Int))
def bG:aek:=z8 (mh (iD a) (iE a) (iF a) (aT a))[z6 (mQ a)]? (tC aea)
def cU:Int:=j6 .i64 ((↑(z7 (af a)):Int) + aj a)
def gL:aeh:=bif !qm a&&true then evE (aj a) (aS a) (cB a) (af a) (aT a)else evE (aj a) (aS a) (cB a) (af a) (aT a)
def si:Bool:=bif FC (aj a) (af a) (gL a)==0 then CI (aj a) (af a) (bG a)==0 else false
def gM:Bool:=bif si a then eqT (aay (aj a) (af a) (gL a)) (CH (aj a) (af a) (bG a)) (rvP (aj a) (af a) (gL a)) (CJ (aj a) (af a) (bG a))else false
def lB:Bool:=bif pP a then true else bif cz a then false else bif cA a then true else bif cQ a then false else bif bX a then qw (iD a) (iE a) (iF a) (aT a)==5 else bif bY a==0 then false else bif ltI (↑(z7 (bG a)):Int) (cU a)then false else bif gM a then eqL (rvS (aj a) (af a) (gL a)) (bif gM a&&true then List.drop (z6 (↑(z7 (af a)):Int)) (List.take (z6 (cU a)) (bG a))else [])else false
def lC:Bool:=allT [pP a||fY 0 0 a,pP a||(!(!qm a&&true)||zD (evE (aj a) (aS a) (cB a) (af a) (aT a)) (evE (aj a) (aS a) (cB a) (af a) (aT a))),pP a||(cz a||(cA a||zq (iD a) (iE a) (iF a) (aT a))),pP a||(cz a||(cA a||(cQ a||(bX a||(bY a==0||leI 0 (mQ a)))))),pP a||(cz a||(cA a||(cQ a||(bX a||(bY a==0||ltI (mQ a) (bY a)))))),pP a||(cz a||(cA a||(cQ a||(bX a||(bY a==0||ltN (z6 (mQ a)) (z7 (mh (iD a) (iE a) (iF a) (aT a)))))))),pP a||(cz a||(cA a||(cQ a||(bX a||(bY a==0||CL (aj a) (af a) (bG a)))))),pP a||(cz a||(cA a||(cQ a||(bX a||(bY a==0||(ltI (↑(z7 (bG a)):Int) (cU a)||(!(si a&&true)||leN (z7 (rvP (aj a) (af a) (gL a))) 9223372036854775807))))))),pP a||(cz a||(cA a||(cQ a||(bX a||(bY a==0||(ltI (↑(z7 (bG a)):Int) (cU a)||(!(gM a&&true)||leI 0 (↑(z7 (af a)):Int)))))))),pP a||(cz a||(cA a||(cQ a||(bX a||(bY a==0||(ltI (↑(z7 (bG a)):Int) (cU a)||(!(gM a&&true)||leI (↑(z7 (af a)):Int) (cU a)))))))),pP a||(cz a||(cA a||(cQ a||(bX a||(bY a==0||(ltI (↑(z7 (bG a)):Int) (cU a)||(!(gM a&&true)||leI (cU a) (↑(z7 (bG a)):Int)))))))),pP a||(cz a||(cA a||(cQ a||(bX a||(bY a==0||(ltI (↑(z7 (bG a)):Int) (cU a)||(!(gM a&&true)||leN (z7 (rvS (aj a) (af a) (gL a))) 9223372036854775807)))))))]
end
def EX:aem
 | [.one ⟨false,[.ref 0]⟩],[.row false 5 (.int .u8) a]=>some ⟨aeo (.val (.bool (lB a))),[aet a],[],[lC a]⟩
 |_,_=>none
def Lc:PF prog:=PF.ofG prog (T3z [Ew,GK,GM,Dz,wN,Qv,xO,Cm,Cn,Ey,GJ]) [] bB 3 f3 func3 (fun c _=>LOk.nil c) EX (by
 intro _ _ _ h;unfold EX at h;split at h<;>cases h;kernel_rfl)
set_option maxHeartbeats 1000000
theorem acX{c:aek}(hb: ∀ (i:Nat) (x:Int),c[i]? =some x→0≤x∧x≤255)(h:pP c=false):fY 0 0 c=true:=by
 have:=Of.1 h
 refine Om.2 ⟨by omega,by omega,by omega,fun x hx=> ?_⟩
 obtain⟨i,hi⟩:=List.getElem?_of_mem hx
 exact hb i x hi
theorem WU(n d:Int)(s:Bool)(ps tr:aek)(h:isR n d ps=true)(ht:tr.length≤200)(uL:inK (kL ps.length n.toNat d.toNat s).length tr=true)
  (ho:Vq ps.length n (tr.map (atK (kL ps.length n.toNat d.toNat s))) (stM n d ps)=true):
  HR n ps (evW (kL ps.length n.toNat d.toNat s) tr)=true∧
  ∃ k,Wf ps.length n (tr.map (atK (kL ps.length n.toNat d.toNat s))) (stM n d ps)=stV (rvP n ps (evW (kL ps.length n.toNat d.toNat s) tr),rvS n ps (evW (kL ps.length n.toNat d.toNat s) tr)) k∧
   WD n ps.length d.toNat (rvP n ps (evW (kL ps.length n.toNat d.toNat s) tr),rvS n ps (evW (kL ps.length n.toNat d.toNat s) tr)) k:=by
 obtain⟨hT,hd⟩:=Hj.1 h
 obtain⟨h1,h2,h3⟩:=gt.1 hT
 have hi:WD n ps.length d.toNat (rv0 n ps) d:=by
  refine⟨hT,rfl,by simp only [rv0,w9];omega,fun x hx=> ?_,by omega⟩
  simp only [rv0,List.mem_replicate]at hx
  omega
 have hk: ∀ x∈tr.map (atK (kL ps.length n.toNat d.toNat s)),kOk ps.length n.toNat d.toNat x:=by
  intro x hx
  obtain⟨b,hb,rfl⟩:=List.mem_map.1 hx
  have hb2:=pa.1 (List.all_eq_true.1 uL _ hb)
  have MF:b.toNat < (kL ps.length n.toNat d.toNat s).length:=by omega
  refine UA (s:=s) ?_
  rw [show atK (kL ps.length n.toNat d.toNat s) b=(kL ps.length n.toNat d.toNat s)[b.toNat] by simp [atK,List.getElem?_eq_getElem MF]]
  exact List.getElem_mem MF
 obtain⟨e1,e2,k,e3,e4⟩:=Yh (tr.map (atK (kL ps.length n.toNat d.toNat s))) (rv0 n ps) d hi hk ho
 have YM:(tr.map (atK (kL ps.length n.toNat d.toNat s))).map evK=evW (kL ps.length n.toNat d.toNat s) tr:=by simp only [evW,List.map_map];rfl
 rw [YM]at e1 e2 e3 e4
 have hpre:JH n ps (evW (kL ps.length n.toNat d.toNat s) tr)=0:=by
  have a1:leN (evW (kL ps.length n.toNat d.toNat s) tr).length 200=true:=qf (by simp only [evW,List.length_map];omega)
  have a2:(evW (kL ps.length n.toNat d.toNat s) tr).all (KL n ps)=true:=List.all_eq_true.2 e1
  simp only [JH,hT,a1,a2,cond_true]
 have hg:HR n ps (evW (kL ps.length n.toNat d.toNat s) tr)=true:=by
  simp only [HR,FC,hpre,e2,show eqI 0 0=true from rfl,cond_true]
 have hp:(rvP n ps (evW (kL ps.length n.toNat d.toNat s) tr),rvS n ps (evW (kL ps.length n.toNat d.toNat s) tr))=UU n (evW (kL ps.length n.toNat d.toNat s) tr) (rv0 n ps):=by
  simp only [rvP,rvS,hg,cond_true]
 rw [hp]
 exact⟨hg,k,e3,e4⟩
theorem Qp(c:aek)(hb: ∀ (i:Nat) (x:Int),c[i]? =some x→0≤x∧x≤255):
  lB c=true∧lC c=true:=by
 cases hbig:pP c with
 |true=>simp [lB,lC,allT,hbig]
 |false=>
  have hsrc:=acX hb hbig
  obtain⟨_,hl3,hl4⟩:=PC c hsrc
  generalize hN:aj c=n
  generalize hD:aS c=d
  generalize hS:cB c=s
  generalize hP:af c=ps at hl3
  generalize hTr:aT c=tr at hl4
  have hel:(evE n d s ps tr).length≤500:=by
   simp only [evE]
   cases eqI (Hw n d s ps tr) 0 with
   |true=>simp only [cond_true,evW,List.length_map];omega
   |false=>simp
  obtain⟨k1,k2⟩:=aap (evE n d s ps tr) hel
  have a0:qm c=false:=by simp only [qm,hN,hD,hS,hP,hTr,bne_self_eq_false]
  have a1:cz c=false:=by simp only [cz,a0,hN,hD,hS,hP,hTr,k1,cond_false,Bool.not_true]
  have a2:cA c=(Hw n d s ps tr !=0):=by simp only [cA,hN,hD,hS,hP,hTr]
  cases hc:(Hw n d s ps tr !=0)with
  |true=>
   rw [hc]at a2
   simp only [lB,lC,allT,hbig,hsrc,a0,a1,a2,hN,hD,hS,hP,hTr,k2,w8,Bool.true_or,Bool.false_or,cond_true,cond_false,and_self]
  |false=>
   rw [hc]at a2
   have hc0:Hw n d s ps tr=0:=by simpa using hc
   have hR:isR n d ps=true:=by
    cases hr:isR n d ps with
    |true=>rfl
    |false=>
     simp only [Hw,hr,cond_false]at hc0
     rw [zp.1 hc0]at hr;cases hr
   simp only [Hw,hR,cond_true]at hc0
   have iM:leN tr.length 200=true:=by
    cases hr:leN tr.length 200 with
    |true=>rfl
    |false=>rw [hr]at hc0;simp at hc0
   rw [iM]at hc0
   have uL:inK (kL ps.length n.toNat d.toNat s).length tr=true:=by
    cases hr:inK (kL ps.length n.toNat d.toNat s).length tr with
    |true=>rfl
    |false=>rw [hr]at hc0;simp at hc0
   have ht:=sj.1 iM
   obtain⟨hT,hd⟩:=Hj.1 hR
   obtain⟨t1,t2,_⟩:=gt.1 hT
   have YM:evE n d s ps tr=evW (kL ps.length n.toNat d.toNat s) tr:=by
    simp only [evE,Hw,hR,iM,uL,cond_true,show eqI 0 0=true from rfl]
   have a3:cQ c=false:=by simp only [cQ,hN,hD,hP,zp.2 hR,bne_self_eq_false]
   have a4:iD c=szM ps.length n d.toNat:=by simp only [iD,hN,hD,hP,hR,cond_true]
   have a5:iE c=stM n d ps:=by simp only [iE,hN,hD,hP,hR,cond_true]
   have a6:iF c=(kL ps.length n.toNat d.toNat s).map (ruK ps.length n):=by simp only [iF,hN,hD,hS,hP,hR,cond_true]
   obtain⟨f1,f2,f3⟩:=aai n d s ps tr hR ht uL
   have a7:bX c=(qw (szM ps.length n d.toNat) (stM n d ps) ((kL ps.length n.toNat d.toNat s).map (ruK ps.length n)) tr !=0):=by simp only [bX,a4,a5,a6,hTr]
   have a12:gL c=evW (kL ps.length n.toNat d.toNat s) tr:=by simp only [gL,hN,hD,hS,hP,hTr,Bool.cond_self,YM]
   cases ho:Vq ps.length n (tr.map (atK (kL ps.length n.toNat d.toNat s))) (stM n d ps)with
   |false=>
    obtain⟨g1,g2⟩:=f3 ho
    have a7':bX c=true:=by rw [a7,g1];rfl
    simp only [lB,lC,allT,hbig,hsrc,a0,a1,a2,a3,a4,a5,a6,a7',g1,f1,hN,hD,hS,hP,hTr,k2,w8,Bool.true_or,Bool.false_or,cond_true,cond_false,beq_self_eq_true,and_self]
   |true=>
    obtain⟨g1,g2,g3⟩:=f2 ho
    obtain⟨u1,k,u2,u3⟩:=WU n d s ps tr hR ht uL ho
    generalize SM:evW (kL ps.length n.toNat d.toNat s) tr=es at a12 u1 u2 u3
    have a7':bX c=false:=by rw [a7,g1];rfl
    have a8:bY c=(tr.length:Int) + 1:=by simp only [bY,a4,a5,a6,hTr];rw [g2];omega
    have a9:mQ c=(tr.length:Int):=by simp only [mQ,a8];rw [aC (by omega) (by omega)];omega
    have a10:bG c=stV (rvP n ps es,rvS n ps es) k:=by
     simp only [bG,a4,a5,a6,a9,hTr,q9]
     rw [← u2,← g3,cuS,g2,Nat.add_sub_cancel]
     rfl
    have a11:cU c=(ps.length:Int) + n:=by simp only [cU,hN,hP];rw [aC (by omega) (by omega)]
    obtain⟨w1,w2,w3,w4⟩:=Zu n d k ps _ hT hd u3
    have hcode:FC n ps es=0:=by simpa [HR] using u1
    have a13:si c=true:=by simp only [si,hN,hP,a12,a10,hcode,w2,beq_self_eq_true,cond_true]
    have a14:gM c=true:=by
     simp only [gM,a13,hN,hP,a12,a10,w1,w3,aay,u1,cond_true];exact aaY n _
    have kg:=ZW (rvP n ps es,rvS n ps es) k
    have hPl:(rvP n ps es).length=ps.length:=u3.2.1
    have hSl:((rvS n ps es).length:Int)=n:=u3.2.2.1
    simp only at kg
    have r1:((tr.length:Int) + 1==0)=false:=by simp;omega
    have r2:ltI ((stV (rvP n ps es,rvS n ps es) k).length:Int) ((ps.length:Int) + n)=false:=qW (by omega)
    have r3:leI 0 (tr.length:Int)=true:=du (by omega)
    have r4:ltI (tr.length:Int) ((tr.length:Int) + 1)=true:=eV (by omega)
    have r5:ltN tr.length (mh (szM ps.length n d.toNat) (stM n d ps) ((kL ps.length n.toNat d.toNat s).map (ruK ps.length n)) tr).length=true:=lR (by rw [g2];omega)
    have r6:leN (rvP n ps es).length 9223372036854775807=true:=qf (by omega)
    have r7:leN (rvS n ps es).length 9223372036854775807=true:=qf (by omega)
    have r8:leI 0 (ps.length:Int)=true:=du (by omega)
    have r9:leI (ps.length:Int) ((ps.length:Int) + n)=true:=du (by omega)
    have r10:leI ((ps.length:Int) + n) ((stV (rvP n ps es,rvS n ps es) k).length:Int)=true:=du (by omega)
    have r11:List.drop ps.length (List.take ((ps.length:Int) + n).toNat (stV (rvP n ps es,rvS n ps es) k))=rvS n ps es:=by
     rw [show ((ps.length:Int) + n).toNat=(rvP n ps es).length + (rvS n ps es).length by omega,← hPl]
     simp [stV,List.take_append]
    simp only [lB,lC,allT,hbig,hsrc,a0,a1,a2,a3,a4,a5,a6,a7',a8,a9,a10,a11,a12,a13,a14,f1,w4,r1,r2,r3,r4,r5,r6,r7,r8,r9,r10,r11,hN,hD,hS,hP,hTr,k2,aaW,
     q9,Bool.not_true,Bool.not_false,Bool.and_self,w8,Bool.true_or,Bool.false_or,Bool.or_false,cond_true,cond_false,and_self]
theorem acL(c:aek)(w:wfD (.sl 5 (.int .u8)) c):lB c=true∧lC c=true:=
 Qp c fun _ _ hx=>adC (w.2 _ (List.mem_of_getElem? hx))
end Go.SX
