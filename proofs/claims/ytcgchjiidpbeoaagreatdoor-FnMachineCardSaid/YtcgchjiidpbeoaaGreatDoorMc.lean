/- What functions of the program come to, and what that says in plain words: part 3. -/
import Derived.Test.YtcgchjiidpbeoaaGreatDoorMb
import Derived.Test.YtcgchjiidpbeoaaGreatDoorTXh
import Derived.Test.YtcgchjiidpbeoaaGreatDoorProg
set_option linter.unusedSimpArgs false
set_option linter.unusedVariables false
open Bool renaming and_eq_true → q8
open Int renaming toNat_natCast → q9
open List renaming length_singleton → w5
open List renaming length_append → j6
open List renaming length_take → j7
open List renaming mem_append → j8
open List renaming length_cons → j9
open List renaming length_nil → k7
open Bool renaming or_true → k8
open Bool renaming cond_self → k9
open List renaming length_replicate → v5
open List renaming getElem?_eq_some_iff → v6
open Int renaming toNat → v7
open List renaming length → v8
open Option renaming getD → v9
open Go.IntKind renaming wrap → qqq
open List renaming replicate → qqw
open List renaming eq_of_mem_replicate → qqz
open List renaming mem_singleton → qqj
open List renaming length_set → qqk
namespace Go.SX
open Go.Proofs Go.Proofs.Tryz
set_option maxRecDepth 100000
theorem awP{i v o:Int}{bs:List TM}{st:List IN}(h:jR i v o bs st=true):((0≤i∧i≤20)∧(0≤v∧v≤20)∧(0≤o∧o≤20)∧bs.length≤2000∧st.length≤2000)∧acz bs=true∧agb i v o bs st=true:=by
 simp only [jR,q8]at h
 exact⟨Rp.1 h.1,h.2.1,h.2.2⟩
def asd(i v o:Int)(bs:List TM)(st:List IN)(xs:avu)(ss:List BS3)(l:at1):Int:=bif !jR i v o bs st then 1 else bif !(xF v bs xs ss&&l.all (bitsB i))then 2 else 0
def auJ(l:at1):Bool:=leN l.length 9223372036854775807&&l.all fun x=>leN x.length 9223372036854775807
def ayo(bs:List TM)(xs:avu)(l:at1):Bool:=leN xs.length 9223372036854775807&&(leN bs.length 9223372036854775807&&auJ l)
def jS(a:Int)(b:avu):(Unit)→Nat ⊕ (Unit)
 |_=>(bif(HF b a)then(.inl 0)else(.inr ()))
def dA(a b c:Int)(d:at1)(e:aor)(f:auv)(i:Nat):(Unit)→cg
 |_=>((i:Int),(↑d.length:Int),a,b,c,d,e,f)
def tp:cg→Unit
 |(_,_,_,_,_,_,_,_)=>()
theorem Qn(c e f:Int)(g:at1)(j:aor)(k:auv) (hn:g.length≤9223372036854775807) (hA: ∀ x∈g,x.length≤9223372036854775807):
  aD.fin ((0:Int),(↑g.length:Int),c,e,f,g,j,k)=true∧aD.res ((0:Int),(↑g.length:Int),c,e,f,g,j,k)=((bz (jS c) 1 g 0 ()).1,(dA c e f g j k) (bz (jS c) 1 g 0 ()).2.1 (bz (jS c) 1 g 0 ()).2.2):=by
 have oe:=aD.along (dA c e f g j k) tp (jS c) 1 (fun _ _=>True) g () (by trivial) (by simp only [aD,dA];omega) (fun i b a hb hI=> ?_) (fun a hI=> ?_)
 ·exact oe
 ·obtain⟨⟩:=a
  have hlt:=(v6.1 hb).1
  have nk: ∀ d,v9 g[i]? d=b:=fun d=>by rw [hb];rfl
  have hw:=Bv hlt hn
  have gr:ltI (i:Int) (g.length:Int)=true:=dL (by omega)
  have LW:leI (0:Int) (i:Int)=true:=bx (by omega)
  have sd:ltN i g.length=true:=er hlt
  refine⟨?_,?_,?_,?_⟩
  ·have hg2:dy (i:Int) g=b:=by simp only [dy,q9];exact nk _
   have h6:leN b.length 9223372036854775807=true:=aY (hA b (List.mem_of_getElem? hb))
   simp [jV,oH,oI,oJ,oK,jW,oL,jt,aD,LT.nds,allT,dA,HG,gr,LW,sd,hg2,h6]
  ·simp [dy,jV,oH,oI,oJ,oK,jW,oL,jt,aD,LT.each,dA,tp,hw]
  ·have hg2:dy (i:Int) g=b:=by simp only [dy,q9];exact nk _
   simp only [jV,jW,jt,aD,LT.fn,dA,tp,jS,q9,gr,hg2,cond_true]
  ·exact fun _ _=>trivial
 ·obtain⟨⟩:=a
  simp [dy,jV,oH,oI,oJ,oK,jW,oL,jt,aD,LT.out,dA]
theorem ayp(i v o:Int)(bs:List TM)(st:List IN)(xs:avu)(ss:List BS3)(l:at1)(h:ayo bs xs l=true):
  PS i v o bs st xs ss l=asd i v o bs st xs ss l∧PT i v o bs st xs ss l=true:=by
 simp only [ayo,auJ,q8,List.all_eq_true,eN]at h
 obtain⟨hx,hb,hl,hA⟩:=h
 have t1:leN xs.length 9223372036854775807=true:=aY hx
 have t2:leN bs.length 9223372036854775807=true:=aY hb
 obtain⟨w1,w2⟩:=Qn i v o l bs st hl hA
 rw [lA (P:=fun x=> !bitsB i x) (j:=0) (fun x=>rfl)]at w2
 have e5:(l.any fun x=> !bitsB i x)= !l.all (bitsB i):=by simp [List.all_eq_not_any_not]
 rw [e5]at w2
 have q: ∀ m:Nat,leI 0 (m:Int)=true:=fun m=>bx (by omega)
 have q2:leI 0 (-1)=false:=rfl
 simp only [PS,PT,uc,ud,wU,wV,lw,qj,w1,w2,t1,t2,asd,allT]
 cases hc:jR i v o bs st with
 |false=>exact⟨rfl,rfl⟩
 |true=>
  rw [(awP hc).2.1]
  cases xF v bs xs ss <;> cases l.all (bitsB i) <;> simp [Nat.beq,q,q2,dA]
def OX(i v o:Int)(bs:List TM)(st:List IN)(xs:avu)(ss:List BS3)(inp:avu):Int:=bif !jR i v o bs st then 1 else bif !(xF v bs xs ss&&bitsB i inp)then 2 else 0
def rcO(i v o:Int)(bs:List TM)(st:List IN)(xs:avu)(ss:List BS3)(inp:avu):avu:=bif OX i v o bs st xs ss inp==0 then(rnM o bs st inp xs ss).2.2.2.1 else []
def rcV(i v o:Int)(bs:List TM)(st:List IN)(xs:avu)(ss:List BS3)(inp:avu):avu:=bif OX i v o bs st xs ss inp==0 then(rnM o bs st inp xs ss).2.2.1 else []
def rcS(i v o:Int)(bs:List TM)(st:List IN)(xs:avu)(ss:List BS3)(inp:avu):List BS3:=bif OX i v o bs st xs ss inp==0 then(rnM o bs st inp xs ss).2.2.2.2 else []
def auR(bs:List TM)(xs inp:avu):Bool:=ayM bs&&(leN xs.length 1048576&&leN inp.length 1048576)
theorem axE(i v o:Int)(bs:List TM)(st:List IN)(xs:avu)(ss:List BS3)(inp:avu):(jR i v o bs st=false∧OX i v o bs st xs ss inp=1)∨(jR i v o bs st=true∧(xF v bs xs ss&&bitsB i inp)=false∧OX i v o bs st xs ss inp=2)∨
  (auo i v o bs st inp xs ss=true∧jR i v o bs st=true∧(xF v bs xs ss=true∧bitsB i inp=true)∧OX i v o bs st xs ss inp=0):=by
 simp only [OX,auo]
 cases jR i v o bs st with
 |false=>exact .inl ⟨rfl,rfl⟩
 |true=>
  cases xF v bs xs ss with
  |false=>exact .inr (.inl ⟨rfl,rfl,rfl⟩)
  |true=>
   cases bitsB i inp with
   |false=>exact .inr (.inl ⟨rfl,rfl,rfl⟩)
   |true=>exact .inr (.inr ⟨rfl,rfl,⟨rfl,rfl⟩,rfl⟩)
theorem aze(i v o:Int)(bs:List TM)(st:List IN)(xs:avu)(ss:List BS3)(inp:avu)(h:auR bs xs inp=true):
  aaU i v o bs st xs ss inp=OX i v o bs st xs ss inp∧aaV i v o bs st xs ss inp=rcO i v o bs st xs ss inp∧aaW i v o bs st xs ss inp=rcV i v o bs st xs ss inp∧
  aaX i v o bs st xs ss inp=rcS i v o bs st xs ss inp∧aaY i v o bs st xs ss inp=true:=by
 simp only [auR,q8]at h
 obtain⟨hT,hx,hi⟩:=h
 have hx:=eN.1 hx
 have hi:=eN.1 hi
 have t1:leN xs.length 9223372036854775807=true:=aY (by omega)
 have t2:leN bs.length 9223372036854775807=true:=aY (atT.1 hT).1
 have t3:leN inp.length 9223372036854775807=true:=aY (by omega)
 have hm:ayo bs xs [inp]=true:=by
  simp only [ayo,auJ,t1,t2,t3,List.all_cons,List.all_nil,Bool.and_true,Bool.true_and,w5];rfl
 obtain⟨m0,m1⟩:=ayp i v o bs st xs ss [inp] hm
 have e:asd i v o bs st xs ss [inp]=OX i v o bs st xs ss inp:=by simp only [asd,OX,List.all_cons,List.all_nil,Bool.and_true]
 rw [e]at m0
 simp only [aaU,aaV,aaW,aaX,aaY,Zr,HJ,m0,m1,rcO,rcV,rcS,allT]
 rcases axE i v o bs st xs ss inp with⟨h1,h2⟩ | ⟨h1,h3,h2⟩ | ⟨h1,h3,⟨h4,h5⟩,h2⟩
 ·rw [h2];simp
 ·rw [h2];simp
 ·rw [h2,h1];simp
def ahB:aAj
 | [.one ⟨true,[.val (.int .i64 a),.val (.int .i64 b),.val (.int .i64 c),.ref 0,.ref 1]⟩,.one ⟨true,[.ref 2,.ref 3]⟩,.one ⟨false,[.ref 4]⟩],[.row false 66 (.pair (.int .i64) (.pair (.str) (.int .i64))) d,.row false 60 (.pair (.int .i64) (.int .i64)) e,.row false 2 (.int .i64) f,.row false 84 (.pair (.int .i64) (.pair (.int .i64) (.int .i64))) g,.row false 2 (.int .i64) i]=>some ⟨.tup [⟨false,[.ref 5]⟩,⟨true,[.ref 6,.ref 7]⟩,⟨false,[aAk (OX a b c d e f g i)]⟩],[aAp d,aAx e,aAq f,aAz g,aAq i],[aAo (rcO a b c d e f g i),aAo (rcV a b c d e f g i),aAw (rcS a b c d e f g i)],[auR d f i]⟩
 |_,_=>none
def abi:PF prog:=PF.alt apY ahB (by
 intro args es o h cL;unfold ahB at h;split at h
 ·rename_i a b c d e f g i
  cases h
  have cL:=kO cL
  have hh:=aze a b c d e f g i cL
  obtain⟨e0,e1,e2,e3,en⟩:=hh
  exact qm rfl (jv en) (by simp only [e0] <;> rfl) rfl (by simp only [e1,e2,e3] <;> rfl)
 ·cases h)
def m0:MS:=(0,[],[],[],[])
def au8(ll:at1):Nat:=(ll.map v8).sum
theorem aws{k:Int}{s:aAi}{n:Int}(h:KE k s n=true):possB k n 0 0 0=true:=by
 obtain⟨h1,h2,h3⟩:=afr h
 have t:inR 0 0 n=true:=pR.2 (by omega)
 have t1:inR 0 0 1=true:=rfl
 rcases kinds h1 with rfl | rfl | rfl | rfl | rfl | rfl <;> simp [possB,dK,ak,MM,t,t1] <;> omega
def aiG(bs:List TM):List BS3:=qqw bs.length ((0:Int),(0:Int),(0:Int))
theorem auG{l:at1}(h:ltI 200 (l.length:Int)=false):l.length≤200:=by
 rcases Nat.lt_or_ge 200 l.length with h' | h'
 ·rw [dL (by omega)]at h;cases h
 ·exact h'
def sgO(ins vs os:List aAi)(g:aAi)(ls:List LN):at1→avu→List BS3→at1
 | [],_,_=> []
 |inp::r,xs,ss=>scO ins vs os g ls inp xs ss::sgO ins vs os g ls r (scV ins vs os ls inp xs ss) (scB ins vs os ls inp xs ss)
def sgM(ins vs os:List aAi)(ls:List LN):at1→avu→List BS3→avu×List BS3
 | [],xs,ss=>(xs,ss)
 |inp::r,xs,ss=>sgM ins vs os ls r (scV ins vs os ls inp xs ss) (scB ins vs os ls inp xs ss)
def zv(vs:List aAi):avu:=qqw vs.length 0
theorem avT{nm:aAi}{ins vs os:List aAi}{g:aAi}{ls:List LN}{xs:avu}{ss:List BS3}{inp:avu}(h:scG nm ins vs os g ls xs ss inp=true):
  xF vs.length (blL ls) (scV ins vs os ls inp xs ss) (scB ins vs os ls inp xs ss)=true∧(scO ins vs os g ls inp xs ss).length≤20:=by
 obtain⟨h1,h2,h3⟩:=aap.1 h
 have hS:=ak4 h1 h3
 obtain⟨a,b⟩:=asu (os:=os) (g:=g) h3 hS.hL h2
 have:=(dF.1 b).2
 have:=hS.h3
 exact⟨a,by omega⟩
theorem atK{nm:aAi}{ins vs os:List aAi}{g:aAi}{ls:List LN}(hS:gj nm ins vs os g ls=true): ∀ (r:at1) (xs:avu) (ss:List BS3),
  (∀ x∈r,bitsB ins.length x=true)→xF vs.length (blL ls) xs ss=true→
  (sgO ins vs os g ls r xs ss).length=r.length∧(∀ x∈sgO ins vs os g ls r xs ss,x.length≤20)∧xF vs.length (blL ls) (sgM ins vs os ls r xs ss).1 (sgM ins vs os ls r xs ss).2=true
 | [],_,_,_,hs=>⟨rfl,fun x hx=>(List.not_mem_nil hx).elim,hs⟩
 |inp::r,xs,ss,hA,hs=>by
  obtain⟨h1,h2⟩:=avT (aap.2 ⟨hS,hs,hA inp (by simp)⟩)
  obtain⟨g1,g2,g3⟩:=atK hS r _ _ (fun x hx=>hA x (by simp [hx])) h1
  refine⟨by simp [sgO,g1],fun x hx=> ?_,g3⟩
  rcases List.mem_cons.1 hx with rfl | hx
  ·exact h2
  ·exact g2 x hx
theorem asH{nm:aAi}{ins vs os:List aAi}{g:aAi}{ls:List LN}(hS:gj nm ins vs os g ls=true):xF vs.length (blL ls) (zv vs) (aiG (blL ls))=true:=by
 have hB:=apa ls (Vb hS).2.1
 refine aqv.2 ⟨by simp [aiG],dF.2 ⟨fun z hz=> .inl (qqz hz),by rw [zv,v5]⟩,fun k hk=> ?_⟩
 simp only [acz,List.all_eq_true]at hB
 have h1:stAt (aiG (blL ls)) k=(0,0,0):=by
  simp only [stAt,aiG]
  rw [List.getElem?_replicate,if_pos hk];rfl
 have h2:gB (blL ls) k∈blL ls:=by
  simp only [gB,List.getElem?_eq_getElem hk];exact List.getElem_mem hk
 simp only [possAt,h1]
 exact aws (hB _ h2)
def rgC(nm:aAi)(ins vs os:List aAi)(g:aAi)(ls:List LN)(l:at1):Int:=bif !gj nm ins vs os g ls then 1 else bif ltI 200 (l.length:Int)then 3 else bif !l.all (fun x=>bitsB ins.length x)then 2 else 0
def rgO(nm:aAi)(ins vs os:List aAi)(g:aAi)(ls:List LN)(l:at1):at1:=bif rgC nm ins vs os g ls l==0 then sgO ins vs os g ls l (zv vs) (aiG (blL ls))else []
def rgV(nm:aAi)(ins vs os:List aAi)(g:aAi)(ls:List LN)(l:at1):avu:=bif rgC nm ins vs os g ls l==0 then(sgM ins vs os ls l (zv vs) (aiG (blL ls))).1 else []
def rgB(nm:aAi)(ins vs os:List aAi)(g:aAi)(ls:List LN)(l:at1):List BS3:=bif rgC nm ins vs os g ls l==0 then(sgM ins vs os ls l (zv vs) (aiG (blL ls))).2 else []
def rgN(nm:aAi)(ins vs os:List aAi)(g:aAi)(ls:List LN)(l:at1):Bool:=adZ nm ins vs os g ls&&ayI 9223372036854775807 l
theorem atF(nm:aAi)(ins vs os:List aAi)(g:aAi)(ls:List LN)(l:at1):
  (gj nm ins vs os g ls=false∧rgC nm ins vs os g ls l=1)∨(gj nm ins vs os g ls=true∧ltI 200 (l.length:Int)=true∧rgC nm ins vs os g ls l=3)∨
  (gj nm ins vs os g ls=true∧ltI 200 (l.length:Int)=false∧l.all (fun x=>bitsB ins.length x)=false∧rgC nm ins vs os g ls l=2)∨
  (gj nm ins vs os g ls=true∧ltI 200 (l.length:Int)=false∧l.all (fun x=>bitsB ins.length x)=true∧rgC nm ins vs os g ls l=0):=by
 simp only [rgC]
 cases gj nm ins vs os g ls <;> cases ltI 200 (l.length:Int) <;> cases l.all (fun x=>bitsB ins.length x) <;> simp
def KH(a:List aAi)(b:avu):(Unit)→Nat ⊕ (Unit)
 |_=>(bif(!bitsB (↑a.length:Int) b)then(.inl 0)else(.inr ()))
def AW(a:at1)(b c:aAi)(d e f:List aAi)(g:aiJ)(j:avu)(k:as9)(i:Nat):(Unit)→sE
 |_=>((i:Int),a,b,c,d,e,f,g,j,k)
def Wc:sE→Unit
 |(_,_,_,_,_,_,_,_,_,_)=>()
theorem anO(c:at1)(e f:aAi)(g j k:List aAi)(l:aiJ)(m:avu)(n:as9) (hn:c.length≤9223372036854775807) (hA: ∀ x∈c,x.length≤9223372036854775807):
  jK.fin ((0:Int),c,e,f,g,j,k,l,m,n)=true∧jK.res ((0:Int),c,e,f,g,j,k,l,m,n)=((bz (KH g) 1 c 0 ()).1,(AW c e f g j k l m n) (bz (KH g) 1 c 0 ()).2.1 (bz (KH g) 1 c 0 ()).2.2):=by
 have oe:=jK.along (AW c e f g j k l m n) Wc (KH g) 1 (fun _ _=>True) c () (by trivial) (by simp only [jK,AW];omega) (fun i b a hb hI=> ?_) (fun a hI=> ?_)
 ·exact oe
 ·obtain⟨⟩:=a
  have hlt:=(v6.1 hb).1
  have nk: ∀ d,v9 c[i]? d=b:=fun d=>by rw [hb];rfl
  have hw:=Bv hlt hn
  have gr:ltI (i:Int) (c.length:Int)=true:=dL (by omega)
  have LW:leI (0:Int) (i:Int)=true:=bx (by omega)
  have sd:ltN i c.length=true:=er hlt
  refine⟨?_,?_,?_,?_⟩
  ·have hg2:xC (i:Int) c=b:=by simp only [xC,q9];exact nk _
   have h6:leN b.length 9223372036854775807=true:=aY (hA b (List.mem_of_getElem? hb))
   simp only [FI,Lx,Ly,Lz,LA,LB,Ik,jK,LT.nds,allT,AW,q9,gr,LW,sd,hg2,h6,cond_true,Bool.and_self]
   cases !bitsB (g.length:Int) b <;> rfl
  ·simp [xC,FI,Lx,Ly,Lz,LA,LB,Ik,jK,LT.each,AW,Wc,hw]
  ·have hg2:xC (i:Int) c=b:=by simp only [xC,q9];exact nk _
   simp only [FI,Lx,Ly,Lz,LA,LB,Ik,jK,LT.fn,AW,Wc,KH,q9,gr,hg2,cond_true]
  ·exact fun _ _=>trivial
 ·obtain⟨⟩:=a
  simp [xC,FI,Lx,Ly,Lz,LA,LB,Ik,jK,LT.out,AW]
def Cs(a:aAi)(d e f:List aAi)(g:aiJ)(b:avu):(at1×avu×as9)→Nat ⊕ (at1×avu×as9)
 |(c,i,j)=>(.inr ((c++([scO d e f a g b i j])),scV d e f g b i j,(scB d e f g b i j)))
def xE(a:at1)(b c:aAi)(e f g:List aAi)(j:aiJ)(i:Nat):(at1×avu×as9)→sF
 |(d,k,l)=>((i:Int),a,b,c,d,e,f,g,j,k,l)
def Wd:sF→at1×avu×as9
 |(_,_,_,_,a,_,_,_,_,b,c)=>(a,b,c)
theorem anP(c:at1)(e f:aAi)(j k l:List aAi)(m:aiJ)(g:at1)(n:avu)(o:as9)(hn:c.length≤9223372036854775807)(hC:gj e j k l f m=true)(hA: ∀ x∈c,bitsB j.length x=true)(h200:c.length≤200)(hS:xF k.length (blL m) n o=true)(h4:g.length=0):
  la.fin ((0:Int),c,e,f,g,j,k,l,m,n,o)=true∧la.res ((0:Int),c,e,f,g,j,k,l,m,n,o)=((bz (Cs f j k l m) 0 c 0 (g,n,o)).1,(xE c e f j k l m) (bz (Cs f j k l m) 0 c 0 (g,n,o)).2.1 (bz (Cs f j k l m) 0 c 0 (g,n,o)).2.2):=by
 have oe:=la.along (xE c e f j k l m) Wd (Cs f j k l m) 0 (fun i a=>xF k.length (blL m) a.2.1 a.2.2=true∧a.1.length=i) c (g,n,o) ⟨hS,h4⟩ (by simp only [la,xE];omega) (fun i b a hb hI=> ?_) (fun a hI=> ?_)
 ·exact oe
 ·obtain⟨g,n,o⟩:=a
  have hlt:=(v6.1 hb).1
  have nk: ∀ d,v9 c[i]? d=b:=fun d=>by rw [hb];rfl
  have hw:=Bv hlt hn
  have gr:ltI (i:Int) (c.length:Int)=true:=dL (by omega)
  have LW:leI (0:Int) (i:Int)=true:=bx (by omega)
  have sd:ltN i c.length=true:=er hlt
  refine⟨?_,?_,?_,?_⟩
  ·have hg2:re (i:Int) c=b:=by simp only [re,q9];exact nk _
   have hl:=hI.2
   have he:scG e j k l f m n o b=true:=aap.2 ⟨hC,hI.1,hA b (List.mem_of_getElem? hb)⟩
   have h6:leN (g.length + 1) 9223372036854775807=true:=aY (by simp only at hl;omega)
   have h7:leN ((g.length + 1) * 24) 140737488355328=true:=aY (by simp only at hl;omega)
   simp only [FJ,LC,LD,LF,LG,LH,LI,LJ,LK,LL,Il,la,AQ,LT.nds,allT,xE,gr,LW,sd,hg2,he,w5,h6,h7,q9,cond_true]
  ·simp [re,AQ,FJ,LC,LD,LF,LG,LH,LI,LJ,LK,LL,Il,la,LT.each,xE,Wd,hw]
  ·have hg2:re (i:Int) c=b:=by simp only [re,q9];exact nk _
   simp only [FJ,LC,LD,LF,LG,LH,LI,LJ,LK,LL,Il,la,AQ,LT.fn,xE,Wd,Cs,q9,gr,hg2,cond_true]
  ·intro a' hf
   simp only [Cs,Sum.inr.injEq]at hf
   subst hf
   have he:scG e j k l f m n o b=true:=aap.2 ⟨hC,hI.1,hA b (List.mem_of_getElem? hb)⟩
   exact⟨(avT he).1,by have hl:=hI.2;simp only at hl;simp [hl]⟩
 ·obtain⟨g,n,o⟩:=a
  simp [re,AQ,FJ,LC,LD,LF,LG,LH,LI,LJ,LK,LL,Il,la,LT.out,xE]
theorem avY{ins vs os:List aAi}{g:aAi}{ls:List LN}{f:avu→at1×avu×List BS3→Nat ⊕ (at1×avu×List BS3)}
  (hf: ∀ b a,f b a= .inr (a.1++ [scO ins vs os g ls b a.2.1 a.2.2],scV ins vs os ls b a.2.1 a.2.2,scB ins vs os ls b a.2.1 a.2.2)) {e:Nat}:
  ∀ (r:at1) (i:Nat) (acc:at1) (xs:avu) (ss:List BS3),bz f e r i (acc,xs,ss)=(e,i + r.length,acc++sgO ins vs os g ls r xs ss,sgM ins vs os ls r xs ss)
 | [],i,acc,xs,ss=>by simp [bz,sgO,sgM]
 |b::r,i,acc,xs,ss=>by
  simp only [bz,hf]
  rw [avY hf r]
  simp only [sgO,sgM,List.append_assoc,List.singleton_append,j9]
  congr 2
  omega
theorem zvs(vs:List aAi):qqw (v7 (vs.length:Int)) (0:Int)=zv vs:=by rw [q9];rfl
theorem zbs(ls:List LN):qqw (v7 ((blL ls).length:Int)) ((0:Int),(0:Int),(0:Int))=aiG (blL ls):=by rw [q9];rfl
theorem azr(nm:aAi)(ins vs os:List aAi)(g:aAi)(ls:List LN)(l:at1)(h:rgN nm ins vs os g ls l=true):
  Yn nm g ins vs os ls l=rgC nm ins vs os g ls l∧ad5 nm g ins vs os ls l=rgO nm ins vs os g ls l∧Yo nm g ins vs os ls l=rgV nm ins vs os g ls l∧
  Yp nm g ins vs os ls l=rgB nm ins vs os g ls l∧Yq nm g ins vs os ls l=true:=by
 simp only [rgN,q8]at h
 obtain⟨hT,hl⟩:=h
 obtain⟨hn,hA⟩:=axM.1 hl
 obtain⟨w1,w2⟩:=anO l nm g ins vs os ls [] [] hn hA
 rw [lA (P:=fun x=> !bitsB ins.length x) (j:=0) (fun x=>rfl)]at w2
 have e5:(l.any fun x=> !bitsB ins.length x)= !l.all (fun x=>bitsB ins.length x):=by simp [List.all_eq_not_any_not]
 rw [e5]at w2
 have e1:ab4 nm g ins vs os ls l=((0:Int),l,nm,g,ins,vs,os,ls,[],[]):=rfl
 have e2:DX nm g ins vs os ls l= !l.all (fun x=>bitsB ins.length x):=by
  simp only [DX,e1,w2]
  cases l.all (fun x=>bitsB ins.length x) <;> rfl
 have e3:WI nm g ins vs os ls l=((0:Int),l,nm,g,[],ins,vs,os,ls,zv vs,aiG (blL ls)):=by simp only [WI,ZN,ZO,zvs,zbs]
 simp only [Yn,ad5,Yo,Yp,Yq,DW,ab5,ab6,e1,e2,e3,w1,hT,rgO,rgV,rgB,allT]
 rcases atF nm ins vs os g ls l with⟨h1,h2⟩ | ⟨h1,h3,h2⟩ | ⟨h1,h3,h4,h2⟩ | ⟨h1,h3,h4,h2⟩
 ·rw [h1,h2];simp
 ·rw [h1,h2,h3];simp
 ·rw [h1,h2,h3,h4];simp
 ·have hA2: ∀ x∈l,bitsB ins.length x=true:=List.all_eq_true.1 h4
  have hS:=asH h1
  obtain⟨v1,v2⟩:=anP l nm g ins vs os ls [] (zv vs) (aiG (blL ls)) (by have:=auG h3;omega) h1 hA2 (auG h3) hS rfl
  rw [avY (ins:=ins) (vs:=vs) (os:=os) (g:=g) (ls:=ls) (f:=Cs g ins vs os ls) (fun b a=>rfl)]at v2
  have hX:=ak4 (inp:=qqw ins.length 0) h1 (dF.2 ⟨fun z hz=> .inl (qqz hz),by simp⟩)
  have hb:=hX.bl
  have hv:=hX.h2
  have u1:leI 0 (vs.length:Int)=true:=bx (by omega)
  have u2:leI (vs.length:Int) (vs.length:Int)=true:=bx (by omega)
  have u3:leI ((↑(8:Nat):Int) * (vs.length:Int)) 281474976710656=true:=bx (by omega)
  have u4:leI (vs.length:Int) 9223372036854775807=true:=bx (by omega)
  have u5:leI 0 ((blL ls).length:Int)=true:=bx (by omega)
  have u6:leI ((blL ls).length:Int) ((blL ls).length:Int)=true:=bx (by omega)
  have u7:leI ((↑(24:Nat):Int) * ((blL ls).length:Int)) 281474976710656=true:=bx (by omega)
  have u8:leI ((blL ls).length:Int) 9223372036854775807=true:=bx (by omega)
  have hLn:=(Wa.1 hT).2.2.2.2.2.2
  have f2:TN vs ls=true:=by simp only [TN,u1,u2,u3,u4,u5,u6,u7,u8,hLn,allT,cond_true]
  rw [h1,h2,h3,h4,v1,v2,f2]
  simp [xE]
theorem awy(nm:aAi)(ins vs os:List aAi)(g:aAi)(ls:List LN)(l:at1)(h:rgN nm ins vs os g ls l=true):abx nm g ins vs os ls l=rgC nm ins vs os g ls l∧aby nm g ins vs os ls l=rgV nm ins vs os g ls l∧abz nm g ins vs os ls l=rgB nm ins vs os g ls l∧Uv nm g ins vs os ls l=true:=by
 obtain⟨s0,s1,s2,s3,s4⟩:=azr nm ins vs os g ls l h
 exact⟨s0,s2,s3,by simp only [Uv,s4,allT,cond_true]⟩
def aaK:aAj
 | [.one ⟨true,[.val (.string a),.ref 0,.ref 1,.ref 2,.val (.string b),.ref 3]⟩,.one ⟨false,[.ref 4]⟩],[.row false 9 (.str) c,.row false 9 (.str) d,.row false 9 (.str) e,.row false 91 (.pair (.str) (.sl 66 (.pair (.int .i64) (.pair (.str) (.int .i64))))) f,.row false 28 (.sl 2 (.int .i64)) g]=>some ⟨.tup [⟨true,[.ref 5,.ref 6]⟩,⟨false,[aAk (rgC a c d e b f g)]⟩],[aAn c,aAn d,aAn e,aAt f,aAC g],[aAo (rgV a c d e b f g),aAw (rgB a c d e b f g)],[rgN a c d e b f g]⟩
 |_,_=>none
def CA:PF prog:=PF.alt ak0 aaK (by
 intro args es o h cL;unfold aaK at h;split at h
 ·rename_i a b c d e f g
  cases h
  have cL:=kO cL
  have hh:=awy a c d e b f g cL
  obtain⟨e0,e1,e2,en⟩:=hh
  exact qm rfl (jv en) (by simp only [e0] <;> rfl) rfl (by simp only [e1,e2] <;> rfl)
 ·cases h)
abbrev xm:=Int×List Int×Int×Int
section
variable (a:Int)(b:avu)
def Qc:Bool:=bif ltI a (↑b.length:Int)then ltI a 64 else false
def acV:Bool:=leI 0 a
def acW:Bool:=ltI a (↑b.length:Int)
def acX:Bool:=ltN a.toNat b.length
end
def acY:Bool:=neI 2147483647 0
def acZ(a:Int):Int:=qqq .i64 (a + (1:Int))
def ac0(a:Int)(b:avu)(c:Int):Int:=Int.tmod (qqq .i64 (qqq .i64 (c * (59:Int)) + qqq .i64 (v9 b[v7 a]? 0))) 2147483647
def akh:xm→List (Nat×SV)
 |(a,_,_,_)=> [(4,(aAm a)),(0,(aAl (.ref 0))),(3,(aAl (.ptr 1 0)))]
def aka:xm→List (Nat×Entry)
 |(_,a,b,c)=> [(0,(aAu a)),(1,(.box 76 [.ref 0,aAk b,aAk c]))]
def akv:Nat→xm→List (Nat×SV)
 |_,_=>[]
def Gr:xm→LT xm
 |(a,b,c,d)=> .ite (Qc a b) (.need [acV a,acW a b,acX a b,acY] (.nrm ((acZ a),b,c,(ac0 a b d)) [(0,0),(1,1)])) (.ext 0 [(0,0),(1,1)])
def Uo(s:St):Option xm:=do
 let some ⟨none,.one ⟨false,[.val (.int .i64 a)]⟩⟩:=s.look 4|none
 let some ⟨none,.one ⟨false,[.ref 0]⟩⟩:=s.look 0|none
 let some ⟨none,.one ⟨false,[.ptr 320 0]⟩⟩:=s.look 3|none
 let some (.row false 5 (.int IntKind.u8) b):=s.ent 0|none
 let some (.box 76 [.ref 0,.val (.int .i64 c),.val (.int .i64 d)]):=s.ent 320|none
 some (a,b,c,d)
def rL:Lp xm where
 h:=⟨[8,9,10,11,12,13,14,15,18,19,20,21,22,23,24,25,26,27,28,29,30,31,32,16,17,4],[0,1],[],[]⟩
 JL:=akh
 JE:=aka
 XL:=akv
 XE:=fun _=>aka
 q:=fun j=>match j with | _=> .exit 0
 tags:= [0]
 lt:=Gr
 fuel:=fun(a,b,c,d)=>a.natAbs + b.length + c.natAbs + d.natAbs
 fix:=fun(_,b,c,_) (a,_,_,d)=>(a,b,c,d)
 σ:= [(0,0),(1,320)]
 rd:=Uo
theorem aic:LoopOk prog (fun k=>Nat.blt k Tryz.f15.ntmps) rL.F (bc f15 0):=by
 refine Lp.ok (tbl:= []) (lf:= []) aU rL (by kernel_rfl) (LOk.nil _) (fun _=>rfl) (fun _ _=>rfl) ?_ ?_ ?_ ?_ (fun _=>rfl) ?_
 ·intro _;kernel_rfl
 ·intro _;kernel_rfl
 ·intro s x h
  have h:Uo s=some x:=h
  unfold Uo at h
  repeat' split at h
  all_goals cases h
  constructor<;>repeat(first|refine ab ‹_› rfl ?_|refine aa rfl ‹_› rfl ?_|rfl)
 ·intro _;kernel_rfl
 ·intro _ _;exact(And.intro rfl trivial)
section
variable (a:avu)
def NQ:Int×avu×Int×Int:=((0:Int),a,(0:Int),(52021:Int))
def Rq:Int:=(Lp.res rL (NQ a)).2.2.2.2
def Wo:Bool:=allT [Lp.fin rL (NQ a)]
end
def ahd:aAj
 | [.one ⟨false,[.ref 0]⟩],[.row false 5 (.int .u8) a]=>some ⟨aAl (.ptr 1 0),[aAu a],[.box 76 [.ref 0,aAk 0,aAk (Rq a)]],[Wo a]⟩
 |_,_=>none
def ap5:PF prog:=PF.ofG prog [] [rL.F] aU 15 f15 func15 (LOk.fnT (l:= [bc f15 0]) (by kernel_rfl) (.cons aic (.nil _))) ahd (by
 intro _ _ _ h;unfold ahd at h;split at h<;>cases h;kernel_rfl)
section
variable (a b c:Int)(d:avu)
def HP:Int:=qqq .i64 (b + (1:Int))
def NR:Bool:=bif leI a 256 then Int.tmod (HP b) 2==0 else false
def HQ:Int:=qqq .i64 (HP b - (1:Int))
def Bq:Int:=Int.tmod (qqq .i64 (qqq .i64 (c * (48271:Int)) + (29:Int))) 2147483647
def nt:Int:=bif leI a 1 then(0:Int)else Int.tmod (bif ltI b (↑d.length:Int)then bif NR a b then qqq .i64 (v9 d[v7 (HQ b)]? 0)else qqq .i64 (qqq .i64 (Int.tdiv (Bq c) 31) + qqq .i64 (v9 d[v7 b]? 0))else qqq .i64 (Int.tdiv (Bq c) 31)) a
def GF:Int:=bif leI a 1 then b else bif ltI b (↑d.length:Int)then HP b else b
def GG:Int:=bif leI a 1 then c else bif ltI b (↑d.length:Int)then Bq c else Bq c
def GH:Bool:=allT [leI a 1||neI 2147483647 0,leI a 1||neI 31 0,leI a 1||(!ltI b (↑d.length:Int)||leI 0 b),leI a 1||(!ltI b (↑d.length:Int)||ltI b (↑d.length:Int)),leI a 1||(!ltI b (↑d.length:Int)||ltN b.toNat d.length),leI a 1||(!ltI b (↑d.length:Int)||(!(leI a 256&&true)||neI 2 0)),leI a 1||(!ltI b (↑d.length:Int)||(!NR a b||leI 0 (HQ b))),leI a 1||(!ltI b (↑d.length:Int)||(!NR a b||ltI (HQ b) (↑d.length:Int))),leI a 1||(!ltI b (↑d.length:Int)||(!NR a b||ltN (v7 (HQ b)) d.length)),leI a 1||neI a 0]
end
def ahe:aAj
 | [.one ⟨false,[.ptr 0 0]⟩,.one ⟨false,[.val (.int .i64 a)]⟩],[.box 76 [.ref 1,.val (.int .i64 b),.val (.int .i64 c)],.row false 5 (.int .u8) d]=>some ⟨aAm (nt a b c d),[.box 76 [.ref 1,aAk (GF a b d),aAk (GG a b c d)],aAu d],[],[GH a b d]⟩
 |_,_=>none
def VW:PF prog:=PF.ofG prog [] [] aU 37 f37 func37 (fun c _=>LOk.nil c) ahe (by
 intro _ _ _ h;unfold ahe at h;split at h<;>cases h;kernel_rfl)
section
variable (a b:Int)(c d:avu)
def Wp:Int:=v9 c[v7 (nt (↑c.length:Int) a b d)]? 0
def abI:Int:=GF (↑c.length:Int) a d
def abJ:Int:=GG (↑c.length:Int) a b d
def Wq:Bool:=allT [GH (↑c.length:Int) a d,leI 0 (nt (↑c.length:Int) a b d),ltI (nt (↑c.length:Int) a b d) (↑c.length:Int),ltN (v7 (nt (↑c.length:Int) a b d)) c.length]
end
def ahf:aAj
 | [.one ⟨false,[.ptr 0 0]⟩,.one ⟨false,[.ref 1]⟩],[.box 76 [.ref 2,.val (.int .i64 a),.val (.int .i64 b)],.row false 2 (.int .i64) c,.row false 5 (.int .u8) d]=>some ⟨aAm (Wp a b c d),[.box 76 [.ref 2,aAk (abI a c d),aAk (abJ a b c d)],aAq c,aAu d],[],[Wq a b c d]⟩
 |_,_=>none
def ap6:PF prog:=PF.ofG prog (T3z [VW]) [] aU 43 f43 func43 (fun c _=>LOk.nil c) ahf (by
 intro _ _ _ h;unfold ahf at h;split at h<;>cases h;kernel_rfl)
def aG(a s:Int)(c:avu):Bool:=(leI 0 a&&leI a 4096)&&((leI 0 s&&ltI s 2147483647)&&(leN c.length 4096&&c.all fun x=>inR x 0 255))
theorem aiU{a s:Int}{c:avu}:aG a s c=true↔(0≤a∧a≤4096)∧(0≤s∧s < 2147483647)∧c.length≤4096∧ ∀ x∈c,0≤x∧x≤255:=by
 simp only [aG,q8,zJ,Sa,eN,List.all_eq_true,pR]
theorem aeV{x n:Int}(h:0≤x)(hn:0 < n):0≤Int.tmod x n∧Int.tmod x n < n:=by
 rw [Int.tmod_eq_emod_of_nonneg h]
 exact⟨Int.emod_nonneg _ (by omega),Int.emod_lt_of_pos _ hn⟩
theorem awO{code:avu}(hb: ∀ x∈code,0≤x∧x≤255)(i:Nat):0≤(code[i]?.getD 0)∧(code[i]?.getD 0)≤255:=by
 cases h:code[i]? with
 |none=>simp
 |some x=>exact hb x (List.mem_of_getElem? h)
def nxV(n a s:Int)(c:avu):Int:=nt n a s c
def nxA(n a:Int)(c:avu):Int:=GF n a c
def nxS(n a s:Int)(c:avu):Int:=GG n a s c
theorem amx(n:Int){a s:Int}{code:avu}(h:aG a s code=true):
  GH n a code=true∧aG (nxA n a code) (nxS n a s code) code=true∧0≤nxV n a s code∧(1≤n→nxV n a s code < n):=by
 obtain⟨⟨h0,h1⟩,⟨s0,s1⟩,hn,hb⟩:=aiU.1 h
 have hw1:IntKind.i64.wrap (s * 48271)=s * 48271:=wrap_i64 (by omega) (by omega)
 have hw2:IntKind.i64.wrap (s * 48271 + 29)=s * 48271 + 29:=wrap_i64 (by omega) (by omega)
 have hw3:IntKind.i64.wrap (a + 1)=a + 1:=wrap_i64 (by omega) (by omega)
 have hw4:IntKind.i64.wrap (a + 1 - 1)=a:=by rw [wrap_i64 (by omega) (by omega)];omega
 obtain⟨t0,t1⟩:=aeV (x:=s * 48271 + 29) (n:=2147483647) (by omega) (by omega)
 have hd0:0≤Int.tdiv (Int.tmod (s * 48271 + 29) 2147483647) 31:=Int.tdiv_nonneg t0 (by omega)
 have hd1:Int.tdiv (Int.tmod (s * 48271 + 29) 2147483647) 31≤2147483647:=by
  rw [Int.tdiv_eq_ediv_of_nonneg t0];omega
 have hw7:IntKind.i64.wrap (Int.tdiv (Int.tmod (s * 48271 + 29) 2147483647) 31)=Int.tdiv (Int.tmod (s * 48271 + 29) 2147483647) 31:=wrap_i64 (by omega) (by omega)
 have q1:neI 2147483647 0=true:=by decide
 have q2:neI 31 0=true:=by decide
 have q3:neI 2 0=true:=by decide
 simp only [nxA,nxS,nxV]
 by_cases hq:n≤1
 ·have d:leI n 1=true:=bx hq
  refine⟨by simp [GH,allT,d],?_,by simp [nt,d],fun h=>by simp [nt,d];omega⟩
  simp only [GF,GG,d,cond_true]
  exact h
 ·have d:leI n 1=false:=aj0 (by omega)
  have q4:neI n 0=true:=azP (by omega)
  by_cases hl:a < (code.length:Int)
  ·have dl:ltI a (code.length:Int)=true:=dL hl
   obtain⟨c0,c1⟩:=awO hb a.toNat
   have hw5:IntKind.i64.wrap (code[a.toNat]?.getD 0)=code[a.toNat]?.getD 0:=wrap_i64 (by omega) (by omega)
   have hw6:IntKind.i64.wrap (Int.tdiv (Int.tmod (s * 48271 + 29) 2147483647) 31 + code[a.toNat]?.getD 0)=Int.tdiv (Int.tmod (s * 48271 + 29) 2147483647) 31 + code[a.toNat]?.getD 0:=wrap_i64 (by omega) (by omega)
   have dn:ltN a.toNat code.length=true:=er (by omega)
   have dz:leI 0 a=true:=bx h0
   have hwa:IntKind.i64.wrap a=a:=wrap_i64 (by omega) (by omega)
   refine⟨?_,?_,?_⟩
   ·simp [GH,HP,HQ,allT,d,dl,dn,hw3,hw4,hwa,dz,q1,q2,q3,q4]
   ·simp only [GF,GG,HP,Bq,d,dl,cond_true,cond_false,hw1,hw2,hw3]
    exact aiU.2 ⟨⟨by omega,by omega⟩,⟨t0,t1⟩,hn,hb⟩
   ·simp only [nt,NR,HQ,HP,Bq,d,dl,cond_true,cond_false,hw1,hw2,hw3,hw4,hw5,hw7,hw6]
    cases (bif leI n 256 then Int.tmod (a + 1) 2==0 else false)with
    |true=>
     obtain⟨m0,m1⟩:=aeV (x:=code[a.toNat]?.getD 0) (n:=n) c0 (by omega)
     exact⟨m0,fun _=>m1⟩
    |false=>
     obtain⟨m0,m1⟩:=aeV (x:=Int.tdiv (Int.tmod (s * 48271 + 29) 2147483647) 31 + code[a.toNat]?.getD 0) (n:=n) (by omega) (by omega)
     exact⟨m0,fun _=>m1⟩
  ·have dl:ltI a (code.length:Int)=false:=Ej (by omega)
   refine⟨?_,?_,?_⟩
   ·simp [GH,allT,d,dl,q1,q2,q4]
   ·simp only [GF,GG,Bq,d,dl,cond_false,hw1,hw2]
    exact aiU.2 ⟨⟨h0,h1⟩,⟨t0,t1⟩,hn,hb⟩
   ·simp only [nt,Bq,d,dl,cond_false,hw1,hw2,hw7]
    obtain⟨m0,m1⟩:=aeV (x:=Int.tdiv (Int.tmod (s * 48271 + 29) 2147483647) 31) (n:=n) hd0 (by omega)
    exact⟨m0,fun _=>m1⟩
theorem aoy(a b c:Int)(d:avu)(h:aG b c d=true):nt a b c d=nxV a b c d∧GF a b d=nxA a b d∧GG a b c d=nxS a b c d∧GH a b d=true:=⟨rfl,rfl,rfl,(amx a h).1⟩
def ahH:aAj
 | [.one ⟨false,[.ptr 0 0]⟩,.one ⟨false,[.val (.int .i64 a)]⟩],[.box 76 [.ref 1,.val (.int .i64 b),.val (.int .i64 c)],.row false 5 (.int .u8) d]=>some ⟨aAm (nxV a b c d),[.box 76 [.ref 1,aAk (nxA a b d),aAk (nxS a b c d)],aAu d],[],[aG b c d]⟩
 |_,_=>none
def ai:PF prog:=PF.alt VW ahH (by
 intro args es o h cL;unfold ahH at h;split at h
 ·rename_i a b c d
  cases h
  have cL:=kO cL
  have hh:=aoy a b c d cL
  obtain⟨e0,e1,e2,en⟩:=hh
  exact qm rfl (jv en) (by simp only [e0] <;> rfl) (by simp only [e1,e2] <;> rfl) rfl
 ·cases h)
def pkV(a s:Int)(l c:avu):Int:=Wp a s l c
def pkA(a:Int)(l c:avu):Int:=abI a l c
def pkS(a s:Int)(l c:avu):Int:=abJ a s l c
theorem avP{a s:Int}{l code:avu}(h:(aG a s code&&leN 1 l.length)=true):
  Wq a s l code=true∧aG (pkA a l code) (pkS a s l code) code=true∧pkV a s l code∈l:=by
 simp only [q8,eN]at h
 obtain⟨n3,n1,n0,nl⟩:=amx (l.length:Int) h.1
 have nl:=nl (by omega)
 simp only [nxV]at n0 nl
 refine⟨?_,n1,?_⟩
 ·have t1:leI 0 (nt (l.length:Int) a s code)=true:=bx n0
  have t2:ltI (nt (l.length:Int) a s code) (l.length:Int)=true:=dL nl
  have t3:ltN (nt (l.length:Int) a s code).toNat l.length=true:=er (by omega)
  simp only [Wq,allT,n3,t1,t2,t3,cond_true]
 ·have hlt:(nt (l.length:Int) a s code).toNat < l.length:=by omega
  simp only [pkV,Wp,List.getElem?_eq_getElem hlt,Option.getD_some]
  exact List.getElem_mem hlt
theorem aoz(a b:Int)(c d:avu)(h:(aG a b d&&leN 1 c.length)=true):Wp a b c d=pkV a b c d∧abI a c d=pkA a c d∧abJ a b c d=pkS a b c d∧Wq a b c d=true:=⟨rfl,rfl,rfl,(avP h).1⟩
def ahI:aAj
 | [.one ⟨false,[.ptr 0 0]⟩,.one ⟨false,[.ref 1]⟩],[.box 76 [.ref 2,.val (.int .i64 a),.val (.int .i64 b)],.row false 2 (.int .i64) c,.row false 5 (.int .u8) d]=>some ⟨aAm (pkV a b c d),[.box 76 [.ref 2,aAk (pkA a c d),aAk (pkS a b c d)],aAq c,aAu d],[],[aG a b d&&leN 1 c.length]⟩
 |_,_=>none
def cQ:PF prog:=PF.alt ap6 ahI (by
 intro args es o h cL;unfold ahI at h;split at h
 ·rename_i a b c d
  cases h
  have cL:=kO cL
  have hh:=aoz a b c d cL
  obtain⟨e0,e1,e2,en⟩:=hh
  exact qm rfl (jv en) (by simp only [e0] <;> rfl) (by simp only [e1,e2] <;> rfl) rfl
 ·cases h)
def awf(b:Int)(a:Nat×Int):Nat ⊕ (Nat×Int):=bif decide (a.1 < 64)then .inr (a.1 + 1,Int.tmod (a.2 * 59 + b) 2147483647)else .inl 0
def frS(c:avu):Int:=Rq c
theorem avs(code:avu)(h:aG 0 0 code=true):Wo code=true∧aG 0 (frS code) code=true:=by
 obtain⟨_,_,hn,hb⟩:=aiU.1 h
 have oe:=aiQ (lt:=Gr) (fun i (a:Nat×Int)=>((i:Int),code,(0:Int),a.2)) awf 0 (fun i a=>a.1=i∧0≤a.2∧a.2 < 2147483647) code (fun i b a he hI=>⟨?_,fun a' hf=> ?_⟩) (fun a hI=> ?_) code 0 (0,52021) rfl (by simp) (by decide)
 ·have hres:=rL.run oe (adK (by simp only [rL];omega))
  have r1:rL.fin ((0:Int),code,(0:Int),(52021:Int))=true:=hres.1
  have r2:rL.res ((0:Int),code,(0:Int),(52021:Int))=_:=hres.2
  have inv: ∀ (r:avu) (i:Nat) (a:Nat×Int),(∀ x∈r,0≤x∧x≤255)→0≤a.2∧a.2 < 2147483647→0≤(bz awf 0 r i a).2.2.2∧(bz awf 0 r i a).2.2.2 < 2147483647:=by
   intro r
   induction r with
   |nil=>intro i a _ h;exact h
   |cons b r ih=>
    intro i a hx h
    simp only [bz,awf]
    cases decide (a.1 < 64)with
    |false=>exact h
    |true=>
     have hb:=hx b (by simp)
     exact ih _ _ (fun x hm=>hx x (by simp [hm])) (aeV (by omega) (by omega))
  obtain⟨q0,q1⟩:=inv code 0 (0,52021) hb (by decide)
  refine⟨by simp [Wo,NQ,allT,r1],aiU.2 ⟨by decide,⟨?_,?_⟩,hn,hb⟩⟩
  ·simp only [frS,Rq,NQ,r2];exact q0
  ·simp only [frS,Rq,NQ,r2];exact q1
 ·obtain⟨hlt,he⟩:=v6.1 he
  subst he
  obtain⟨h1,h2,h3⟩:=hI
  have hw:=Bv hlt (by omega)
  obtain⟨c0,c1⟩:=hb code[i] (List.getElem_mem hlt)
  have hw1:IntKind.i64.wrap (a.2 * 59)=a.2 * 59:=wrap_i64 (by omega) (by omega)
  have hw2:IntKind.i64.wrap code[i]=code[i]:=wrap_i64 (by omega) (by omega)
  have hw3:IntKind.i64.wrap (a.2 * 59 + code[i])=a.2 * 59 + code[i]:=wrap_i64 (by omega) (by omega)
  have q1:neI 2147483647 0=true:=by decide
  have q2:ltI (i:Int) (code.length:Int)=true:=dL (by omega)
  have q3:leI 0 (i:Int)=true:=bx (by omega)
  have q4:ltN i code.length=true:=er hlt
  simp only [awf,h1]
  by_cases h64:i < 64
  ·have d:decide (i < 64)=true:=decide_eq_true h64
   have d':ltI (i:Int) 64=true:=dL (by omega)
   simp [Gr,LT.out,allT,Qc,acV,acW,acX,acY,acZ,ac0,hlt,hw,d,d',hw1,hw2,hw3,q1,q2,q3,q4]
  ·have d:decide (i < 64)=false:=decide_eq_false h64
   have d':ltI (i:Int) 64=false:=Ej (by omega)
   simp [Gr,LT.out,Qc,d,d']
 ·simp only [awf]at hf
  obtain⟨h1,h2,h3⟩:=hI
  obtain⟨c0,c1⟩:=hb b (List.mem_of_getElem? he)
  cases hd:decide (a.1 < 64)with
  |false=>rw [hd]at hf;cases hf
  |true=>
   rw [hd]at hf
   simp only [cond_true,Sum.inr.injEq]at hf
   subst hf
   obtain⟨m0,m1⟩:=aeV (x:=a.2 * 59 + b) (n:=2147483647) (by omega) (by omega)
   exact⟨by simp [h1],m0,m1⟩
 ·simp [Gr,LT.out,Qc]
theorem aox(a:avu)(h:aG 0 0 a=true):Rq a=frS a∧Wo a=true:=⟨rfl,(avs a h).1⟩
def ahG:aAj
 | [.one ⟨false,[.ref 0]⟩],[.row false 5 (.int .u8) a]=>some ⟨aAl (.ptr 1 0),[aAu a],[.box 76 [.ref 0,aAk 0,aAk (frS a)]],[aG 0 0 a]⟩
 |_,_=>none
def abl:PF prog:=PF.alt ap5 ahG (by
 intro args es o h cL;unfold ahG at h;split at h
 ·rename_i a
  cases h
  have cL:=kO cL
  have hh:=aox a cL
  obtain⟨e0,en⟩:=hh
  exact qm rfl (jv en) rfl rfl (by simp only [e0] <;> rfl)
 ·cases h)
def PF.never{P:Program}(k:FuncId)(F:aAj)(h: ∀ args es o,F args es=some o→false∈o.nd):PF P where
 k:=k
 F:=F
 ok:=fun args es o ho cL=>absurd (cL _ (h args es o ho)) (by simp)
def Yx:aAj
 | [.one ⟨false,[.ptr 0 0]⟩,.one ⟨false,[.ref 1]⟩,.one ⟨false,[.val (.int .i64 _)]⟩],[.box 76 [.ref 2,.val (.int .i64 a),.val (.int .i64 b)],.row false 9 (.str) c,.row false 5 (.int .u8) d]=>
  some ⟨.one ⟨false,[.ref 3]⟩,[.box 76 [.ref 2,.val (.int .i64 a),.val (.int .i64 b)],.row false 9 (.str) c,.row false 5 (.int .u8) d],[.row true 66 (.pair (.int .i64) (.pair (.str) (.int .i64))) []],[false]⟩
 |_,_=>none
def Rh:PF prog:=PF.never 73 Yx (by
 intro args es o h;unfold Yx at h;split at h
 ·cases h;exact qqj.2 rfl
 ·cases h)
def ahc:aAj
 | [.one ⟨false,[.val (.int .i64 _)]⟩],[]=>some ⟨aAl (.val (.string ⟨#[]⟩)),[],[],[false]⟩
 |_,_=>none
def ap4:PF prog:=PF.never 72 ahc (by
 intro args es o h;unfold ahc at h;split at h
 ·cases h;exact qqj.2 rfl
 ·cases h)
section
variable (a b c:Int)(d:List aAi)(e:avu)
def ci:Bool:=bif a==0 then true else nxV 4 b c e==0
def Ho:Bool:= !a==0&&true
def fa:Int:=bif Ho a then nxA 4 b e else b
def tv:Int:=bif Ho a then nxS 4 b c e else c
def Xo:Int:=nxV 12 (fa a b e) (tv a b c e) e
def nR:Bool:=Xo a b c e==0
def nS:Bool:=Xo a b c e==1
def nT:Int:=pkV (fa a b e) (tv a b c e) [(4:Int),(5:Int),(6:Int),(5:Int),(6:Int),(7:Int),(8:Int),(9:Int),(10:Int),(11:Int),(12:Int)] e
def gI:Bool:=fC (nT a b c e)==2
def BX:Int:=pkA (fa a b e) [(4:Int),(5:Int),(6:Int),(5:Int),(6:Int),(7:Int),(8:Int),(9:Int),(10:Int),(11:Int),(12:Int)] e
def Wt:Int:=bif al (nT a b c e)then nxA 4 (BX a b e) e else BX a b e
def wc:Int:=nxS 12 (fa a b e) (tv a b c e) e
def Fq:Int:=pkS (fa a b e) (tv a b c e) [(4:Int),(5:Int),(6:Int),(5:Int),(6:Int),(7:Int),(8:Int),(9:Int),(10:Int),(11:Int),(12:Int)] e
def Wu:Int:=bif al (nT a b c e)then nxS 4 (BX a b e) (Fq a b c e) e else Fq a b c e
def AA:Int:=nxV (↑d.length:Int) (nxA 12 (fa a b e) e) (wc a b c e) e
def Fr:aoQ:= [(bif al (nT a b c e)then nT a b c e else nT a b c e,bif al (nT a b c e)then ByteArray.mk #[]else ByteArray.mk #[],bif al (nT a b c e)then nxV 4 (BX a b e) (Fq a b c e) e else(0:Int))]
def Wv:Bool:= !al (nT a b c e)||aG (BX a b e) (Fq a b c e) e
def Ww:Bool:=leN (0 + v8 (Fr a b c e)) 9223372036854775807
def Wx:Bool:=leN ((0 + v8 (Fr a b c e)) * 32) 140737488355328
def zk:Int:=bif ci a b c e then bif nR a b c e then nxA 12 (fa a b e) e else bif nS a b c e then nxA 12 (fa a b e) e else nxA (↑d.length:Int) (nxA 12 (fa a b e) e) e else bif gI a b c e then Wt a b c e else Wt a b c e
def zm:Int:=bif ci a b c e then bif nR a b c e then wc a b c e else bif nS a b c e then wc a b c e else nxS (↑d.length:Int) (nxA 12 (fa a b e) e) (wc a b c e) e else bif gI a b c e then Wu a b c e else Wu a b c e
def zo:aor:=bif ci a b c e then bif nR a b c e then [((2:Int),ByteArray.mk #[],(0:Int))]else bif nS a b c e then [((3:Int),ByteArray.mk #[],(0:Int))]else [((1:Int),v9 d[v7 (AA a b c d e)]? ByteArray.empty,(0:Int))]else bif gI a b c e then Fr a b c e else Fr a b c e
def Rw:Bool:=allT [!Ho a||aG b c e,!ci a b c e||aG (fa a b e) (tv a b c e) e,!ci a b c e||(nR a b c e||(nS a b c e||aG (nxA 12 (fa a b e) e) (wc a b c e) e)),!ci a b c e||(nR a b c e||(nS a b c e||leI 0 (AA a b c d e))),!ci a b c e||(nR a b c e||(nS a b c e||ltI (AA a b c d e) (↑d.length:Int))),!ci a b c e||(nR a b c e||(nS a b c e||ltN (v7 (AA a b c d e)) d.length)),ci a b c e||aG (fa a b e) (tv a b c e) e&&leN 1 (v8 [(4:Int),(5:Int),(6:Int),(5:Int),(6:Int),(7:Int),(8:Int),(9:Int),(10:Int),(11:Int),(12:Int)]),ci a b c e||false,ci a b c e||(!gI a b c e||false),ci a b c e||(!gI a b c e||leN (0 + 0) 9223372036854775807),ci a b c e||(!gI a b c e||leN ((0 + 0) * 32) 140737488355328),ci a b c e||(!gI a b c e||Wv a b c e),ci a b c e||(!gI a b c e||Ww a b c e),ci a b c e||(!gI a b c e||Wx a b c e),ci a b c e||(gI a b c e||Wv a b c e),ci a b c e||(gI a b c e||Ww a b c e),ci a b c e||(gI a b c e||Wx a b c e)]
end
def Yu:aAj
 | [.one ⟨false,[.ptr 0 0]⟩,.one ⟨false,[.ref 1]⟩,.one ⟨false,[.val (.int .i64 a)]⟩],[.box 76 [.ref 2,.val (.int .i64 b),.val (.int .i64 c)],.row false 9 (.str) d,.row false 5 (.int .u8) e]=>some ⟨aAl (.ref 3),[.box 76 [.ref 2,aAk (zk a b c d e),aAk (zm a b c d e)],aAn d,aAu e],[aAv (zo a b c d e)],[Rw a b c d e]⟩
 |_,_=>none
def ais:PF prog:=PF.ofG prog (T3z [ai,cQ,vz,Lc,Rh]) [] aU 73 f73 func73 (fun c _=>LOk.nil c) Yu (by
 intro _ _ _ h;unfold Yu at h;split at h<;>cases h;kernel_rfl)
def atu(ns:List aAi):Bool:=leN 1 ns.length&&(leN ns.length 1000&&ns.all fun s=>leN s.size 1000)
def dtN(k d a s:Int)(ns:List aAi)(c:avu):Bool:=(leI 0 d&&leI d k)&&(aG a s c&&atu ns)
def dtL(n:Nat)(ts:List TM):Prop:=1≤ts.length∧ts.length≤n∧ ∀ t∈ts,t.2.1.size≤1000
theorem Tx{k d a s:Int}{ns:List aAi}{c:avu}:dtN k d a s ns c=true↔(0≤d∧d≤k)∧aG a s c=true∧atu ns=true:=by
 simp only [dtN,q8,zJ]
theorem aeK{ns:List aAi}:atu ns=true↔1≤ns.length∧ns.length≤1000∧ ∀ s∈ns,s.size≤1000:=by
 simp only [atu,q8,eN,List.all_eq_true]
theorem jP{n a s:Int}{c:avu}(h:aG a s c=true):aG (nxA n a c) (nxS n a s c) c=true:=(amx n h).2.1
theorem UQ{a s x:Int}{l c:avu}(h:aG a s c=true):aG (pkA a (x::l) c) (pkS a s (x::l) c) c=true:=(avP (l:=x::l) (by rw [h];rfl)).2.1
theorem aip{C:Type}(x:C)(l:List C):leN 1 (x::l).length=true:=aY (by simp)
theorem Qa{n a s:Int}{c:avu}(h:aG a s c=true)(hn:1≤n):0≤nxV n a s c∧nxV n a s c < n:=⟨(amx n h).2.2.1,(amx n h).2.2.2 hn⟩
theorem qB{t:Bool}{a a' s s':Int}{c:avu}(h:aG a s c=true)(h':aG a' s' c=true):aG (bif t then a else a') (bif t then s else s') c=true:=by cases t <;> assumption
theorem asi{ns:List aAi}{i:Int}(hn:atu ns=true)(d:aAi)(h0:0≤i)(h1:i < ns.length):(v9 ns[i.toNat]? d).size≤1000:=by
 have hlt:i.toNat < ns.length:=by omega
 rw [List.getElem?_eq_getElem hlt]
 exact(aeK.1 hn).2.2 _ (List.getElem_mem hlt)
theorem auk(d a s:Int)(ns:List aAi)(c:avu)(h:dtN 0 d a s ns c=true):
  Rw d a s ns c=true∧aG (zk d a s ns c) (zm d a s ns c) c=true∧dtL 1 (zo d a s ns c):=by
 obtain⟨⟨h0,h1⟩,hs,hn⟩:=Tx.1 h
 have hd:d=0:=by omega
 subst hd
 obtain⟨n1,n2,n3⟩:=aeK.1 hn
 have a0:ci 0 a s c=true:=rfl
 have a1:Ho 0=false:=rfl
 have a2:fa 0 a c=a:=rfl
 have a3:tv 0 a s c=s:=rfl
 have a11:wc 0 a s c=nxS 12 a s c:=rfl
 have hs2:aG (nxA 12 a c) (nxS 12 a s c) c=true:=jP hs
 have a14:AA 0 a s ns c=nxV (ns.length:Int) (nxA 12 a c) (nxS 12 a s c) c:=rfl
 obtain⟨i0,i1⟩:=Qa (n:=(ns.length:Int)) hs2 (by omega)
 have j0:=bx i0
 have j1:=dL i1
 have j2:ltN (nxV (ns.length:Int) (nxA 12 a c) (nxS 12 a s c) c).toNat ns.length=true:=er (by omega)
 refine⟨?_,?_,?_⟩
 ·simp only [Rw,a0,a1,a2,a3,a11,a14,hs,hs2,j0,j1,j2,allT,Bool.true_or,k8,Bool.not_true,Bool.not_false,Bool.false_or,cond_true]
  all_goals simp
 ·simp only [zk,zm,a0,a2,a11,cond_true]
  cases nR 0 a s c
  ·cases nS 0 a s c
   ·exact jP hs2
   ·exact hs2
  ·exact hs2
 ·simp only [zo,a0,a14,cond_true]
  cases nR 0 a s c
  ·cases nS 0 a s c
   ·refine⟨by simp,by simp,fun t ht=> ?_⟩
    rw [cond_false,cond_false,qqj]at ht
    subst ht
    exact asi hn _ i0 i1
   ·exact⟨by simp,by simp,fun t ht=>by rw [cond_false,cond_true,qqj]at ht;subst ht;exact Nat.zero_le _⟩
  ·exact⟨by simp,by simp,fun t ht=>by rw [cond_true,qqj]at ht;subst ht;exact Nat.zero_le _⟩
theorem MB{n:Nat}{k m:Int}{s:aAi}(h:s.size≤1000):dtL (n + 1) [(k,s,m)]:=
 ⟨by simp,by simp,fun t ht=>by rw [qqj]at ht;subst ht;exact h⟩
theorem aaj{n m k:Nat}{a b:List TM}(h1:dtL n a)(h2:dtL m b)(h:n + m≤k):dtL k (a++b):=by
 obtain⟨p1,p2,p3⟩:=h1
 obtain⟨q1,q2,q3⟩:=h2
 refine⟨by rw [j6];omega,by rw [j6];omega,fun t ht=> ?_⟩
 rcases j8.1 ht with h | h
 ·exact p3 t h
 ·exact q3 t h
def YC:aAj
 | [.one ⟨false,[.ptr 0 0]⟩,.one ⟨false,[.ref 1]⟩,.one ⟨false,[.val (.int .i64 a)]⟩],[.box 76 [.ref 2,.val (.int .i64 b),.val (.int .i64 c)],.row false 9 (.str) d,.row false 5 (.int .u8) e]=>some ⟨aAl (.ref 3),[.box 76 [.ref 2,aAk (zk a b c d e),aAk (zm a b c d e)],aAn d,aAu e],[aAv (zo a b c d e)],[dtN 0 a b c d e]⟩
 |_,_=>none
def Rb:PF prog:=PF.alt ais YC (by
 intro args es o h cL;unfold YC at h;split at h
 ·rename_i a b c d e
  cases h
  have cL:=kO cL
  have hh:=(auk a b c d e cL).1
  have en:=hh
  exact qm rfl (jv en) rfl rfl rfl
 ·cases h)
section
variable (a b c:Int)(d:List aAi)(e:avu)
def cj:Bool:=bif a==0 then true else nxV 4 b c e==0
def Ps:Bool:= !a==0&&true
def eA:Int:=bif Ps a then nxA 4 b e else b
def tw:Int:=bif Ps a then nxS 4 b c e else c
def Xp:Int:=nxV 12 (eA a b e) (tw a b c e) e
def nU:Bool:=Xp a b c e==0
def nV:Bool:=Xp a b c e==1
def eB:Int:=pkV (eA a b e) (tw a b c e) [(4:Int),(5:Int),(6:Int),(5:Int),(6:Int),(7:Int),(8:Int),(9:Int),(10:Int),(11:Int),(12:Int)] e
def fb:Bool:=fC (eB a b c e)==2
def jC:Int:=qqq .i64 (a - (1:Int))
def wd:Int:=pkA (eA a b e) [(4:Int),(5:Int),(6:Int),(5:Int),(6:Int),(7:Int),(8:Int),(9:Int),(10:Int),(11:Int),(12:Int)] e
def we:Int:=pkS (eA a b e) (tw a b c e) [(4:Int),(5:Int),(6:Int),(5:Int),(6:Int),(7:Int),(8:Int),(9:Int),(10:Int),(11:Int),(12:Int)] e
def iB:Int:=zk (jC a) (wd a b e) (we a b c e) d e
def kk:Int:=zm (jC a) (wd a b e) (we a b c e) d e
def wg:Int:=zk (jC a) (iB a b c d e) (kk a b c d e) d e
def wh:Int:=nxS 12 (eA a b e) (tw a b c e) e
def AB:Int:=zm (jC a) (iB a b c d e) (kk a b c d e) d e
def rT:Int:=nxV (↑d.length:Int) (nxA 12 (eA a b e) e) (wh a b c e) e
def iC:aoQ:=zo (jC a) (wd a b e) (we a b c e) d e
def wi:aoQ:=zo (jC a) (iB a b c d e) (kk a b c d e) d e
def wj:aoQ:=iC a b c d e++wi a b c d e
def Wy:Int:=bif al (eB a b c e)then eB a b c e else eB a b c e
def Fs:aAi:=bif al (eB a b c e)then ByteArray.mk #[]else ByteArray.mk #[]
def wl:aoQ:= [(Wy a b c e,Fs a b c e,bif al (eB a b c e)then nxV 4 (wg a b c d e) (AB a b c d e) e else(0:Int))]
def wm:aoQ:= [(Wy a b c e,Fs a b c e,bif al (eB a b c e)then nxV 4 (iB a b c d e) (kk a b c d e) e else(0:Int))]
def uW:Int:=bif cj a b c e then bif nU a b c e then nxA 12 (eA a b e) e else bif nV a b c e then nxA 12 (eA a b e) e else nxA (↑d.length:Int) (nxA 12 (eA a b e) e) e else bif fb a b c e then bif al (eB a b c e)then nxA 4 (wg a b c d e) e else wg a b c d e else bif al (eB a b c e)then nxA 4 (iB a b c d e) e else iB a b c d e
def uX:Int:=bif cj a b c e then bif nU a b c e then wh a b c e else bif nV a b c e then wh a b c e else nxS (↑d.length:Int) (nxA 12 (eA a b e) e) (wh a b c e) e else bif fb a b c e then bif al (eB a b c e)then nxS 4 (wg a b c d e) (AB a b c d e) e else AB a b c d e else bif al (eB a b c e)then nxS 4 (iB a b c d e) (kk a b c d e) e else kk a b c d e
def uY:aor:=bif cj a b c e then bif nU a b c e then [((2:Int),ByteArray.mk #[],(0:Int))]else bif nV a b c e then [((3:Int),ByteArray.mk #[],(0:Int))]else [((1:Int),v9 d[v7 (rT a b c d e)]? ByteArray.empty,(0:Int))]else bif fb a b c e then wj a b c d e++wl a b c d e else iC a b c d e++wm a b c d e
def IA:Bool:=allT [!Ps a||aG b c e,!cj a b c e||aG (eA a b e) (tw a b c e) e,!cj a b c e||(nU a b c e||(nV a b c e||aG (nxA 12 (eA a b e) e) (wh a b c e) e)),!cj a b c e||(nU a b c e||(nV a b c e||leI 0 (rT a b c d e))),!cj a b c e||(nU a b c e||(nV a b c e||ltI (rT a b c d e) (↑d.length:Int))),!cj a b c e||(nU a b c e||(nV a b c e||ltN (v7 (rT a b c d e)) d.length)),cj a b c e||aG (eA a b e) (tw a b c e) e&&leN 1 (v8 [(4:Int),(5:Int),(6:Int),(5:Int),(6:Int),(7:Int),(8:Int),(9:Int),(10:Int),(11:Int),(12:Int)]),cj a b c e||dtN 0 (jC a) (wd a b e) (we a b c e) d e,cj a b c e||(!fb a b c e||dtN 0 (jC a) (iB a b c d e) (kk a b c d e) d e),cj a b c e||(!fb a b c e||leN (v8 (iC a b c d e) + v8 (wi a b c d e)) 9223372036854775807),cj a b c e||(!fb a b c e||leN ((v8 (iC a b c d e) + v8 (wi a b c d e)) * 32) 140737488355328),cj a b c e||(!fb a b c e||(!al (eB a b c e)||aG (wg a b c d e) (AB a b c d e) e)),cj a b c e||(!fb a b c e||leN (v8 (wj a b c d e) + v8 (wl a b c d e)) 9223372036854775807),cj a b c e||(!fb a b c e||leN ((v8 (wj a b c d e) + v8 (wl a b c d e)) * 32) 140737488355328),cj a b c e||(fb a b c e||(!al (eB a b c e)||aG (iB a b c d e) (kk a b c d e) e)),cj a b c e||(fb a b c e||leN (v8 (iC a b c d e) + v8 (wm a b c d e)) 9223372036854775807),cj a b c e||(fb a b c e||leN ((v8 (iC a b c d e) + v8 (wm a b c d e)) * 32) 140737488355328)]
end
def Yv:aAj
 | [.one ⟨false,[.ptr 0 0]⟩,.one ⟨false,[.ref 1]⟩,.one ⟨false,[.val (.int .i64 a)]⟩],[.box 76 [.ref 2,.val (.int .i64 b),.val (.int .i64 c)],.row false 9 (.str) d,.row false 5 (.int .u8) e]=>some ⟨aAl (.ref 3),[.box 76 [.ref 2,aAk (uW a b c d e),aAk (uX a b c d e)],aAn d,aAu e],[aAv (uY a b c d e)],[IA a b c d e]⟩
 |_,_=>none
def ait:PF prog:=PF.ofG prog (T3z [ai,cQ,vz,Lc,Rb]) [] aU 73 f73 func73 (fun c _=>LOk.nil c) Yv (by
 intro _ _ _ h;unfold Yv at h;split at h<;>cases h;kernel_rfl)
theorem aul(d a s:Int)(ns:List aAi)(c:avu)(h:dtN 1 d a s ns c=true):
  IA d a s ns c=true∧aG (uW d a s ns c) (uX d a s ns c) c=true∧dtL 3 (uY d a s ns c):=by
 obtain⟨⟨h0,h1⟩,hs,hn⟩:=Tx.1 h
 obtain⟨n1,n2,n3⟩:=aeK.1 hn
 have s23:aG (eA d a c) (tw d a s c) c=true:=qB (jP hs) hs
 have hs2:aG (nxA 12 (eA d a c) c) (wh d a s c) c=true:=jP s23
 obtain⟨i0,i1⟩:0≤rT d a s ns c∧rT d a s ns c < (ns.length:Int):=Qa (n:=(ns.length:Int)) hs2 (by omega)
 have j0:=bx i0
 have j1:=dL i1
 have j2:ltN (rT d a s ns c).toNat ns.length=true:=er (by omega)
 cases h0:cj d a s c with
 |true=>
  refine⟨?_,?_,?_⟩
  ·simp only [IA,h0,hs,s23,hs2,j0,j1,j2,allT,Bool.true_or,k8,Bool.not_true,Bool.false_or,cond_true]
  ·simp only [uW,uX,h0,cond_true]
   cases nU d a s c
   ·cases nV d a s c
    ·exact jP hs2
    ·exact hs2
   ·exact hs2
  ·simp only [uY,h0,cond_true]
   cases nU d a s c
   ·cases nV d a s c
    ·exact MB (asi hn _ i0 i1)
    ·exact MB (Nat.zero_le _)
   ·exact MB (Nat.zero_le _)
 |false=>
  have hd:1≤d:=by
   by_cases hd0:d=0
   ·rw [hd0]at h0;cases h0
   ·omega
  have a9:jC d=d - 1:=wrap_i64 (by omega) (by omega)
  have s10:aG (wd d a c) (we d a s c) c=true:=UQ s23
  have d1:dtN 0 (jC d) (wd d a c) (we d a s c) ns c=true:=Tx.2 ⟨by omega,s10,hn⟩
  obtain⟨_,s12,q18⟩:=auk _ _ _ ns c d1
  have s12:aG (iB d a s ns c) (kk d a s ns c) c=true:=s12
  have q18:dtL 1 (iC d a s ns c):=q18
  have d2:dtN 0 (jC d) (iB d a s ns c) (kk d a s ns c) ns c=true:=Tx.2 ⟨by omega,s12,hn⟩
  obtain⟨_,s14,q19⟩:=auk _ _ _ ns c d2
  have s14:aG (wg d a s ns c) (AB d a s ns c) c=true:=s14
  have q19:dtL 1 (wi d a s ns c):=q19
  have q23:dtL 1 (wl d a s ns c):=MB (by simp only [Fs];cases al (eB d a s c) <;> exact Nat.zero_le _)
  have q24:dtL 1 (wm d a s ns c):=MB (by simp only [Fs];cases al (eB d a s c) <;> exact Nat.zero_le _)
  have q20:dtL 2 (wj d a s ns c):=aaj q18 q19 (by omega)
  have l18:=q18.2.1
  have l19:=q19.2.1
  have l20:=q20.2.1
  have l23:=q23.2.1
  have l24:=q24.2.1
  have p10:leN 1 (v8 [(4:Int),5,6,5,6,7,8,9,10,11,12])=true:=rfl
  refine⟨?_,?_,?_⟩
  ·simp only [IA,h0,hs,s23,s10,d1,d2,s12,s14,p10,aY (show (iC d a s ns c).length + (wi d a s ns c).length≤9223372036854775807 by omega),aY (show ((iC d a s ns c).length + (wi d a s ns c).length) * 32≤140737488355328 by omega),
    aY (show (wj d a s ns c).length + (wl d a s ns c).length≤9223372036854775807 by omega),aY (show ((wj d a s ns c).length + (wl d a s ns c).length) * 32≤140737488355328 by omega),
    aY (show (iC d a s ns c).length + (wm d a s ns c).length≤9223372036854775807 by omega),aY (show ((iC d a s ns c).length + (wm d a s ns c).length) * 32≤140737488355328 by omega),
    allT,Bool.true_or,k8,Bool.not_false,Bool.false_or,Bool.and_self,cond_true]
  ·simp only [uW,uX,h0,cond_false]
   cases fb d a s c <;> simp only [cond_true,cond_false]
   ·exact qB (jP s12) s12
   ·exact qB (jP s14) s14
  ·simp only [uY,h0,cond_false]
   cases fb d a s c <;> simp only [cond_true,cond_false]
   ·exact aaj q18 q24 (by omega)
   ·exact aaj q20 q23 (by omega)
def YD:aAj
 | [.one ⟨false,[.ptr 0 0]⟩,.one ⟨false,[.ref 1]⟩,.one ⟨false,[.val (.int .i64 a)]⟩],[.box 76 [.ref 2,.val (.int .i64 b),.val (.int .i64 c)],.row false 9 (.str) d,.row false 5 (.int .u8) e]=>some ⟨aAl (.ref 3),[.box 76 [.ref 2,aAk (uW a b c d e),aAk (uX a b c d e)],aAn d,aAu e],[aAv (uY a b c d e)],[dtN 1 a b c d e]⟩
 |_,_=>none
def Rc:PF prog:=PF.alt ait YD (by
 intro args es o h cL;unfold YD at h;split at h
 ·rename_i a b c d e
  cases h
  have cL:=kO cL
  have hh:=(aul a b c d e cL).1
  have en:=hh
  exact qm rfl (jv en) rfl rfl rfl
 ·cases h)
section
variable (a b c:Int)(d:List aAi)(e:avu)
def cm:Bool:=bif a==0 then true else nxV 4 b c e==0
def Pt:Bool:= !a==0&&true
def eC:Int:=bif Pt a then nxA 4 b e else b
def tx:Int:=bif Pt a then nxS 4 b c e else c
def Xq:Int:=nxV 12 (eC a b e) (tx a b c e) e
def nW:Bool:=Xq a b c e==0
def nX:Bool:=Xq a b c e==1
def eD:Int:=pkV (eC a b e) (tx a b c e) [(4:Int),(5:Int),(6:Int),(5:Int),(6:Int),(7:Int),(8:Int),(9:Int),(10:Int),(11:Int),(12:Int)] e
def fc:Bool:=fC (eD a b c e)==2
def jD:Int:=qqq .i64 (a - (1:Int))
def wn:Int:=pkA (eC a b e) [(4:Int),(5:Int),(6:Int),(5:Int),(6:Int),(7:Int),(8:Int),(9:Int),(10:Int),(11:Int),(12:Int)] e
def wo:Int:=pkS (eC a b e) (tx a b c e) [(4:Int),(5:Int),(6:Int),(5:Int),(6:Int),(7:Int),(8:Int),(9:Int),(10:Int),(11:Int),(12:Int)] e
def iD:Int:=uW (jD a) (wn a b e) (wo a b c e) d e
def km:Int:=uX (jD a) (wn a b e) (wo a b c e) d e
def wq:Int:=uW (jD a) (iD a b c d e) (km a b c d e) d e
def ws:Int:=nxS 12 (eC a b e) (tx a b c e) e
def AC:Int:=uX (jD a) (iD a b c d e) (km a b c d e) d e
def rU:Int:=nxV (↑d.length:Int) (nxA 12 (eC a b e) e) (ws a b c e) e
def iE:aoQ:=uY (jD a) (wn a b e) (wo a b c e) d e
def wu:aoQ:=uY (jD a) (iD a b c d e) (km a b c d e) d e
def wv:aoQ:=iE a b c d e++wu a b c d e
def Wz:Int:=bif al (eD a b c e)then eD a b c e else eD a b c e
def Ft:aAi:=bif al (eD a b c e)then ByteArray.mk #[]else ByteArray.mk #[]
def ww:aoQ:= [(Wz a b c e,Ft a b c e,bif al (eD a b c e)then nxV 4 (wq a b c d e) (AC a b c d e) e else(0:Int))]
def wx:aoQ:= [(Wz a b c e,Ft a b c e,bif al (eD a b c e)then nxV 4 (iD a b c d e) (km a b c d e) e else(0:Int))]
def uZ:Int:=bif cm a b c e then bif nW a b c e then nxA 12 (eC a b e) e else bif nX a b c e then nxA 12 (eC a b e) e else nxA (↑d.length:Int) (nxA 12 (eC a b e) e) e else bif fc a b c e then bif al (eD a b c e)then nxA 4 (wq a b c d e) e else wq a b c d e else bif al (eD a b c e)then nxA 4 (iD a b c d e) e else iD a b c d e
def va:Int:=bif cm a b c e then bif nW a b c e then ws a b c e else bif nX a b c e then ws a b c e else nxS (↑d.length:Int) (nxA 12 (eC a b e) e) (ws a b c e) e else bif fc a b c e then bif al (eD a b c e)then nxS 4 (wq a b c d e) (AC a b c d e) e else AC a b c d e else bif al (eD a b c e)then nxS 4 (iD a b c d e) (km a b c d e) e else km a b c d e
def vb:aor:=bif cm a b c e then bif nW a b c e then [((2:Int),ByteArray.mk #[],(0:Int))]else bif nX a b c e then [((3:Int),ByteArray.mk #[],(0:Int))]else [((1:Int),v9 d[v7 (rU a b c d e)]? ByteArray.empty,(0:Int))]else bif fc a b c e then wv a b c d e++ww a b c d e else iE a b c d e++wx a b c d e
def IB:Bool:=allT [!Pt a||aG b c e,!cm a b c e||aG (eC a b e) (tx a b c e) e,!cm a b c e||(nW a b c e||(nX a b c e||aG (nxA 12 (eC a b e) e) (ws a b c e) e)),!cm a b c e||(nW a b c e||(nX a b c e||leI 0 (rU a b c d e))),!cm a b c e||(nW a b c e||(nX a b c e||ltI (rU a b c d e) (↑d.length:Int))),!cm a b c e||(nW a b c e||(nX a b c e||ltN (v7 (rU a b c d e)) d.length)),cm a b c e||aG (eC a b e) (tx a b c e) e&&leN 1 (v8 [(4:Int),(5:Int),(6:Int),(5:Int),(6:Int),(7:Int),(8:Int),(9:Int),(10:Int),(11:Int),(12:Int)]),cm a b c e||dtN 1 (jD a) (wn a b e) (wo a b c e) d e,cm a b c e||(!fc a b c e||dtN 1 (jD a) (iD a b c d e) (km a b c d e) d e),cm a b c e||(!fc a b c e||leN (v8 (iE a b c d e) + v8 (wu a b c d e)) 9223372036854775807),cm a b c e||(!fc a b c e||leN ((v8 (iE a b c d e) + v8 (wu a b c d e)) * 32) 140737488355328),cm a b c e||(!fc a b c e||(!al (eD a b c e)||aG (wq a b c d e) (AC a b c d e) e)),cm a b c e||(!fc a b c e||leN (v8 (wv a b c d e) + v8 (ww a b c d e)) 9223372036854775807),cm a b c e||(!fc a b c e||leN ((v8 (wv a b c d e) + v8 (ww a b c d e)) * 32) 140737488355328),cm a b c e||(fc a b c e||(!al (eD a b c e)||aG (iD a b c d e) (km a b c d e) e)),cm a b c e||(fc a b c e||leN (v8 (iE a b c d e) + v8 (wx a b c d e)) 9223372036854775807),cm a b c e||(fc a b c e||leN ((v8 (iE a b c d e) + v8 (wx a b c d e)) * 32) 140737488355328)]
end
def Yw:aAj
 | [.one ⟨false,[.ptr 0 0]⟩,.one ⟨false,[.ref 1]⟩,.one ⟨false,[.val (.int .i64 a)]⟩],[.box 76 [.ref 2,.val (.int .i64 b),.val (.int .i64 c)],.row false 9 (.str) d,.row false 5 (.int .u8) e]=>some ⟨aAl (.ref 3),[.box 76 [.ref 2,aAk (uZ a b c d e),aAk (va a b c d e)],aAn d,aAu e],[aAv (vb a b c d e)],[IB a b c d e]⟩
 |_,_=>none
def aiu:PF prog:=PF.ofG prog (T3z [ai,cQ,vz,Lc,Rc]) [] aU 73 f73 func73 (fun c _=>LOk.nil c) Yw (by
 intro _ _ _ h;unfold Yw at h;split at h<;>cases h;kernel_rfl)
theorem aum(d a s:Int)(ns:List aAi)(c:avu)(h:dtN 2 d a s ns c=true):
  IB d a s ns c=true∧aG (uZ d a s ns c) (va d a s ns c) c=true∧dtL 7 (vb d a s ns c):=by
 obtain⟨⟨h0,h1⟩,hs,hn⟩:=Tx.1 h
 obtain⟨n1,n2,n3⟩:=aeK.1 hn
 have s23:aG (eC d a c) (tx d a s c) c=true:=qB (jP hs) hs
 have hs2:aG (nxA 12 (eC d a c) c) (ws d a s c) c=true:=jP s23
 obtain⟨i0,i1⟩:0≤rU d a s ns c∧rU d a s ns c < (ns.length:Int):=Qa (n:=(ns.length:Int)) hs2 (by omega)
 have j0:=bx i0
 have j1:=dL i1
 have j2:ltN (rU d a s ns c).toNat ns.length=true:=er (by omega)
 cases h0:cm d a s c with
 |true=>
  refine⟨?_,?_,?_⟩
  ·simp only [IB,h0,hs,s23,hs2,j0,j1,j2,allT,Bool.true_or,k8,Bool.not_true,Bool.false_or,cond_true]
  ·simp only [uZ,va,h0,cond_true]
   cases nW d a s c
   ·cases nX d a s c
    ·exact jP hs2
    ·exact hs2
   ·exact hs2
  ·simp only [vb,h0,cond_true]
   cases nW d a s c
   ·cases nX d a s c
    ·exact MB (asi hn _ i0 i1)
    ·exact MB (Nat.zero_le _)
   ·exact MB (Nat.zero_le _)
 |false=>
  have hd:1≤d:=by
   by_cases hd0:d=0
   ·rw [hd0]at h0;cases h0
   ·omega
  have a9:jD d=d - 1:=wrap_i64 (by omega) (by omega)
  have s10:aG (wn d a c) (wo d a s c) c=true:=UQ s23
  have d1:dtN 1 (jD d) (wn d a c) (wo d a s c) ns c=true:=Tx.2 ⟨by omega,s10,hn⟩
  obtain⟨_,s12,q18⟩:=aul _ _ _ ns c d1
  have s12:aG (iD d a s ns c) (km d a s ns c) c=true:=s12
  have q18:dtL 3 (iE d a s ns c):=q18
  have d2:dtN 1 (jD d) (iD d a s ns c) (km d a s ns c) ns c=true:=Tx.2 ⟨by omega,s12,hn⟩
  obtain⟨_,s14,q19⟩:=aul _ _ _ ns c d2
  have s14:aG (wq d a s ns c) (AC d a s ns c) c=true:=s14
  have q19:dtL 3 (wu d a s ns c):=q19
  have q23:dtL 1 (ww d a s ns c):=MB (by simp only [Ft];cases al (eD d a s c) <;> exact Nat.zero_le _)
  have q24:dtL 1 (wx d a s ns c):=MB (by simp only [Ft];cases al (eD d a s c) <;> exact Nat.zero_le _)
  have q20:dtL 6 (wv d a s ns c):=aaj q18 q19 (by omega)
  have l18:=q18.2.1
  have l19:=q19.2.1
  have l20:=q20.2.1
  have l23:=q23.2.1
  have l24:=q24.2.1
  have p10:leN 1 (v8 [(4:Int),5,6,5,6,7,8,9,10,11,12])=true:=rfl
  refine⟨?_,?_,?_⟩
  ·simp only [IB,h0,hs,s23,s10,d1,d2,s12,s14,p10,aY (show (iE d a s ns c).length + (wu d a s ns c).length≤9223372036854775807 by omega),aY (show ((iE d a s ns c).length + (wu d a s ns c).length) * 32≤140737488355328 by omega),
    aY (show (wv d a s ns c).length + (ww d a s ns c).length≤9223372036854775807 by omega),aY (show ((wv d a s ns c).length + (ww d a s ns c).length) * 32≤140737488355328 by omega),
    aY (show (iE d a s ns c).length + (wx d a s ns c).length≤9223372036854775807 by omega),aY (show ((iE d a s ns c).length + (wx d a s ns c).length) * 32≤140737488355328 by omega),
    allT,Bool.true_or,k8,Bool.not_false,Bool.false_or,Bool.and_self,cond_true]
  ·simp only [uZ,va,h0,cond_false]
   cases fc d a s c <;> simp only [cond_true,cond_false]
   ·exact qB (jP s12) s12
   ·exact qB (jP s14) s14
  ·simp only [vb,h0,cond_false]
   cases fc d a s c <;> simp only [cond_true,cond_false]
   ·exact aaj q18 q24 (by omega)
   ·exact aaj q20 q23 (by omega)
def YE:aAj
 | [.one ⟨false,[.ptr 0 0]⟩,.one ⟨false,[.ref 1]⟩,.one ⟨false,[.val (.int .i64 a)]⟩],[.box 76 [.ref 2,.val (.int .i64 b),.val (.int .i64 c)],.row false 9 (.str) d,.row false 5 (.int .u8) e]=>some ⟨aAl (.ref 3),[.box 76 [.ref 2,aAk (uZ a b c d e),aAk (va a b c d e)],aAn d,aAu e],[aAv (vb a b c d e)],[dtN 2 a b c d e]⟩
 |_,_=>none
def Rd:PF prog:=PF.alt aiu YE (by
 intro args es o h cL;unfold YE at h;split at h
 ·rename_i a b c d e
  cases h
  have cL:=kO cL
  have hh:=(aum a b c d e cL).1
  have en:=hh
  exact qm rfl (jv en) rfl rfl rfl
 ·cases h)
section
variable (a b c:Int)(d:List aAi)(e:avu)
def cI:Bool:=bif a==0 then true else nxV 4 b c e==0
def Rx:Bool:= !a==0&&true
def eT:Int:=bif Rx a then nxA 4 b e else b
def vd:Int:=bif Rx a then nxS 4 b c e else c
def Zg:Int:=nxV 12 (eT a b e) (vd a b c e) e
def pq:Bool:=Zg a b c e==0
def pt:Bool:=Zg a b c e==1
def eU:Int:=pkV (eT a b e) (vd a b c e) [(4:Int),(5:Int),(6:Int),(5:Int),(6:Int),(7:Int),(8:Int),(9:Int),(10:Int),(11:Int),(12:Int)] e
def fR:Bool:=fC (eU a b c e)==2
def kI:Int:=qqq .i64 (a - (1:Int))
def xL:Int:=pkA (eT a b e) [(4:Int),(5:Int),(6:Int),(5:Int),(6:Int),(7:Int),(8:Int),(9:Int),(10:Int),(11:Int),(12:Int)] e
def xM:Int:=pkS (eT a b e) (vd a b c e) [(4:Int),(5:Int),(6:Int),(5:Int),(6:Int),(7:Int),(8:Int),(9:Int),(10:Int),(11:Int),(12:Int)] e
def jE:Int:=uZ (kI a) (xL a b e) (xM a b c e) d e
def lC:Int:=va (kI a) (xL a b e) (xM a b c e) d e
def xN:Int:=uZ (kI a) (jE a b c d e) (lC a b c d e) d e
def xO:Int:=nxS 12 (eT a b e) (vd a b c e) e
def BZ:Int:=va (kI a) (jE a b c d e) (lC a b c d e) d e
def tz:Int:=nxV (↑d.length:Int) (nxA 12 (eT a b e) e) (xO a b c e) e
def jF:aoQ:=vb (kI a) (xL a b e) (xM a b c e) d e
def xP:aoQ:=vb (kI a) (jE a b c d e) (lC a b c d e) d e
def xQ:aoQ:=jF a b c d e++xP a b c d e
def Xr:Int:=bif al (eU a b c e)then eU a b c e else eU a b c e
def Hq:aAi:=bif al (eU a b c e)then ByteArray.mk #[]else ByteArray.mk #[]
def xR:aoQ:= [(Xr a b c e,Hq a b c e,bif al (eU a b c e)then nxV 4 (xN a b c d e) (BZ a b c d e) e else(0:Int))]
def xS:aoQ:= [(Xr a b c e,Hq a b c e,bif al (eU a b c e)then nxV 4 (jE a b c d e) (lC a b c d e) e else(0:Int))]
def wZ:Int:=bif cI a b c e then bif pq a b c e then nxA 12 (eT a b e) e else bif pt a b c e then nxA 12 (eT a b e) e else nxA (↑d.length:Int) (nxA 12 (eT a b e) e) e else bif fR a b c e then bif al (eU a b c e)then nxA 4 (xN a b c d e) e else xN a b c d e else bif al (eU a b c e)then nxA 4 (jE a b c d e) e else jE a b c d e
def xa:Int:=bif cI a b c e then bif pq a b c e then xO a b c e else bif pt a b c e then xO a b c e else nxS (↑d.length:Int) (nxA 12 (eT a b e) e) (xO a b c e) e else bif fR a b c e then bif al (eU a b c e)then nxS 4 (xN a b c d e) (BZ a b c d e) e else BZ a b c d e else bif al (eU a b c e)then nxS 4 (jE a b c d e) (lC a b c d e) e else lC a b c d e
def xc:aor:=bif cI a b c e then bif pq a b c e then [((2:Int),ByteArray.mk #[],(0:Int))]else bif pt a b c e then [((3:Int),ByteArray.mk #[],(0:Int))]else [((1:Int),v9 d[v7 (tz a b c d e)]? ByteArray.empty,(0:Int))]else bif fR a b c e then xQ a b c d e++xR a b c d e else jF a b c d e++xS a b c d e
def Kl:Bool:=allT [!Rx a||aG b c e,!cI a b c e||aG (eT a b e) (vd a b c e) e,!cI a b c e||(pq a b c e||(pt a b c e||aG (nxA 12 (eT a b e) e) (xO a b c e) e)),!cI a b c e||(pq a b c e||(pt a b c e||leI 0 (tz a b c d e))),!cI a b c e||(pq a b c e||(pt a b c e||ltI (tz a b c d e) (↑d.length:Int))),!cI a b c e||(pq a b c e||(pt a b c e||ltN (v7 (tz a b c d e)) d.length)),cI a b c e||aG (eT a b e) (vd a b c e) e&&leN 1 (v8 [(4:Int),(5:Int),(6:Int),(5:Int),(6:Int),(7:Int),(8:Int),(9:Int),(10:Int),(11:Int),(12:Int)]),cI a b c e||dtN 2 (kI a) (xL a b e) (xM a b c e) d e,cI a b c e||(!fR a b c e||dtN 2 (kI a) (jE a b c d e) (lC a b c d e) d e),cI a b c e||(!fR a b c e||leN (v8 (jF a b c d e) + v8 (xP a b c d e)) 9223372036854775807),cI a b c e||(!fR a b c e||leN ((v8 (jF a b c d e) + v8 (xP a b c d e)) * 32) 140737488355328),cI a b c e||(!fR a b c e||(!al (eU a b c e)||aG (xN a b c d e) (BZ a b c d e) e)),cI a b c e||(!fR a b c e||leN (v8 (xQ a b c d e) + v8 (xR a b c d e)) 9223372036854775807),cI a b c e||(!fR a b c e||leN ((v8 (xQ a b c d e) + v8 (xR a b c d e)) * 32) 140737488355328),cI a b c e||(fR a b c e||(!al (eU a b c e)||aG (jE a b c d e) (lC a b c d e) e)),cI a b c e||(fR a b c e||leN (v8 (jF a b c d e) + v8 (xS a b c d e)) 9223372036854775807),cI a b c e||(fR a b c e||leN ((v8 (jF a b c d e) + v8 (xS a b c d e)) * 32) 140737488355328)]
end
def ZU:aAj
 | [.one ⟨false,[.ptr 0 0]⟩,.one ⟨false,[.ref 1]⟩,.one ⟨false,[.val (.int .i64 a)]⟩],[.box 76 [.ref 2,.val (.int .i64 b),.val (.int .i64 c)],.row false 9 (.str) d,.row false 5 (.int .u8) e]=>some ⟨aAl (.ref 3),[.box 76 [.ref 2,aAk (wZ a b c d e),aAk (xa a b c d e)],aAn d,aAu e],[aAv (xc a b c d e)],[Kl a b c d e]⟩
 |_,_=>none
def ajw:PF prog:=PF.ofG prog (T3z [ai,cQ,vz,Lc,Rd]) [] aU 73 f73 func73 (fun c _=>LOk.nil c) ZU (by
 intro _ _ _ h;unfold ZU at h;split at h<;>cases h;kernel_rfl)
theorem awY(d a s:Int)(ns:List aAi)(c:avu)(h:dtN 3 d a s ns c=true):
  Kl d a s ns c=true∧aG (wZ d a s ns c) (xa d a s ns c) c=true∧dtL 15 (xc d a s ns c):=by
 obtain⟨⟨h0,h1⟩,hs,hn⟩:=Tx.1 h
 obtain⟨n1,n2,n3⟩:=aeK.1 hn
 have s23:aG (eT d a c) (vd d a s c) c=true:=qB (jP hs) hs
 have hs2:aG (nxA 12 (eT d a c) c) (xO d a s c) c=true:=jP s23
 obtain⟨i0,i1⟩:0≤tz d a s ns c∧tz d a s ns c < (ns.length:Int):=Qa (n:=(ns.length:Int)) hs2 (by omega)
 have j0:=bx i0
 have j1:=dL i1
 have j2:ltN (tz d a s ns c).toNat ns.length=true:=er (by omega)
 cases h0:cI d a s c with
 |true=>
  refine⟨?_,?_,?_⟩
  ·simp only [Kl,h0,hs,s23,hs2,j0,j1,j2,allT,Bool.true_or,k8,Bool.not_true,Bool.false_or,cond_true]
  ·simp only [wZ,xa,h0,cond_true]
   cases pq d a s c
   ·cases pt d a s c
    ·exact jP hs2
    ·exact hs2
   ·exact hs2
  ·simp only [xc,h0,cond_true]
   cases pq d a s c
   ·cases pt d a s c
    ·exact MB (asi hn _ i0 i1)
    ·exact MB (Nat.zero_le _)
   ·exact MB (Nat.zero_le _)
 |false=>
  have hd:1≤d:=by
   by_cases hd0:d=0
   ·rw [hd0]at h0;cases h0
   ·omega
  have a9:kI d=d - 1:=wrap_i64 (by omega) (by omega)
  have s10:aG (xL d a c) (xM d a s c) c=true:=UQ s23
  have d1:dtN 2 (kI d) (xL d a c) (xM d a s c) ns c=true:=Tx.2 ⟨by omega,s10,hn⟩
  obtain⟨_,s12,q18⟩:=aum _ _ _ ns c d1
  have s12:aG (jE d a s ns c) (lC d a s ns c) c=true:=s12
  have q18:dtL 7 (jF d a s ns c):=q18
  have d2:dtN 2 (kI d) (jE d a s ns c) (lC d a s ns c) ns c=true:=Tx.2 ⟨by omega,s12,hn⟩
  obtain⟨_,s14,q19⟩:=aum _ _ _ ns c d2
  have s14:aG (xN d a s ns c) (BZ d a s ns c) c=true:=s14
  have q19:dtL 7 (xP d a s ns c):=q19
  have q23:dtL 1 (xR d a s ns c):=MB (by simp only [Hq];cases al (eU d a s c) <;> exact Nat.zero_le _)
  have q24:dtL 1 (xS d a s ns c):=MB (by simp only [Hq];cases al (eU d a s c) <;> exact Nat.zero_le _)
  have q20:dtL 14 (xQ d a s ns c):=aaj q18 q19 (by omega)
  have l18:=q18.2.1
  have l19:=q19.2.1
  have l20:=q20.2.1
  have l23:=q23.2.1
  have l24:=q24.2.1
  have p10:leN 1 (v8 [(4:Int),5,6,5,6,7,8,9,10,11,12])=true:=rfl
  refine⟨?_,?_,?_⟩
  ·simp only [Kl,h0,hs,s23,s10,d1,d2,s12,s14,p10,aY (show (jF d a s ns c).length + (xP d a s ns c).length≤9223372036854775807 by omega),aY (show ((jF d a s ns c).length + (xP d a s ns c).length) * 32≤140737488355328 by omega),
    aY (show (xQ d a s ns c).length + (xR d a s ns c).length≤9223372036854775807 by omega),aY (show ((xQ d a s ns c).length + (xR d a s ns c).length) * 32≤140737488355328 by omega),
    aY (show (jF d a s ns c).length + (xS d a s ns c).length≤9223372036854775807 by omega),aY (show ((jF d a s ns c).length + (xS d a s ns c).length) * 32≤140737488355328 by omega),
    allT,Bool.true_or,k8,Bool.not_false,Bool.false_or,Bool.and_self,cond_true]
  ·simp only [wZ,xa,h0,cond_false]
   cases fR d a s c <;> simp only [cond_true,cond_false]
   ·exact qB (jP s12) s12
   ·exact qB (jP s14) s14
  ·simp only [xc,h0,cond_false]
   cases fR d a s c <;> simp only [cond_true,cond_false]
   ·exact aaj q18 q24 (by omega)
   ·exact aaj q20 q23 (by omega)
def ZX:aAj
 | [.one ⟨false,[.ptr 0 0]⟩,.one ⟨false,[.ref 1]⟩,.one ⟨false,[.val (.int .i64 a)]⟩],[.box 76 [.ref 2,.val (.int .i64 b),.val (.int .i64 c)],.row false 9 (.str) d,.row false 5 (.int .u8) e]=>some ⟨aAl (.ref 3),[.box 76 [.ref 2,aAk (wZ a b c d e),aAk (xa a b c d e)],aAn d,aAu e],[aAv (xc a b c d e)],[dtN 3 a b c d e]⟩
 |_,_=>none
def jZ:PF prog:=PF.alt ajw ZX (by
 intro args es o h cL;unfold ZX at h;split at h
 ·rename_i a b c d e
  cases h
  have cL:=kO cL
  have hh:=(awY a b c d e cL).1
  have en:=hh
  exact qm rfl (jv en) rfl rfl rfl
 ·cases h)
abbrev tF:=List aAi×Int×Int×List (aAi×(List (Int×(aAi×Int))))×List aAi×List Int
section
variable (a:List aAi)(b c:Int)(d:aiJ)(e:List aAi)(f:avu)
def CF:Int:=nxV 4 (nxA (↑a.length:Int) b f) (nxS (↑a.length:Int) b c f) f
def CG:Int:=nxA 4 (nxA (↑a.length:Int) b f) f
def CH:Int:=nxS 4 (nxA (↑a.length:Int) b f) (nxS (↑a.length:Int) b c f) f
def Np:aiK:= [(v9 a[v7 (nxV (↑a.length:Int) b c f)]? ByteArray.empty,xc (CF a b c f) (CG a b f) (CH a b c f) e f)]
def yQ:List aAi:=List.drop (v7 0) (List.take (v7 (nxV (↑a.length:Int) b c f)) a)
def Nq:Int:=qqq .i64 (nxV (↑a.length:Int) b c f + (1:Int))
def GI:List aAi:=List.drop (v7 (Nq a b c f)) (List.take (v7 (↑a.length:Int)) a)
def Qg:Bool:=ltI 0 (↑a.length:Int)
def ac3:Bool:=aG b c f
def WB:Bool:=leI 0 (nxV (↑a.length:Int) b c f)
def ac4:Bool:=ltI (nxV (↑a.length:Int) b c f) (↑a.length:Int)
def ac5:Bool:=ltN (v7 (nxV (↑a.length:Int) b c f)) a.length
def ac6:Bool:=aG (nxA (↑a.length:Int) b f) (nxS (↑a.length:Int) b c f) f
def ac7:Bool:=dtN 3 (CF a b c f) (CG a b f) (CH a b c f) e f
def ac8:Bool:=leN (v8 d + v8 (Np a b c e f)) 9223372036854775807
def ac9:Bool:=leN ((v8 d + v8 (Np a b c e f)) * 40) 140737488355328
end
def ada:Bool:=leI 0 0
section
variable (a:List aAi)(b c:Int)(d:aiJ)(e:List aAi)(f:avu)
def abN:Bool:=leI (nxV (↑a.length:Int) b c f) (↑a.length:Int)
def abO:Bool:=leN (0 + v8 (yQ a b c f)) 9223372036854775807
def abP:Bool:=leN ((0 + v8 (yQ a b c f)) * 16) 140737488355328
def abQ:Bool:=leI 0 (Nq a b c f)
def abR:Bool:=leI (Nq a b c f) (↑a.length:Int)
def abS:Bool:=leI (↑a.length:Int) (↑a.length:Int)
def abT:Bool:=leN (v8 (yQ a b c f) + v8 (GI a b c f)) 9223372036854775807
def abU:Bool:=leN ((v8 (yQ a b c f) + v8 (GI a b c f)) * 16) 140737488355328
def CE:List aAi:=yQ a b c f++GI a b c f
def ak7:Int:=wZ (CF a b c f) (CG a b f) (CH a b c f) e f
def ak8:Int:=xa (CF a b c f) (CG a b f) (CH a b c f) e f
def Nn:aiJ:=d++Np a b c e f
end
def akj:tF→List (Nat×SV)
 |(_,_,_,_,_,_)=> [(7,(aAl (.ref 0))),(0,(aAl (.ptr 1 0))),(8,(aAl (.ref 2))),(6,(aAl (.ref 3)))]
def akc:tF→List (Nat×Entry)
 |(a,b,c,d,e,f)=> [(1,(.box 76 [.ref 4,aAk b,aAk c])),(3,(aAn e)),(4,(aAu f)),(0,(aAn a)),(2,(aAA d))]
def akx:Nat→tF→List (Nat×SV)
 |_,(_,_,_,_,_,_)=> [(8,(aAl (.ref 2)))]
def akq:Nat→tF→List (Nat×Entry)
 |_,(a,b,c,d,e,f)=> [(0,(aAn a)),(1,(.box 76 [.ref 4,aAk b,aAk c])),(2,(aAA d)),(3,(aAn e)),(4,(aAu f))]
def MZ:tF→LT tF
 |(a,b,c,d,e,f)=> .ite (Qg a) (.need [ac3 b c f] (.need [WB a b c f,ac4 a b c f,ac5 a b c f,ac6 a b c f,ac7 a b c e f,ac8 a b c d e f,ac9 a b c d e f] (.need [ada,WB a b c f,abN a b c f,abO a b c f,abP a b c f,abQ a b c f,abR a b c f,abS a,abT a b c f,abU a b c f] (.nrm ((CE a b c f),ak7 a b c e f,ak8 a b c e f,Nn a b c d e f,e,f) [(0,2048),(1,1),(2,1344),(3,3),(4,4)])))) (.ext 0 [(0,0),(1,1),(2,2),(3,3),(4,4)])
def Uq(s:St):Option tF:=do
 let some ⟨none,.one ⟨false,[.ref 1984]⟩⟩:=s.look 7|none
 let some ⟨none,.one ⟨false,[.ptr 0 0]⟩⟩:=s.look 0|none
 let some ⟨none,.one ⟨false,[.ref 2112]⟩⟩:=s.look 8|none
 let some ⟨none,.one ⟨false,[.ref 1600]⟩⟩:=s.look 6|none
 let some (.box 76 [.ref 1,.val (.int .i64 b),.val (.int .i64 c)]):=s.ent 0|none
 let some (.row false 9 (.str) e):=s.ent 1600|none
 let some (.row false 5 (.int IntKind.u8) f):=s.ent 1|none
 let some (.row false 9 (.str) a):=s.ent 1984|none
 let some (.row true 91 (.pair .str (.sl 66 (.pair (.int .i64) (.pair .str (.int .i64))))) d):=s.ent 2112|none
 some (a,b,c,d,e,f)
def np:Lp tF where
 h:=⟨[36,37,38,39,40,41,42,9,43,44,45,46,47,48,49,50,51,52,53,54,55,8,56,57,58,59,60,61,62,63,64,65,7],[1,3,4],[0,2],[]⟩
 JL:=akj
 JE:=akc
 XL:=akx
 XE:=akq
 q:=fun j=>match j with | _=> .exit 0
 tags:= [0]
 lt:=MZ
 fuel:=fun(a,b,c,d,e,f)=>a.length + b.natAbs + c.natAbs + d.length + e.length + f.length
 fix:=fun(_,_,_,_,e,f) (a,b,c,d,_,_)=>(a,b,c,d,e,f)
 σ:= [(1,0),(3,1600),(4,1),(0,1984),(2,2112)]
 rd:=Uq
 fz:= [1000007,1000006]
theorem aie:LoopOk prog (fun k=>Nat.blt k Tryz.f39.ntmps) np.F (bc f39 0):=by
 refine Lp.ok (tbl:= (T3z [ai,jZ])) (lf:= []) aU np (by kernel_rfl) (LOk.nil _) (fun _=>rfl) (fun _ _=>rfl) ?_ ?_ ?_ ?_ (fun _=>rfl) ?_
 ·intro _;kernel_rfl
 ·intro _;kernel_rfl
 ·intro s x h
  have h:Uq s=some x:=h
  unfold Uq at h
  repeat' split at h
  all_goals cases h
  constructor<;>repeat(first|refine ab ‹_› rfl ?_|refine aa rfl ‹_› rfl ?_|rfl)
 ·intro _;kernel_rfl
 ·intro _ _;exact(And.intro rfl trivial)
section
variable (a b:Int)(c:avu)
def Br:Int:=nxV 4 (nxA 3 a c) (nxS 3 a b c) c
def ka:List aAi:=List.take (v7 (Br a b c)) [ByteArray.mk #[120],ByteArray.mk #[121],ByteArray.mk #[122]]
def Bs:Int:=nxA 4 (nxA 3 a c) c
def HR:Int:=nxS 4 (nxA 3 a c) (nxS 3 a b c) c
def Ew:Int:=qqq .i64 ((1:Int) + nxV 2 (Bs a c) (HR a b c) c)
def sA:List aAi:=List.take (v7 (Ew a b c)) [ByteArray.mk #[113],ByteArray.mk #[108,97,109,112]]
def Ey:Int:=qqq .i64 ((1:Int) + nxV 3 a b c)
def qI:List aAi:=List.take (v7 (Ey a b c)) [ByteArray.mk #[97],ByteArray.mk #[98],ByteArray.mk #[107,101,121]]
def na:List aAi:=qI a b c++ka a b c
def TI:List aAi×Int×Int×aiK×List aAi×avu:=(ka a b c++sA a b c,nxA 2 (Bs a c) c,nxS 2 (Bs a c) (HR a b c) c,[],na a b c,c)
def Li:Int×Int×aiK×List aAi×avu:=(Lp.res np (TI a b c)).2.2
def oX:Int:=(Li a b c).1
def Sq:Int×aiK×List aAi×avu:=(Li a b c).2
def FD:Int:=(Sq a b c).1
def sK:Bool:=ltI 0 (nxV 3 (oX a b c) (FD a b c) c)
def FE:Int:=nxS 3 (oX a b c) (FD a b c) c
def CD:Int:=nxV (↑(v8 (na a b c)):Int) (nxA 3 (oX a b c) c) (FE a b c) c
def XV:Bool:=leN (0 + v8 (qI a b c)) 9223372036854775807
def XW:Bool:=leN ((0 + v8 (qI a b c)) * 16) 140737488355328
def XX:Bool:=leN (0 + v8 (ka a b c)) 9223372036854775807
def XY:Bool:=leN ((0 + v8 (ka a b c)) * 16) 140737488355328
def qT:aAi:=bif sK a b c then ByteArray.mk #[114,105,100,101]else ByteArray.mk #[114,105,100,101]
def sy:aAi:=bif sK a b c then v9 (na a b c)[v7 (CD a b c)]? ByteArray.empty else ByteArray.mk #[]
def qU:Int:=bif sK a b c then nxA (↑(v8 (na a b c)):Int) (nxA 3 (oX a b c) c) c else nxA 3 (oX a b c) c
def DI:Int:=bif sK a b c then nxS (↑(v8 (na a b c)):Int) (nxA 3 (oX a b c) c) (FE a b c) c else FE a b c
def nz:List aAi:=qI a b c
def fo:List aAi:=ka a b c
def qV:List aAi:=sA a b c
def gA:aiJ:=((Sq a b c).2).1
def abM:Bool:=allT [aG a b c,leI 0 (Ey a b c),leI (Ey a b c) (↑(v8 [ByteArray.mk #[97],ByteArray.mk #[98],ByteArray.mk #[107,101,121]]):Int),aG (nxA 3 a c) (nxS 3 a b c) c,leI 0 (Br a b c),leI (Br a b c) (↑(v8 [ByteArray.mk #[120],ByteArray.mk #[121],ByteArray.mk #[122]]):Int),aG (Bs a c) (HR a b c) c,leI 0 (Ew a b c),leI (Ew a b c) (↑(v8 [ByteArray.mk #[113],ByteArray.mk #[108,97,109,112]]):Int),XV a b c,XW a b c,leN (v8 (qI a b c) + v8 (ka a b c)) 9223372036854775807,leN ((v8 (qI a b c) + v8 (ka a b c)) * 16) 140737488355328,XX a b c,XY a b c,leN (v8 (ka a b c) + v8 (sA a b c)) 9223372036854775807,leN ((v8 (ka a b c) + v8 (sA a b c)) * 16) 140737488355328,Lp.fin np (TI a b c),XV a b c,XW a b c,XX a b c,XY a b c,leN (0 + v8 (sA a b c)) 9223372036854775807,leN ((0 + v8 (sA a b c)) * 16) 140737488355328,aG (oX a b c) (FD a b c) c,!sK a b c||aG (nxA 3 (oX a b c) c) (FE a b c) c,!sK a b c||leI 0 (CD a b c),!sK a b c||ltI (CD a b c) (↑(v8 (na a b c)):Int),!sK a b c||ltN (v7 (CD a b c)) (v8 (na a b c))]
end
def ahh:aAj
 | [.one ⟨false,[.ptr 0 0]⟩],[.box 76 [.ref 1,.val (.int .i64 a),.val (.int .i64 b)],.row false 5 (.int .u8) c]=>some ⟨.one ⟨true,[.val (.string (qT a b c)),.ref 2,.ref 3,.ref 4,.val (.string (sy a b c)),.ref 5]⟩,[.box 76 [.ref 1,aAk (qU a b c),aAk (DI a b c)],aAu c],[aAr (nz a b c),aAr (fo a b c),aAr (qV a b c),aAA (gA a b c)],[abM a b c]⟩
 |_,_=>none
def ap8:PF prog:=PF.ofG prog (T3z [ai,jZ]) [(fun s=>np.F (amZ [(1000007,0),(1000006,0)] s))] aU 39 f39 func39 (LOk.fnT (l:= [bc f39 0]) (by kernel_rfl) (.cons (aie.alias [(1000007,0),(1000006,0)]) (.nil _))) ahh (by
 intro _ _ _ h;unfold ahh at h;split at h<;>cases h;kernel_rfl)
abbrev gC:=List (Int×(aAi×Int))×Int×Int×List Int
section
variable (a:aor)(b c:Int)(d:avu)
def Fk:Bool:=aG b c d
def Fl:Bool:=ltI (↑a.length:Int) (qqq .i64 ((40:Int) + nxV 2 b c d))
def Fm:Bool:=leN (v8 a + v8 [((4:Int),ByteArray.mk #[],(0:Int))]) 9223372036854775807
def Fo:Bool:=leN ((v8 a + v8 [((4:Int),ByteArray.mk #[],(0:Int))]) * 32) 140737488355328
def Fp:aor:=a++ [((4:Int),ByteArray.mk #[],(0:Int))]
def qk:Int:=nxA 2 b d
def ql:Int:=nxS 2 b c d
end
def Zl:gC→List (Nat×SV)
 |(_,_,_,_)=> [(3,(aAl (.ref 0))),(0,(aAl (.ptr 1 0)))]
def Zk:gC→List (Nat×Entry)
 |(a,b,c,d)=> [(1,(.box 76 [.ref 2,aAk b,aAk c])),(2,(aAu d)),(0,(aAv a))]
def Zo:Nat→gC→List (Nat×SV)
 |_,(_,_,_,_)=> [(3,(aAl (.ref 0)))]
def Zn:Nat→gC→List (Nat×Entry)
 |_,(a,b,c,d)=> [(0,(aAv a)),(1,(.box 76 [.ref 2,aAk (qk b d),aAk (ql b c d)])),(2,(aAu d))]
def Es:gC→LT gC
 |(a,b,c,d)=> .need [Fk b c d] (.ite (Fl a b c d) (.need [Fm a,Fo a] (.nrm ((Fp a),qk b d,ql b c d,d) [(0,640),(1,1),(2,2)])) (.ext 0 [(0,0),(1,1),(2,2)]))
def Ev(s:St):Option gC:=do
 let some ⟨none,.one ⟨false,[.ref 512]⟩⟩:=s.look 3|none
 let some ⟨none,.one ⟨false,[.ptr 0 0]⟩⟩:=s.look 0|none
 let some (.box 76 [.ref 1,.val (.int .i64 b),.val (.int .i64 c)]):=s.ent 0|none
 let some (.row false 5 (.int IntKind.u8) d):=s.ent 1|none
 let some (.row true 66 (.pair (.int .i64) (.pair .str (.int .i64))) a):=s.ent 512|none
 some (a,b,c,d)
def dE:Lp gC where
 h:=⟨[52,53,54,55,56,57,58,59,60,61,3],[1,2],[0],[]⟩
 JL:=Zl
 JE:=Zk
 XL:=Zo
 XE:=Zn
 q:=fun j=>match j with | _=> .exit 1
 tags:= [0]
 lt:=Es
 fuel:=fun(a,b,c,d)=>a.length + b.natAbs + c.natAbs + d.length
 fix:=fun(_,_,_,d) (a,b,c,_)=>(a,b,c,d)
 σ:= [(1,0),(2,1),(0,512)]
 rd:=Ev
theorem XJ:LoopOk prog (fun k=>Nat.blt k Tryz.f71.ntmps) dE.F (bc f71 0):=by
 refine Lp.ok (tbl:= (T3z [ai,cQ,jZ])) (lf:= []) aU dE (by kernel_rfl) (LOk.nil _) (fun _=>rfl) (fun _ _=>rfl) ?_ ?_ ?_ ?_ (fun _=>rfl) ?_
 ·intro _;kernel_rfl
 ·intro _;kernel_rfl
 ·intro s x h
  have h:Ev s=some x:=h
  unfold Ev at h
  repeat' split at h
  all_goals cases h
  constructor<;>repeat(first|refine ab ‹_› rfl ?_|refine aa rfl ‹_› rfl ?_|rfl)
 ·intro _;kernel_rfl
 ·intro _ _;exact(And.intro rfl trivial)
section
variable (a b:Int)(c:avu)
def fl:aoQ:=xc (nxV 4 a b c) (nxA 4 a c) (nxS 4 a b c) [ByteArray.mk #[97],ByteArray.mk #[98],ByteArray.mk #[103,97,116,101]] c
def cX:Int:=(↑(v8 (fl a b c)):Int)
def ji:Int:=wZ (nxV 4 a b c) (nxA 4 a c) (nxS 4 a b c) [ByteArray.mk #[97],ByteArray.mk #[98],ByteArray.mk #[103,97,116,101]] c
def Bw:Int:=xa (nxV 4 a b c) (nxA 4 a c) (nxS 4 a b c) [ByteArray.mk #[97],ByteArray.mk #[98],ByteArray.mk #[103,97,116,101]] c
def Bx:Int:=nxS (cX a b c) (ji a b c) (Bw a b c) c
def wO:Int:=nxV 24 (nxA (cX a b c) (ji a b c) c) (Bx a b c) c
def aW:Bool:=wO a b c==0
def cu:Int:=nxA 24 (nxA (cX a b c) (ji a b c) c) c
def bK:Bool:=wO a b c==1
def fm:Bool:=wO a b c==2
def nu:Bool:=wO a b c==3
def uV:Bool:=wO a b c==4
def dJ:Int:=nxS 24 (nxA (cX a b c) (ji a b c) c) (Bx a b c) c
def qS:aoQ×Int×Int×avu:=(fl a b c,cu a b c,dJ a b c,c)
def nv:Int×Int×avu:=(Lp.res dE (qS a b c)).2.2
def bO:Int:=nxV (cX a b c) (ji a b c) (Bw a b c) c
def ny:Int×aAi×Int:=v9 (fl a b c)[v7 (bO a b c)]? ((0:Int),ByteArray.empty,(0:Int))
def iA:Int:=nxV 4 (cu a b c) (dJ a b c) c
def Az:Bool:=ltN (v7 (bO a b c)) (v8 (fl a b c))
def yg:Int:=bif aW a b c then pkA (cu a b c) [(0:Int),(4:Int),(5:Int),(13:Int)] c else bif bK a b c then nxA 4 (cu a b c) c else bif fm a b c then pkA (cu a b c) [(-1:Int),(1:Int),(9999:Int),(10000:Int)] c else bif nu a b c then cu a b c else bif uV a b c then qk ((nv a b c).1) c else cu a b c
def yh:Int:=bif aW a b c then pkS (cu a b c) (dJ a b c) [(0:Int),(4:Int),(5:Int),(13:Int)] c else bif bK a b c then nxS 4 (cu a b c) (dJ a b c) c else bif fm a b c then pkS (cu a b c) (dJ a b c) [(-1:Int),(1:Int),(9999:Int),(10000:Int)] c else bif nu a b c then dJ a b c else bif uV a b c then ql ((nv a b c).1) (((nv a b c).2).1) c else dJ a b c
def yj:aor:=bif aW a b c then List.set (fl a b c) (v7 (bO a b c)) (pkV (cu a b c) (dJ a b c) [(0:Int),(4:Int),(5:Int),(13:Int)] c,((ny a b c).2).1,(ny a b c).2.2)else bif bK a b c then List.set (fl a b c) (v7 (bO a b c)) ((ny a b c).1,v9 [ByteArray.mk #[],ByteArray.mk #[97,110,100],ByteArray.mk #[120],ByteArray.mk #[89]][v7 (iA a b c)]? ByteArray.empty,(ny a b c).2.2)else bif fm a b c then List.set (fl a b c) (v7 (bO a b c)) ((ny a b c).1,((ny a b c).2).1,pkV (cu a b c) (dJ a b c) [(-1:Int),(1:Int),(9999:Int),(10000:Int)] c)else bif nu a b c then List.take (v7 (bO a b c)) (fl a b c)else bif uV a b c then ((Lp.res dE (qS a b c)).2).1else fl a b c
def Ji:Bool:=allT [aG a b c,dtN 3 (nxV 4 a b c) (nxA 4 a c) (nxS 4 a b c) [ByteArray.mk #[97],ByteArray.mk #[98],ByteArray.mk #[103,97,116,101]] c,aG (ji a b c) (Bw a b c) c,aG (nxA (cX a b c) (ji a b c) c) (Bx a b c) c,!aW a b c||aG (cu a b c) (dJ a b c) c&&leN 1 (v8 [(0:Int),(4:Int),(5:Int),(13:Int)]),!aW a b c||leI 0 (bO a b c),!aW a b c||ltI (bO a b c) (cX a b c),!aW a b c||Az a b c,aW a b c||(!bK a b c||aG (cu a b c) (dJ a b c) c),aW a b c||(!bK a b c||leI 0 (iA a b c)),aW a b c||(!bK a b c||ltI (iA a b c) (↑(v8 [ByteArray.mk #[],ByteArray.mk #[97,110,100],ByteArray.mk #[120],ByteArray.mk #[89]]):Int)),aW a b c||(!bK a b c||ltN (v7 (iA a b c)) (v8 [ByteArray.mk #[],ByteArray.mk #[97,110,100],ByteArray.mk #[120],ByteArray.mk #[89]])),aW a b c||(!bK a b c||leI 0 (bO a b c)),aW a b c||(!bK a b c||ltI (bO a b c) (cX a b c)),aW a b c||(!bK a b c||Az a b c),aW a b c||(bK a b c||(!fm a b c||aG (cu a b c) (dJ a b c) c&&leN 1 (v8 [(-1:Int),(1:Int),(9999:Int),(10000:Int)]))),aW a b c||(bK a b c||(!fm a b c||leI 0 (bO a b c))),aW a b c||(bK a b c||(!fm a b c||ltI (bO a b c) (cX a b c))),aW a b c||(bK a b c||(!fm a b c||Az a b c)),aW a b c||(bK a b c||(fm a b c||(!nu a b c||leI 0 (bO a b c)))),aW a b c||(bK a b c||(fm a b c||(!nu a b c||leI (bO a b c) (cX a b c)))),aW a b c||(bK a b c||(fm a b c||(nu a b c||(!uV a b c||Lp.fin dE (qS a b c)))))]
end
def Tk:aAj
 | [.one ⟨false,[.ptr 0 0]⟩],[.box 76 [.ref 1,.val (.int .i64 a),.val (.int .i64 b)],.row false 5 (.int .u8) c]=>some ⟨aAl (.ref 2),[.box 76 [.ref 1,aAk (yg a b c),aAk (yh a b c)],aAu c],[aAv (yj a b c)],[Ji a b c]⟩
 |_,_=>none
def adX:PF prog:=PF.ofG prog (T3z [ai,cQ,jZ]) [dE.F] aU 71 f71 func71 (LOk.fnT (l:= [bc f71 0]) (by kernel_rfl) (.cons XJ (.nil _))) Tk (by
 intro _ _ _ h;unfold Tk at h;split at h<;>cases h;kernel_rfl)
abbrev kP:=Int×aAi×aAi×List Int×Int×Int×List aAi×List aAi×List aAi×List (aAi×(List (Int×(aAi×Int))))×List Int
section
variable (a:Int)(b:avu)(c d:Int)(e:List aAi)(f:avu)
def ym:avu:= [nxV 2 c d f]
def Lm:Bool:=ltI a (↑e.length:Int)
def Ln:Bool:=aG c d f
def Lo:Bool:=leN (v8 b + v8 (ym c d f)) 9223372036854775807
def Lq:Bool:=leN ((v8 b + v8 (ym c d f)) * 8) 140737488355328
def Lr:Int:=qqq .i64 (a + (1:Int))
def Lt:avu:=b++ym c d f
def Lu:Int:=nxA 2 c f
def Lv:Int:=nxS 2 c d f
end
def adn:kP→List (Nat×SV)
 |(a,_,_,_,_,_,_,_,_,_,_)=> [(6,(aAm a)),(3,(aAl (.ptr 0 0))),(5,(aAl (.ref 1))),(0,(aAl (.ptr 2 0)))]
def adj:kP→List (Nat×Entry)
 |(_,a,b,c,d,e,f,g,i,j,k)=> [(0,(.box 27 [.val (.string a),.ref 3,.ref 4,.ref 5,.val (.string b),.ref 6])),(2,(.box 76 [.ref 7,aAk d,aAk e])),(3,(aAn f)),(4,(aAn g)),(5,(aAn i)),(6,(aAs j)),(7,(aAu k)),(1,(aAo c))]
def adv:Nat→kP→List (Nat×SV)
 |_,(_,_,_,_,_,_,_,_,_,_,_)=> [(5,(aAl (.ref 1)))]
def adr:Nat→kP→List (Nat×Entry)
 |_,(_,a,b,c,d,e,f,g,i,j,k)=> [(0,(.box 27 [.val (.string a),.ref 3,.ref 4,.ref 5,.val (.string b),.ref 6])),(1,(aAo c)),(2,(.box 76 [.ref 7,aAk d,aAk e])),(3,(aAn f)),(4,(aAn g)),(5,(aAn i)),(6,(aAs j)),(7,(aAu k))]
def Jd:kP→LT kP
 |(a,b,c,d,e,f,g,i,j,k,l)=> .ite (Lm a g) (.need [Ln e f l,Lo d e f l,Lq d e f l] (.nrm ((Lr a),b,c,Lt d e f l,Lu e l,Lv e f l,g,i,j,k,l) [(0,0),(1,640),(2,2),(3,3),(4,4),(5,5),(6,6),(7,7)])) (.ext 0 [(0,0),(1,1),(2,2),(3,3),(4,4),(5,5),(6,6),(7,7)])
def Je(s:St):Option kP:=do
 let some ⟨none,.one ⟨false,[.val (.int .i64 a)]⟩⟩:=s.look 6|none
 let some ⟨none,.one ⟨false,[.ptr 448 0]⟩⟩:=s.look 3|none
 let some ⟨none,.one ⟨false,[.ref 576]⟩⟩:=s.look 5|none
 let some ⟨none,.one ⟨false,[.ptr 0 0]⟩⟩:=s.look 0|none
 let some (.box 27 [.val (.string b),.ref 1,.ref 2,.ref 3,.val (.string c),.ref 4]):=s.ent 448|none
 let some (.box 76 [.ref 5,.val (.int .i64 e),.val (.int .i64 f)]):=s.ent 0|none
 let some (.row false 9 (.str) g):=s.ent 1|none
 let some (.row false 9 (.str) i):=s.ent 2|none
 let some (.row false 9 (.str) j):=s.ent 3|none
 let some (.row false 91 (.pair .str (.sl 66 (.pair (.int .i64) (.pair .str (.int .i64))))) k):=s.ent 4|none
 let some (.row false 5 (.int IntKind.u8) l):=s.ent 5|none
 let some (.row true 2 (.int .i64) d):=s.ent 576|none
 some (a,b,c,d,e,f,g,i,j,k,l)
def ib:Lp kP where
 h:=⟨[8,9,10,11,12,15,16,17,18,19,5,13,14,6],[0,2,3,4,5,6,7],[1],[]⟩
 JL:=adn
 JE:=adj
 XL:=adv
 XE:=adr
 q:=fun j=>match j with | _=> .exit 0
 tags:= [0]
 lt:=Jd
 fuel:=fun(a,b,c,d,e,f,g,i,k,l,m)=>a.natAbs + b.size + c.size + d.length + e.natAbs + f.natAbs + g.length + i.length + k.length + l.length + m.length
 fix:=fun(_,b,c,_,_,_,g,i,k,l,m) (a,_,_,d,e,f,_,_,_,_,_)=>(a,b,c,d,e,f,g,i,k,l,m)
 σ:= [(0,448),(2,0),(3,1),(4,2),(5,3),(6,4),(7,5),(1,576)]
 rd:=Je
theorem abb:LoopOk prog (fun k=>Nat.blt k Tryz.f18.ntmps) ib.F (bc f18 0):=by
 refine Lp.ok (tbl:= (T3z [ai,cQ])) (lf:= []) aU ib (by kernel_rfl) (LOk.nil _) (fun _=>rfl) (fun _ _=>rfl) ?_ ?_ ?_ ?_ (fun _=>rfl) ?_
 ·intro _;kernel_rfl
 ·intro _;kernel_rfl
 ·intro s x h
  have h:Je s=some x:=h
  unfold Je at h
  repeat' split at h
  all_goals cases h
  constructor<;>repeat(first|refine ab ‹_› rfl ?_|refine aa rfl ‹_› rfl ?_|rfl)
 ·intro _;kernel_rfl
 ·intro _ _;exact(And.intro rfl trivial)
section
variable (a b:aAi)(c d:Int)(e f g:List aAi)(i:aiK)(j:avu)
def Hs:Int×aAi×aAi×avu×Int×Int×List aAi×List aAi×List aAi×aiK×avu:=((0:Int),a,b,[],c,d,e,f,g,i,j)
def Cd:avu×Int×Int×List aAi×List aAi×List aAi×aiK×avu:=(Lp.res ib (Hs a b c d e f g i j)).2.2.2.2
def Ht:Int×Int×List aAi×List aAi×List aAi×aiK×avu:=(Cd a b c d e f g i j).2
def xU:Int:=(Ht a b c d e f g i j).1
def Ce:Int:=((Ht a b c d e f g i j).2).1
def Xu:Int:=nxV 40 (xU a b c d e f g i j) (Ce a b c d e f g i j) j
def nY:Bool:=Xu a b c d e f g i j==0
def nZ:Int:=nxA 40 (xU a b c d e f g i j) j
def tC:Bool:=Xu a b c d e f g i j==1
def lD:avu:=(Cd a b c d e f g i j).1
def iF:Bool:=ltI 0 (↑(v8 (lD a b c d e f g i j)):Int)
def pz:Int:=nxS 40 (xU a b c d e f g i j) (Ce a b c d e f g i j) j
def rz:Int:=bif nY a b c d e f g i j then nZ a b c d e f g i j else bif tC a b c d e f g i j then bif iF a b c d e f g i j then pkA (nZ a b c d e f g i j) [(-1:Int),(2:Int)] j else nZ a b c d e f g i j else nZ a b c d e f g i j
def vm:Int:=bif nY a b c d e f g i j then pz a b c d e f g i j else bif tC a b c d e f g i j then bif iF a b c d e f g i j then pkS (nZ a b c d e f g i j) (pz a b c d e f g i j) [(-1:Int),(2:Int)] j else pz a b c d e f g i j else pz a b c d e f g i j
def zD:avu:=bif nY a b c d e f g i j then lD a b c d e f g i j++ [(0:Int)]else bif tC a b c d e f g i j then bif iF a b c d e f g i j then List.set (lD a b c d e f g i j) (v7 0) (pkV (nZ a b c d e f g i j) (pz a b c d e f g i j) [(-1:Int),(2:Int)] j)else lD a b c d e f g i j else lD a b c d e f g i j
def IC:Bool:=allT [Lp.fin ib (Hs a b c d e f g i j),aG (xU a b c d e f g i j) (Ce a b c d e f g i j) j,!nY a b c d e f g i j||leN (v8 (lD a b c d e f g i j) + v8 [(0:Int)]) (9223372036854775807:Nat),!nY a b c d e f g i j||leN ((v8 (lD a b c d e f g i j) + v8 [(0:Int)]) * (8:Nat)) 140737488355328,nY a b c d e f g i j||(!tC a b c d e f g i j||(!iF a b c d e f g i j||aG (nZ a b c d e f g i j) (pz a b c d e f g i j) j&&leN 1 (v8 [(-1:Int),(2:Int)]))),nY a b c d e f g i j||(!tC a b c d e f g i j||(!iF a b c d e f g i j||leI 0 0)),nY a b c d e f g i j||(!tC a b c d e f g i j||(!iF a b c d e f g i j||iF a b c d e f g i j)),nY a b c d e f g i j||(!tC a b c d e f g i j||(!iF a b c d e f g i j||ltN (v7 0) (v8 (lD a b c d e f g i j))))]
end
def Yy:aAj
 | [.one ⟨false,[.ptr 0 0]⟩,.one ⟨true,[.val (.string a),.ref 1,.ref 2,.ref 3,.val (.string b),.ref 4]⟩],[.box 76 [.ref 5,.val (.int .i64 c),.val (.int .i64 d)],.row false 9 (.str) e,.row false 9 (.str) f,.row false 9 (.str) g,.row false 91 (.pair (.str) (.sl 66 (.pair (.int .i64) (.pair (.str) (.int .i64))))) i,.row false 5 (.int .u8) j]=>some ⟨aAl (.ref 6),[.box 76 [.ref 5,aAk (rz a b c d e f g i j),aAk (vm a b c d e f g i j)],aAn e,aAn f,aAn g,aAt i,aAu j],[aAo (zD a b c d e f g i j)],[IC a b c d e f g i j]⟩
 |_,_=>none
def gz:PF prog:=PF.ofG prog (T3z [ai,cQ]) [ib.F] aU 18 f18 func18 (LOk.fnT (l:= [bc f18 0]) (by kernel_rfl) (.cons abb (.nil _))) Yy (by
 intro _ _ _ h;unfold Yy at h;split at h<;>cases h;kernel_rfl)
abbrev kg:=Int×List (List Int)×List Int
section
variable (a:Int)(b:at1)(c:avu)
def Jj:Bool:=leI 0 a
def Jk:Bool:=leN c.length (1048576:Nat)
def Jl:Bool:=leN (v8 b + v8 [c]) (9223372036854775807:Nat)
def Jm:Bool:=leN ((v8 b + v8 [c]) * (24:Nat)) 140737488355328
def Jn:Int:=qqq .i64 (a - (1:Int))
def Jo:at1:=b++ [c]
end
def aci:kg→List (Nat×SV)
 |(a,_,_)=> [(8,(aAm a)),(5,(aAl (.ref 0))),(7,(aAl (.ref 1)))]
def ach:kg→List (Nat×Entry)
 |(_,a,b)=> [(1,(aAo b)),(0,(aAB a))]
def ack:Nat→kg→List (Nat×SV)
 |_,(_,_,_)=> [(5,(aAl (.ref 0)))]
def acj:Nat→kg→List (Nat×Entry)
 |_,(_,a,b)=> [(0,(aAB a)),(1,(aAo b))]
def HH:kg→LT kg
 |(a,b,c)=> .ite (Jj a) (.need [Jk c,Jl b c,Jm b c] (.nrm ((Jn a),Jo b c,c) [(0,448),(1,1)])) (.ext 0 [(0,0),(1,1)])
def HI(s:St):Option kg:=do
 let some ⟨none,.one ⟨false,[.val (.int .i64 a)]⟩⟩:=s.look 8|none
 let some ⟨none,.one ⟨false,[.ref 2]⟩⟩:=s.look 5|none
 let some ⟨none,.one ⟨false,[.ref 320]⟩⟩:=s.look 7|none
 let some (.row true 2 (.int .i64) c):=s.ent 320|none
 let some (.row true 28 (.sl 2 (.int .i64)) b):=s.ent 2|none
 some (a,b,c)
def gt:Lp kg where
 h:=⟨[21,22,25,26,27,28,29,5,23,24,8],[1],[0],[]⟩
 JL:=aci
 JE:=ach
 XL:=ack
 XE:=acj
 q:=fun j=>match j with | _=> .exit 2
 tags:= [0]
 lt:=HH
 fuel:=fun(a,b,c)=>a.natAbs + b.length + c.length
 fix:=fun(_,_,c) (a,b,_)=>(a,b,c)
 σ:= [(1,320),(0,2)]
 rd:=HI
theorem aam:LoopOk prog (memN [12,13,16,17,18,7,19,20,8,21,22,25,26,27,28,29,5,23,24,14,15,6]) gt.F (ZA (bc f41 0) 0):=by
 refine Lp.ok (tbl:= (T3z [gz,ai,cM])) (lf:= []) aU gt (by kernel_rfl) (LOk.nil _) (fun _=>rfl) (fun _ _=>rfl) ?_ ?_ ?_ ?_ (fun _=>rfl) ?_
 ·intro _;kernel_rfl
 ·intro _;kernel_rfl
 ·intro s x h
  have h:HI s=some x:=h
  unfold HI at h
  repeat' split at h
  all_goals cases h
  constructor<;>repeat(first|refine ab ‹_› rfl ?_|refine aa rfl ‹_› rfl ?_|rfl)
 ·intro _;kernel_rfl
 ·intro _ _;exact(And.intro rfl trivial)
abbrev nB:=Int×Int×Int×aAi×aAi×List (List Int)×List Int×List aAi×List aAi×List aAi×List (aAi×(List (Int×(aAi×Int))))
section
variable (a b c:Int)(d e:aAi)(f:at1)(g:avu)(i j k:List aAi)(l:aiJ)
def Fu:Int×at1×avu:=(nxV 4 (rz d e b c i j k l g) (vm d e b c i j k l g) g,f,zD d e b c i j k l g)
def Pz:Bool:=ltI 0 a
def PA:Bool:=IC d e b c i j k l g
def Xw:Bool:=aG (rz d e b c i j k l g) (vm d e b c i j k l g) g
def Xx:Bool:=Lp.fin gt (Fu b c d e f g i j k l)
def PB:Int:=qqq .i64 (a - (1:Int))
def Xy:Int:=nxA 4 (rz d e b c i j k l g) g
def Xz:Int:=nxS 4 (rz d e b c i j k l g) (vm d e b c i j k l g) g
def PC:at1:=((Lp.res gt (Fu b c d e f g i j k l)).2.2).1
end
def ae7:nB→List (Nat×SV)
 |(a,_,_,_,_,_,_,_,_,_,_)=> [(6,(aAm a)),(0,(aAl (.ptr 0 0))),(3,(aAl (.ptr 1 0))),(5,(aAl (.ref 2)))]
def ae1:nB→List (Nat×Entry)
 |(_,a,b,c,d,e,f,g,i,j,k)=> [(0,(.box 76 [.ref 3,aAk a,aAk b])),(1,(.box 27 [.val (.string c),.ref 4,.ref 5,.ref 6,.val (.string d),.ref 7])),(3,(aAu f)),(4,(aAn g)),(5,(aAn i)),(6,(aAn j)),(7,(aAs k)),(2,(aAB e))]
def afj:Nat→nB→List (Nat×SV)
 |_,(_,_,_,_,_,_,_,_,_,_,_)=> [(5,(aAl (.ref 2)))]
def afd:Nat→nB→List (Nat×Entry)
 |_,(_,a,b,c,d,e,f,g,i,j,k)=> [(0,(.box 76 [.ref 3,aAk a,aAk b])),(1,(.box 27 [.val (.string c),.ref 4,.ref 5,.ref 6,.val (.string d),.ref 7])),(2,(aAB e)),(3,(aAu f)),(4,(aAn g)),(5,(aAn i)),(6,(aAn j)),(7,(aAs k))]
def Na:nB→LT nB
 |(a,b,c,d,e,f,g,i,j,k,l)=> .ite (Pz a) (.need [PA b c d e g i j k l] (.need [Xw b c d e g i j k l] (.need [Xx b c d e f g i j k l] (.nrm ((PB a),Xy b c d e g i j k l,Xz b c d e g i j k l,d,e,PC b c d e f g i j k l,g,i,j,k,l) [(0,0),(1,1),(2,640),(3,3),(4,4),(5,5),(6,6),(7,7)])))) (.ext 0 [(0,0),(1,1),(2,2),(3,3),(4,4),(5,5),(6,6),(7,7)])
def Ni(s:St):Option nB:=do
 let some ⟨none,.one ⟨false,[.val (.int .i64 a)]⟩⟩:=s.look 6|none
 let some ⟨none,.one ⟨false,[.ptr 0 0]⟩⟩:=s.look 0|none
 let some ⟨none,.one ⟨false,[.ptr 448 0]⟩⟩:=s.look 3|none
 let some ⟨none,.one ⟨false,[.ref 576]⟩⟩:=s.look 5|none
 let some (.box 76 [.ref 5,.val (.int .i64 b),.val (.int .i64 c)]):=s.ent 0|none
 let some (.box 27 [.val (.string d),.ref 1,.ref 2,.ref 3,.val (.string e),.ref 4]):=s.ent 448|none
 let some (.row false 5 (.int IntKind.u8) g):=s.ent 5|none
 let some (.row false 9 (.str) i):=s.ent 1|none
 let some (.row false 9 (.str) j):=s.ent 2|none
 let some (.row false 9 (.str) k):=s.ent 3|none
 let some (.row false 91 (.pair .str (.sl 66 (.pair (.int .i64) (.pair .str (.int .i64))))) l):=s.ent 4|none
 let some (.row true 28 (.sl 2 (.int .i64)) f):=s.ent 576|none
 some (a,b,c,d,e,f,g,i,j,k,l)
def ki:Lp nB where
 h:=⟨[12,13,16,17,18,7,19,20,8,21,22,25,26,27,28,29,5,23,24,14,15,6],[0,1,3,4,5,6,7],[2],[]⟩
 JL:=ae7
 JE:=ae1
 XL:=afj
 XE:=afd
 q:=fun j=>match j with | _=> .exit 0
 tags:= [0]
 lt:=Na
 fuel:=fun(a,b,c,d,e,f,g,i,k,l,m)=>a.natAbs + b.natAbs + c.natAbs + d.size + e.size + f.length + g.length + i.length + k.length + l.length + m.length
 fix:=fun(_,_,_,d,e,_,g,i,k,l,m) (a,b,c,_,_,f,_,_,_,_,_)=>(a,b,c,d,e,f,g,i,k,l,m)
 σ:= [(0,0),(1,448),(3,5),(4,1),(5,2),(6,3),(7,4),(2,576)]
 rd:=Ni
theorem adQ:LoopOk prog (fun k=>Nat.blt k Tryz.f41.ntmps) ki.F (bc f41 0):=by
 refine Lp.ok (tbl:= (T3z [gz,ai,cM])) (lf:= [gt.F]) aU ki (by kernel_rfl) (LOk.allT (l:= [ZA (bc f41 0) 0]) (by kernel_rfl) (.cons aam (.nil _))) (fun _=>rfl) (fun _ _=>rfl) ?_ ?_ ?_ ?_ (fun _=>rfl) ?_
 ·intro _;kernel_rfl
 ·intro _;kernel_rfl
 ·intro s x h
  have h:Ni s=some x:=h
  unfold Ni at h
  repeat' split at h
  all_goals cases h
  constructor<;>repeat(first|refine ab ‹_› rfl ?_|refine aa rfl ‹_› rfl ?_|rfl)
 ·intro _;kernel_rfl
 ·intro _ _;exact(And.intro rfl trivial)
abbrev nC:=List (List Int)×Int×Int×aAi×aAi×List Int×List aAi×List aAi×List aAi×List (aAi×(List (Int×(aAi×Int))))
section
variable (a:at1)(b c:Int)(d:avu)(e:List aAi)
def AP:at1:= [qqw (v7 (↑e.length:Int)) (0:Int)]
def PD:Bool:=aG b c d
def PE:Bool:=ltI (↑a.length:Int) (qqq .i64 ((200:Int) + nxV 2 b c d))
def PG:Bool:=leI 0 (↑e.length:Int)
def PH:Bool:=leI (↑e.length:Int) (↑e.length:Int)
def PI:Bool:=leI ((↑(8:Nat):Int) * (↑e.length:Int)) 281474976710656
def PJ:Bool:=leI (↑e.length:Int) 9223372036854775807
def PK:Bool:=leN (v8 a + v8 (AP e)) 9223372036854775807
def PL:Bool:=leN ((v8 a + v8 (AP e)) * 24) 140737488355328
def PM:at1:=a++AP e
def xV:Int:=nxA 2 b d
def wC:Int:=nxS 2 b c d
end
def ae8:nC→List (Nat×SV)
 |(_,_,_,_,_,_,_,_,_,_)=> [(5,(aAl (.ref 0))),(0,(aAl (.ptr 1 0))),(3,(aAl (.ptr 2 0)))]
def ae2:nC→List (Nat×Entry)
 |(a,b,c,d,e,f,g,i,j,k)=> [(1,(.box 76 [.ref 3,aAk b,aAk c])),(2,(.box 27 [.val (.string d),.ref 4,.ref 5,.ref 6,.val (.string e),.ref 7])),(3,(aAu f)),(4,(aAn g)),(5,(aAn i)),(6,(aAn j)),(7,(aAs k)),(0,(aAB a))]
def afk:Nat→nC→List (Nat×SV)
 |_,(_,_,_,_,_,_,_,_,_,_)=> [(5,(aAl (.ref 0)))]
def afe:Nat→nC→List (Nat×Entry)
 |_,(a,b,c,d,e,f,g,i,j,k)=> [(0,(aAB a)),(1,(.box 76 [.ref 3,aAk (xV b f),aAk (wC b c f)])),(2,(.box 27 [.val (.string d),.ref 4,.ref 5,.ref 6,.val (.string e),.ref 7])),(3,(aAu f)),(4,(aAn g)),(5,(aAn i)),(6,(aAn j)),(7,(aAs k))]
def Nb:nC→LT nC
 |(a,b,c,d,e,f,g,i,j,k)=> .need [PD b c f] (.ite (PE a b c f) (.need [PG g,PH g,PI g,PJ g,PK a g,PL a g] (.nrm ((PM a g),xV b f,wC b c f,d,e,f,g,i,j,k) [(0,832),(1,1),(2,2),(3,3),(4,4),(5,5),(6,6),(7,7)])) (.ext 0 [(0,0),(1,1),(2,2),(3,3),(4,4),(5,5),(6,6),(7,7)]))
def Nj(s:St):Option nC:=do
 let some ⟨none,.one ⟨false,[.ref 896]⟩⟩:=s.look 5|none
 let some ⟨none,.one ⟨false,[.ptr 0 0]⟩⟩:=s.look 0|none
 let some ⟨none,.one ⟨false,[.ptr 448 0]⟩⟩:=s.look 3|none
 let some (.box 76 [.ref 5,.val (.int .i64 b),.val (.int .i64 c)]):=s.ent 0|none
 let some (.box 27 [.val (.string d),.ref 1,.ref 2,.ref 3,.val (.string e),.ref 4]):=s.ent 448|none
 let some (.row false 5 (.int IntKind.u8) f):=s.ent 5|none
 let some (.row false 9 (.str) g):=s.ent 1|none
 let some (.row false 9 (.str) i):=s.ent 2|none
 let some (.row false 9 (.str) j):=s.ent 3|none
 let some (.row false 91 (.pair .str (.sl 66 (.pair (.int .i64) (.pair .str (.int .i64))))) k):=s.ent 4|none
 let some (.row true 28 (.sl 2 (.int .i64)) a):=s.ent 896|none
 some (a,b,c,d,e,f,g,i,j,k)
def gh:Lp nC where
 h:=⟨[33,34,35,36,37,38,39,40,41,42,43,44,45,5],[1,2,3,4,5,6,7],[0],[]⟩
 JL:=ae8
 JE:=ae2
 XL:=afk
 XE:=afe
 q:=fun j=>match j with | _=> .exit 4
 tags:= [0]
 lt:=Nb
 fuel:=fun(a,b,c,d,e,f,g,i,k,l)=>a.length + b.natAbs + c.natAbs + d.size + e.size + f.length + g.length + i.length + k.length + l.length
 fix:=fun(_,_,_,d,e,f,g,i,k,l) (a,b,c,_,_,_,_,_,_,_)=>(a,b,c,d,e,f,g,i,k,l)
 σ:= [(1,0),(2,448),(3,5),(4,1),(5,2),(6,3),(7,4),(0,896)]
 rd:=Nj
theorem adR:LoopOk prog (fun k=>Nat.blt k Tryz.f41.ntmps) gh.F (bc f41 1):=by
 refine Lp.ok (tbl:= (T3z [gz,ai,cM])) (lf:= []) aU gh (by kernel_rfl) (LOk.nil _) (fun _=>rfl) (fun _ _=>rfl) ?_ ?_ ?_ ?_ (fun _=>rfl) ?_
 ·intro _;kernel_rfl
 ·intro _;kernel_rfl
 ·intro s x h
  have h:Nj s=some x:=h
  unfold Nj at h
  repeat' split at h
  all_goals cases h
  constructor<;>repeat(first|refine ab ‹_› rfl ?_|refine aa rfl ‹_› rfl ?_|rfl)
 ·intro _;kernel_rfl
 ·intro _ _;exact(And.intro rfl trivial)
section
variable (a b:aAi)(c d:Int)(e f g:List aAi)(i:aiK)(j:avu)
def Km:avu×List aAi×List aAi×List aAi×aiK:=(j,e,f,g,i)
def Kn:Int×Int×Int×aAi×aAi×at1×avu×List aAi×List aAi×List aAi×aiK:=(nxV 8 c d j,nxA 8 c j,nxS 8 c d j,a,b,[],Km e f g i j)
def EW:Int×Int×aAi×aAi×at1×avu×List aAi×List aAi×List aAi×aiK:=(Lp.res ki (Kn a b c d e f g i j)).2.2
def Bb:Int:=(EW a b c d e f g i j).1
def Ko:Int×aAi×aAi×at1×avu×List aAi×List aAi×List aAi×aiK:=(EW a b c d e f g i j).2
def EX:Int:=(Ko a b c d e f g i j).1
def EY:Bool:=nxV 80 (Bb a b c d e f g i j) (EX a b c d e f g i j) j==0
def Kp:at1:=((Ko a b c d e f g i j).2.2.2).1
def Kq:Int:=nxA 80 (Bb a b c d e f g i j) j
def Kr:Int:=nxS 80 (Bb a b c d e f g i j) (EX a b c d e f g i j) j
def zE:at1×Int×Int×aAi×aAi×avu×List aAi×List aAi×List aAi×aiK:=(Kp a b c d e f g i j,Kq a b c d e f g i j,Kr a b c d e f g i j,a,b,Km e f g i j)
def DR:Int×Int×aAi×aAi×avu×List aAi×List aAi×List aAi×aiK:=(Lp.res gh (zE a b c d e f g i j)).2.2
def ID:Int:=(DR a b c d e f g i j).1
def rV:Int:=bif EY a b c d e f g i j then xV (ID a b c d e f g i j) j else Kq a b c d e f g i j
def vn:Int:=bif EY a b c d e f g i j then wC (ID a b c d e f g i j) (((DR a b c d e f g i j).2).1) j else Kr a b c d e f g i j
def bp:at1:=bif EY a b c d e f g i j then ((Lp.res gh (zE a b c d e f g i j)).2).1else Kp a b c d e f g i j
def UB:Bool:=allT [aG c d j,Lp.fin ki (Kn a b c d e f g i j),aG (Bb a b c d e f g i j) (EX a b c d e f g i j) j,!EY a b c d e f g i j||Lp.fin gh (zE a b c d e f g i j)]
end
def aaG:aAj
 | [.one ⟨false,[.ptr 0 0]⟩,.one ⟨true,[.val (.string a),.ref 1,.ref 2,.ref 3,.val (.string b),.ref 4]⟩],[.box 76 [.ref 5,.val (.int .i64 c),.val (.int .i64 d)],.row false 9 (.str) e,.row false 9 (.str) f,.row false 9 (.str) g,.row false 91 (.pair (.str) (.sl 66 (.pair (.int .i64) (.pair (.str) (.int .i64))))) i,.row false 5 (.int .u8) j]=>some ⟨aAl (.ref 6),[.box 76 [.ref 5,aAk (rV a b c d e f g i j),aAk (vn a b c d e f g i j)],aAn e,aAn f,aAn g,aAt i,aAu j],[aAB (bp a b c d e f g i j)],[UB a b c d e f g i j]⟩
 |_,_=>none
def ak1:PF prog:=PF.ofG prog (T3z [gz,ai,cM]) [ki.F,gh.F] aU 41 f41 func41 (LOk.fnT (l:= [bc f41 0,bc f41 1]) (by kernel_rfl) (.cons adQ (.cons adR (.nil _)))) aaG (by
 intro _ _ _ h;unfold aaG at h;split at h<;>cases h;kernel_rfl)
theorem S1:(∀ b:Bool,(b||false)=b)∧((false=true)=False)∧(∀ a b:Bool,((a&&b)=true)=(a=true∧b=true))∧(∀ a b:Int,(ltI a b=true)=(a < b))∧(∀ a b:Int,(leI a b=true)=(a≤b))∧(∀ a b:Int,(ltI a b=false)=(b≤a))∧(∀ a b:Int,(leI a b=false)=(b < a)):=by and_intros <;> intros <;> simp
theorem S2:(∀ (α:Type) (a b:List α),(a++b).length=a.length + b.length)∧(∀ (α:Type) (a:α) (l:List α),(a::l).length=l.length + 1)∧(∀ α:Type,([]:List α).length=0):=by and_intros <;> intros <;> simp
theorem tI{a b:Bool}(h:b=true):(a||b)=true:=by rw [h,k8]
theorem FR{b:Bool}{l:List Bool}:allT (b::l)=true↔b=true∧allT l=true:=by cases b <;> simp [allT]
theorem FS:allT []=true↔True:=by simp [allT]
theorem Fh{α:Type}{t:Bool}{l l':List α}{n:Nat}(h:l.length≤n)(h':l'.length≤n):(bif t then l else l').length≤n:=by cases t <;> assumption
def LT.ok{X:Type}(J:X→Prop)(Q:Nat→Prop):LT X→Prop
 | .nrm x _=>J x
 | .ext j _=>Q j
 | .need nd t=>allT nd=true∧t.ok J Q
 | .ite b t e=>(b=true→t.ok J Q)∧(b=false→e.ok J Q)
theorem LT.ok_out{X:Type}{J:X→Prop}{Q:Nat→Prop}: ∀ {t:LT X},t.ok J Q→(∃ j,t.out=some (.inl j)∧Q j)∨ ∃ y,t.out=some (.inr y)∧J y
 | .nrm x _,h=> .inr ⟨x,rfl,h⟩
 | .ext j _,h=> .inl ⟨j,rfl,h⟩
 | .need nd t,h=>by
  simp only [LT.ok]at h
  simp only [LT.out,h.1,cond_true]
  exact LT.ok_out (t:=t) h.2
 | .ite b t e,h=>by
  simp only [LT.ok]at h
  simp only [LT.out]
  cases b with
  |true=>exact LT.ok_out (t:=t) (h.1 rfl)
  |false=>exact LT.ok_out (t:=e) (h.2 rfl)
theorem Lp.inv2{X:Type}(p:Lp X)(I:Nat→X→Prop)(Q:X→Prop)(hs: ∀ k x,I (k + 1) x→(p.lt x).ok (I k) (fun _=>Q x))(he: ∀ x,I 0 x→(p.lt x).ok (fun _=>False) (fun _=>Q x))
  (N:Nat) (x:X) (hN:N≤999) (h:I N x):p.fin x=true∧ ∃ j y,p.res x=(j,y)∧Q y:=
 p.inv I (fun _ y=>Q y) (fun k x hx=>LT.ok_out (hs k x hx)) (fun x hx=>by
  rcases LT.ok_out (he x hx)with h | ⟨_,_,h⟩
  ·exact h
  ·exact h.elim) N x hN h
theorem asc{α:Type}{l:List α}(h:ltI 0 (l.length:Int)=true):1≤l.length:=by have:=Sa.1 h;omega
 attribute [local irreducible] nxA nxS nxV pkA pkS pkV
theorem abZ(c:avu)(x:kP)(hx:match x with | (a,b,d,e,f,g,i,l,m,n,o)=>(i.length:Int)≤a + (50:Nat)∧0≤a∧a≤(i.length:Int)∧(e.length:Int)=a∧aG f g o=true∧o=c∧i.length≤50):
  ib.fin x=true∧ ∃ j y,ib.res x=(j,y)∧(match y with | (a,b,d,e,f,g,i,l,m,n,o)=>aG f g c=true∧e.length≤50∧c=o):=by
 refine ib.inv2 (fun k x=>match x with | (a,b,d,e,f,g,i,l,m,n,o)=>(i.length:Int)≤a + k∧0≤a∧a≤(i.length:Int)∧(e.length:Int)=a∧aG f g o=true∧o=c∧i.length≤50) (fun y=>match y with | (a,b,d,e,f,g,i,l,m,n,o)=>aG f g c=true∧e.length≤50∧c=o) (fun k x hx=> ?_) (fun x hx=> ?_) 50 x (by omega) hx
 ·obtain⟨a,b,d,e,f,g,i,l,m,n,o⟩:=x
  obtain⟨h0,h1,h2,h3,h4,rfl,h6⟩:=hx
  skip
  simp only [ib,Jd,LT.ok,FR,FS,and_true,ym,Lm,Ln,Lo,Lq,Lr,Lt,Lu,Lv,Bool.or_eq_true,q8]
  repeat' (first | refine And.intro ?_ ?_ | intro _)
  all_goals first
   |omega
   |(repeat (first | assumption | apply jP | apply UQ | apply qB | refine Or.inr ?_ | refine And.intro ?_ ?_ | exact trivial | exact aip _ _ | rfl)
     done)
   |((repeat refine Or.inr ?_)
     exact aY (by first | omega | (simp only [S2];omega)))
   |(simp only [S2]
     omega)
   |(repeat' apply Fh
     all_goals first | omega | (simp only [S2];omega))
   |(try simp only [S1]at *
     rw [wrap_i64 (by omega) (by omega)]
     first | omega | (simp only [S2];omega))
   |(simp only [S1]at *
     first | omega | (exfalso;omega))
   |(exfalso;simp_all;done)
 ·obtain⟨a,b,d,e,f,g,i,l,m,n,o⟩:=x
  obtain⟨h0,h1,h2,h3,h4,rfl,h6⟩:=hx
  skip
  skip
  simp only [ib,Jd,LT.ok,FR,FS,and_true,ym,Lm,Ln,Lo,Lq,Lr,Lt,Lu,Lv,Bool.or_eq_true,q8]
  repeat' (first | refine And.intro ?_ ?_ | intro _)
  all_goals first
   |omega
   |(repeat (first | assumption | apply jP | apply UQ | apply qB | refine Or.inr ?_ | refine And.intro ?_ ?_ | exact trivial | exact aip _ _ | rfl)
     done)
   |((repeat refine Or.inr ?_)
     exact aY (by first | omega | (simp only [S2];omega)))
   |(simp only [S2]
     omega)
   |(repeat' apply Fh
     all_goals first | omega | (simp only [S2];omega))
   |(try simp only [S1]at *
     rw [wrap_i64 (by omega) (by omega)]
     first | omega | (simp only [S2];omega))
   |(simp only [S1]at *
     first | omega | (exfalso;omega))
   |(exfalso;simp_all;done)
theorem Ll(a b:aAi)(c d:Int)(e f g:List aAi)(i:List LN)(j:avu)(h:aG c d j=true)(hi:e.length≤50):
  IC a b c d e f g i j=true∧aG (rz a b c d e f g i j) (vm a b c d e f g i j) j=true∧(zD a b c d e f g i j).length≤60:=by
 obtain⟨f0,j0,⟨z0,z1,z2,z3,z4,z5,z6,z7,z8,z9,z10⟩,g0,q1,q2,q3⟩:=abZ j (Hs a b c d e f g i j) (by
  simp only [Hs]
  exact⟨by omega,by omega,by omega,by simp,h,trivial,hi⟩)
 have e9:lD a b c d e f g i j=z3:=by simp only [lD,Cd,g0]
 have e3:xU a b c d e f g i j=z4:=by simp only [xU,Ht,Cd,g0]
 have e4:Ce a b c d e f g i j=z5:=by simp only [Ce,Ht,Cd,g0]
 have s7:aG (nZ a b c d e f g i j) (pz a b c d e f g i j) j=true:=by
  simp only [nZ,pz,e3,e4];exact jP q1
 have k1:leN (z3.length + [(0:Int)].length) 9223372036854775807=true:=aY (by simp only [w5];omega)
 have k2:leN ((z3.length + [(0:Int)].length) * 8) 140737488355328=true:=aY (by simp only [w5];omega)
 have k3:leN 1 (v8 [(-1:Int),2])=true:=rfl
 have k4:iF a b c d e f g i j=true→ltN (v7 0) z3.length=true:=fun hh=>by
  simp only [iF,e9]at hh;exact er (by have:=asc hh;simp only [Int.toNat_zero];omega)
 have k5:leI 0 0=true:=rfl
 refine⟨?_,?_,?_⟩
 ·simp only [IC,f0,e3,e4,e9,q1,s7,k1,k2,k3,k5,allT,k8,Bool.and_self,cond_true]
  cases h10:iF a b c d e f g i j with
  |true=>simp only [k4 h10,k8,cond_true]
  |false=>simp only [Bool.not_false,Bool.true_or,k8,cond_true]
 ·simp only [rz,vm]
  exact qB s7 (qB (qB (UQ s7) s7) s7)
 ·simp only [zD,e9]
  refine Fh (by rw [j6,w5];omega) (Fh (Fh (by rw [qqk];omega) (by omega)) (by omega))
theorem api{a s:Int}{c:avu}{l:List aAi}:(aG a s c&&leN l.length 50)=true↔aG a s c=true∧l.length≤50:=by simp only [q8,eN]
def YF:aAj
 | [.one ⟨false,[.ptr 0 0]⟩,.one ⟨true,[.val (.string a),.ref 1,.ref 2,.ref 3,.val (.string b),.ref 4]⟩],[.box 76 [.ref 5,.val (.int .i64 c),.val (.int .i64 d)],.row false 9 (.str) e,.row false 9 (.str) f,.row false 9 (.str) g,.row false 91 (.pair (.str) (.sl 66 (.pair (.int .i64) (.pair (.str) (.int .i64))))) i,.row false 5 (.int .u8) j]=>some ⟨aAl (.ref 6),[.box 76 [.ref 5,aAk (rz a b c d e f g i j),aAk (vm a b c d e f g i j)],aAn e,aAn f,aAn g,aAt i,aAu j],[aAo (zD a b c d e f g i j)],[aG c d j&&leN e.length 50]⟩
 |_,_=>none
def Re:PF prog:=PF.alt gz YF (by
 intro args es o h cL;unfold YF at h;split at h
 ·rename_i a b c d e f g i j
  cases h
  have cL:=kO cL
  have hh:=(Ll a b c d e f g i j (api.1 cL).1 (api.1 cL).2).1
  have en:=hh
  exact qm rfl (jv en) rfl rfl rfl
 ·cases h)
def aep(n:Nat)(l:at1):Bool:=l.all fun x=>leN x.length n
theorem ao2{n:Nat}{l:at1}:aep n l=true↔ ∀ x∈l,x.length≤n:=by simp only [aep,List.all_eq_true,eN]
theorem ama{n:Nat}{a:at1}{b:avu}(h:aep n a=true)(hb:b.length≤n):aep n (a++ [b])=true:=by
 refine ao2.2 fun x hx=> ?_
 rcases j8.1 hx with hx | hx
 ·exact ao2.1 h x hx
 ·rw [qqj.1 hx];exact hb
theorem aar(M:Nat)(x:kg)(hx:match x with | (a,b,c)=>a + 1≤(4:Nat)∧ -1≤a∧c.length≤60∧b.length + (4:Nat)≤M∧M≤1000∧aep 60 b=true):
  gt.fin x=true∧ ∃ j y,gt.res x=(j,y)∧(match y with | (a,b,c)=>b.length≤M∧aep 60 b=true):=by
 refine gt.inv2 (fun k x=>match x with | (a,b,c)=>a + 1≤k∧ -1≤a∧c.length≤60∧b.length + k≤M∧M≤1000∧aep 60 b=true) (fun y=>match y with | (a,b,c)=>b.length≤M∧aep 60 b=true) (fun k x hx=> ?_) (fun x hx=> ?_) 4 x (by omega) hx
 ·obtain⟨a,b,c⟩:=x
  obtain⟨h0,h1,h2,h3,h4,h5⟩:=hx
  skip
  simp only [gt,HH,LT.ok,FR,FS,and_true,Jj,Jk,Jl,Jm,Jn,Jo,Bool.or_eq_true,q8]
  repeat' (first | refine And.intro ?_ ?_ | intro _)
  all_goals first
   |omega
   |(repeat (first | assumption | apply jP | apply UQ | apply qB | refine Or.inr ?_ | refine And.intro ?_ ?_ | exact trivial | exact aip _ _ | rfl | exact ama ‹_› ‹_›)
     done)
   |((repeat refine Or.inr ?_)
     exact aY (by first | omega | (simp only [S2];omega)))
   |(simp only [S2]
     omega)
   |(repeat' apply Fh
     all_goals first | omega | (simp only [S2];omega))
   |(try simp only [S1]at *
     rw [wrap_i64 (by omega) (by omega)]
     first | omega | (simp only [S2];omega))
   |(simp only [S1]at *
     first | omega | (exfalso;omega))
   |(exfalso;simp_all;done)
 ·obtain⟨a,b,c⟩:=x
  obtain⟨h0,h1,h2,h3,h4,h5⟩:=hx
  skip
  skip
  simp only [gt,HH,LT.ok,FR,FS,and_true,Jj,Jk,Jl,Jm,Jn,Jo,Bool.or_eq_true,q8]
  repeat' (first | refine And.intro ?_ ?_ | intro _)
  all_goals first
   |omega
   |(repeat (first | assumption | apply jP | apply UQ | apply qB | refine Or.inr ?_ | refine And.intro ?_ ?_ | exact trivial | exact aip _ _ | rfl | exact ama ‹_› ‹_›)
     done)
   |((repeat refine Or.inr ?_)
     exact aY (by first | omega | (simp only [S2];omega)))
   |(simp only [S2]
     omega)
   |(repeat' apply Fh
     all_goals first | omega | (simp only [S2];omega))
   |(try simp only [S1]at *
     rw [wrap_i64 (by omega) (by omega)]
     first | omega | (simp only [S2];omega))
   |(simp only [S1]at *
     first | omega | (exfalso;omega))
   |(exfalso;simp_all;done)
theorem ad4(c:avu)(x:nC)(hx:match x with | (a,b,d,e,f,g,i,l,m,o)=>202≤a.length + (202:Nat)∧aG b d g=true∧i.length≤50∧a.length + (202:Nat)≤432∧aep 60 a=true∧g=c):
  gh.fin x=true∧ ∃ j y,gh.res x=(j,y)∧(match y with | (a,b,d,e,f,g,i,l,m,o)=>aG b d c=true∧a.length≤432∧aep 60 a=true∧c=g):=by
 refine gh.inv2 (fun k x=>match x with | (a,b,d,e,f,g,i,l,m,o)=>202≤a.length + k∧aG b d g=true∧i.length≤50∧a.length + k≤432∧aep 60 a=true∧g=c) (fun y=>match y with | (a,b,d,e,f,g,i,l,m,o)=>aG b d c=true∧a.length≤432∧aep 60 a=true∧c=g) (fun k x hx=> ?_) (fun x hx=> ?_) 202 x (by omega) hx
 ·obtain⟨a,b,d,e,f,g,i,l,m,o⟩:=x
  obtain⟨h0,h1,h2,h3,h4,rfl⟩:=hx
  have nn:=Qa (n:=2) h1 (by omega);have hw:IntKind.i64.wrap (200 + nxV 2 b d g)=200 + nxV 2 b d g:=wrap_i64 (by omega) (by omega);have hz:aep 60 (a++ [qqw (v7 (↑i.length:Int)) (0:Int)])=true:=ama h4 (by rw [v5,q9];omega)
  simp only [gh,Nb,LT.ok,FR,FS,and_true,AP,PD,PE,PG,PH,PI,PJ,PK,PL,PM,xV,wC,Bool.or_eq_true,q8]
  repeat' (first | refine And.intro ?_ ?_ | intro _)
  all_goals first
   |omega
   |(repeat (first | assumption | apply jP | apply UQ | apply qB | refine Or.inr ?_ | refine And.intro ?_ ?_ | exact trivial | exact aip _ _ | rfl)
     done)
   |((repeat refine Or.inr ?_)
     exact aY (by first | omega | (simp only [S2];omega)))
   |(simp only [S2]
     omega)
   |(repeat' apply Fh
     all_goals first | omega | (simp only [S2];omega))
   |(try simp only [S1]at *
     rw [wrap_i64 (by omega) (by omega)]
     first | omega | (simp only [S2];omega))
   |(simp only [S1]at *
     first | omega | (exfalso;omega))
   |(exfalso;simp_all;done)
 ·obtain⟨a,b,d,e,f,g,i,l,m,o⟩:=x
  obtain⟨h0,h1,h2,h3,h4,rfl⟩:=hx
  have nn:=Qa (n:=2) h1 (by omega);have hw:IntKind.i64.wrap (200 + nxV 2 b d g)=200 + nxV 2 b d g:=wrap_i64 (by omega) (by omega);have hz:aep 60 (a++ [qqw (v7 (↑i.length:Int)) (0:Int)])=true:=ama h4 (by rw [v5,q9];omega)
  have e0:ltI (a.length:Int) (IntKind.i64.wrap (200 + nxV 2 b d g))=false:=by rw [hw];exact Ej (by omega)
  simp only [gh,Nb,LT.ok,FR,FS,and_true,AP,PD,PE,PG,PH,PI,PJ,PK,PL,PM,xV,wC,Bool.or_eq_true,q8]
  repeat' (first | refine And.intro ?_ ?_ | intro _)
  all_goals first
   |omega
   |(repeat (first | assumption | apply jP | apply UQ | apply qB | refine Or.inr ?_ | refine And.intro ?_ ?_ | exact trivial | exact aip _ _ | rfl)
     done)
   |((repeat refine Or.inr ?_)
     exact aY (by first | omega | (simp only [S2];omega)))
   |(simp only [S2]
     omega)
   |(repeat' apply Fh
     all_goals first | omega | (simp only [S2];omega))
   |(try simp only [S1]at *
     rw [wrap_i64 (by omega) (by omega)]
     first | omega | (simp only [S2];omega))
   |(simp only [S1]at *
     first | omega | (exfalso;omega))
   |(exfalso;simp_all;done)
theorem ad3(c:avu)(x:nB)(hx:match x with | (a,b,d,e,f,g,i,l,m,o,p)=>a≤((7:Nat):Int)∧aG b d i=true∧l.length≤50∧g.length + 4 * (7:Nat)≤28∧aep 60 g=true∧i=c):
  ki.fin x=true∧ ∃ j y,ki.res x=(j,y)∧(match y with | (a,b,d,e,f,g,i,l,m,o,p)=>aG b d c=true∧g.length≤28∧aep 60 g=true∧c=i):=by
 refine ki.inv2 (fun k x=>match x with | (a,b,d,e,f,g,i,l,m,o,p)=>a≤(k:Int)∧aG b d i=true∧l.length≤50∧g.length + 4 * k≤28∧aep 60 g=true∧i=c) (fun y=>match y with | (a,b,d,e,f,g,i,l,m,o,p)=>aG b d c=true∧g.length≤28∧aep 60 g=true∧c=i) (fun k x hx=> ?_) (fun x hx=> ?_) 7 x (by omega) hx
 ·obtain⟨a,b,d,e,f,g,i,l,m,o,p⟩:=x
  obtain⟨h0,h1,h2,h3,h4,rfl⟩:=hx
  obtain⟨d1,d2,d3⟩:=Ll e f b d l m o p i h1 h2
  have n4:=Qa (n:=4) d2 (by omega)
  obtain⟨f0,j0,⟨z0,z1,z2⟩,g0,q1,q2⟩:=aar (g.length + 4) (Fu b d e f g i l m o p) (by
   simp only [Fu]
   exact⟨by omega,by omega,d3,by omega,by omega,h4⟩)
  have p1:PA b d e f i l m o p=true:=by first | exact d1 | (simp only [PA,h1,Bool.true_and];exact aY h2)
  have p2:Xw b d e f i l m o p=true:=d2
  have p3:Xx b d e f g i l m o p=true:=f0
  have p7:PC b d e f g i l m o p=z1:=by simp only [PC,g0]
  have p56:aG (Xy b d e f i l m o p) (Xz b d e f i l m o p) i=true:=jP d2
  have w4:ltI 0 a=true→PB a≤(k:Int):=fun h=>by
   have:=Sa.1 h
   simp only [PB];rw [wrap_i64 (by omega) (by omega)];omega
  simp only [ki,Na,LT.ok,FR,FS,and_true,true_and,p1,p2,p3,p7,Pz]
  exact⟨fun h=>⟨w4 h,p56,h2,by omega,q2⟩,fun _=>⟨h1,by omega,h4⟩⟩
 ·obtain⟨a,b,d,e,f,g,i,l,m,o,p⟩:=x
  obtain⟨h0,h1,h2,h3,h4,rfl⟩:=hx
  have e0:ltI 0 a=false:=Ej (by omega)
  simp only [ki,Na,LT.ok,Pz,e0,Bool.false_eq_true,false_implies,true_implies,true_and,and_true]
  exact⟨h1,by omega,h4⟩
theorem Xv(a b:aAi)(c d:Int)(e f g:List aAi)(i:List LN)(j:avu)(h:aG c d j=true)(hi:e.length≤50):
  UB a b c d e f g i j=true∧aG (rV a b c d e f g i j) (vn a b c d e f g i j) j=true∧(bp a b c d e f g i j).length≤432∧aep 60 (bp a b c d e f g i j)=true:=by
 have n8:=Qa (n:=8) h (by omega)
 obtain⟨f0,j0,⟨z0,z1,z2,z3,z4,z5,z6,z7,z8,z9,z10⟩,g0,q1,q2,q3,q4⟩:=ad3 j (Kn a b c d e f g i j) (by
  simp only [Kn,Km]
  exact⟨by omega,jP h,hi,by simp,rfl,trivial⟩)
 have e3:Bb a b c d e f g i j=z1:=by simp only [Bb,EW,g0]
 have e5:EX a b c d e f g i j=z2:=by simp only [EX,Ko,EW,g0]
 have e7:Kp a b c d e f g i j=z5:=by simp only [Kp,Ko,EW,g0]
 have s8:aG (Kq a b c d e f g i j) (Kr a b c d e f g i j) j=true:=by simp only [Kq,Kr,e3,e5];exact jP q1
 obtain⟨f1,j1,⟨u0,u1,u2,u3,u4,u5,u6,u7,u8,u9⟩,g1,r1,r2,r3,r4⟩:=ad4 j (zE a b c d e f g i j) (by
  simp only [zE,Km,e7]
  exact⟨by omega,s8,hi,by omega,q3,trivial⟩)
 have e12:ID a b c d e f g i j=u1:=by simp only [ID,DR,g1]
 have e13:((DR a b c d e f g i j).2).1=u2:=by simp only [DR,g1]
 have e14:((Lp.res gh (zE a b c d e f g i j)).2).1=u0:=by simp only [g1]
 refine⟨?_,?_,?_,?_⟩
 ·simp only [UB,h,f0,f1,e3,e5,q1,allT,k8,cond_true]
 ·simp only [rV,vn,e12,e13,xV,wC]
  exact qB (jP r1) s8
 ·simp only [bp,e7,e14]
  exact Fh r2 (by omega)
 ·simp only [bp,e7,e14]
  cases EY a b c d e f g i j
  ·exact q3
  ·exact r3
def aaL:aAj
 | [.one ⟨false,[.ptr 0 0]⟩,.one ⟨true,[.val (.string a),.ref 1,.ref 2,.ref 3,.val (.string b),.ref 4]⟩],[.box 76 [.ref 5,.val (.int .i64 c),.val (.int .i64 d)],.row false 9 (.str) e,.row false 9 (.str) f,.row false 9 (.str) g,.row false 91 (.pair (.str) (.sl 66 (.pair (.int .i64) (.pair (.str) (.int .i64))))) i,.row false 5 (.int .u8) j]=>some ⟨aAl (.ref 6),[.box 76 [.ref 5,aAk (rV a b c d e f g i j),aAk (vn a b c d e f g i j)],aAn e,aAn f,aAn g,aAt i,aAu j],[aAB (bp a b c d e f g i j)],[aG c d j&&leN e.length 50]⟩
 |_,_=>none
def CB:PF prog:=PF.alt ak1 aaL (by
 intro args es o h cL;unfold aaL at h;split at h
 ·rename_i a b c d e f g i j
  cases h
  have cL:=kO cL
  have hh:=(Xv a b c d e f g i j (api.1 cL).1 (api.1 cL).2).1
  have en:=hh
  exact qm rfl (jv en) rfl rfl rfl
 ·cases h)
end Go.SX
namespace Go.SX
open Go.Proofs Go.Proofs.Tryz
set_option maxRecDepth 100000
def Uj(n:Nat)(l:List aAi):Bool:=leN l.length n&&l.all fun s=>leN s.size 1000
def Xe(n:Nat)(l:List TM):Bool:=leN l.length n&&l.all fun t=>leN t.2.1.size 1000
def RZ(n:Nat)(ls:List LN):Bool:=leN ls.length n&&ls.all fun l=>leN l.1.size 1000&&Xe 100 l.2
def prD(nm:aAi)(ins vs os:List aAi)(g:aAi)(ls:List LN):Bool:=leN nm.size 1000&&(Uj 50 ins&&(Uj 50 vs&&(Uj 50 os&&(leN g.size 1000&&RZ 100 ls))))
theorem pe{n:Nat}{l:List aAi}:Uj n l=true↔l.length≤n∧ ∀ s∈l,s.size≤1000:=by simp only [Uj,q8,eN,List.all_eq_true]
theorem Co{n:Nat}{l:List TM}:Xe n l=true↔l.length≤n∧ ∀ t∈l,t.2.1.size≤1000:=by simp only [Xe,q8,eN,List.all_eq_true]
theorem zd{n:Nat}{l:List LN}:RZ n l=true↔l.length≤n∧ ∀ x∈l,x.1.size≤1000∧Xe 100 x.2=true:=by simp only [RZ,q8,eN,List.all_eq_true]
theorem JY{nm:aAi}{ins vs os:List aAi}{g:aAi}{ls:List LN}:prD nm ins vs os g ls=true↔
  nm.size≤1000∧Uj 50 ins=true∧Uj 50 vs=true∧Uj 50 os=true∧g.size≤1000∧RZ 100 ls=true:=by simp only [prD,q8,eN]
theorem anr{n m:Nat}{l:List aAi}(h:Uj n l=true)(hm:n≤m):Uj m l=true:=by
 obtain⟨h1,h2⟩:=pe.1 h;exact pe.2 ⟨by omega,h2⟩
theorem awm{n m:Nat}{l:List LN}(h:RZ n l=true)(hm:n≤m):RZ m l=true:=by
 obtain⟨h1,h2⟩:=zd.1 h;exact zd.2 ⟨by omega,h2⟩
theorem apS{n m k:Nat}{a b:List aAi}(ha:Uj n a=true)(hb:Uj m b=true)(h:n + m≤k):Uj k (a++b)=true:=by
 obtain⟨h1,h2⟩:=pe.1 ha;obtain⟨h3,h4⟩:=pe.1 hb
 exact pe.2 ⟨by rw [j6];omega,fun s hs=>(j8.1 hs).elim (h2 s) (h4 s)⟩
theorem aeJ{n:Nat}(k:Nat){l:List aAi}(h:Uj n l=true):Uj n (l.take k)=true:=by
 obtain⟨h1,h2⟩:=pe.1 h
 exact pe.2 ⟨by rw [j7];omega,fun s hs=>h2 s (List.mem_of_mem_take hs)⟩
theorem axp{n:Nat}{a:List LN}{b:LN}(ha:RZ n a=true)(h1:b.1.size≤1000)(h2:Xe 100 b.2=true):RZ (n + 1) (a++ [b])=true:=by
 obtain⟨k1,k2⟩:=zd.1 ha
 refine zd.2 ⟨by rw [j6,w5];omega,fun x hx=> ?_⟩
 rcases j8.1 hx with hx | hx
 ·exact k2 x hx
 ·rw [qqj.1 hx];exact⟨h1,h2⟩
theorem avm{n m:Nat}{l:List TM}(h:dtL n l)(hm:n≤m):Xe m l=true:=Co.2 ⟨by have:=h.2.1;omega,h.2.2⟩
theorem apR{n:Nat}{l:List aAi}(h:Uj n l=true)(k:Nat):(v9 l[k]? ByteArray.empty).size≤1000:=by
 cases hk:l[k]? with
 |none=>exact Nat.zero_le _
 |some s=>exact(pe.1 h).2 s (List.mem_of_getElem? hk)
 attribute [local irreducible] nxA nxS nxV pkA pkS pkV
theorem aiB(c:avu)(x:tF)(hx:match x with | (a,b,e,f,g,i)=>a.length≤(5:Nat)∧Uj 50 a=true∧aG b e i=true∧(f.length + a.length≤50∧1≤f.length + a.length)∧RZ f.length f=true∧atu g=true∧i=c):
  np.fin x=true∧ ∃ j y,np.res x=(j,y)∧(match y with | (a,b,e,f,g,i)=>aG b e c=true∧(1≤f.length∧f.length≤50)∧RZ f.length f=true∧c=i):=by
 refine np.inv2 (fun k x=>match x with | (a,b,e,f,g,i)=>a.length≤k∧Uj 50 a=true∧aG b e i=true∧(f.length + a.length≤50∧1≤f.length + a.length)∧RZ f.length f=true∧atu g=true∧i=c) (fun y=>match y with | (a,b,e,f,g,i)=>aG b e c=true∧(1≤f.length∧f.length≤50)∧RZ f.length f=true∧c=i) (fun k x hx=> ?_) (fun x hx=> ?_) 5 x (by omega) hx
 ·obtain⟨a,b,e,f,g,i⟩:=x
  obtain⟨h0,h1,h2,⟨h3,h4⟩,h5,h6,rfl⟩:=hx
  cases ht:ltI 0 (a.length:Int)with
  |false=>
   have:=Yj.1 ht
   simp only [np,MZ,LT.ok,Qg,ht,Bool.false_eq_true,false_implies,true_implies,true_and,and_true]
   exact⟨h2,by omega,h5⟩
  |true=>
   have hp:=asc ht
   obtain⟨i0,i1⟩:=Qa (n:=(a.length:Int)) h2 (by omega)
   have s5:aG (nxA (a.length:Int) b i) (nxS (a.length:Int) b e i) i=true:=jP h2
   have n4:=Qa (n:=4) s5 (by omega)
   have s12:aG (CG a b i) (CH a b e i) i=true:=jP s5
   have d:dtN 3 (CF a b e i) (CG a b i) (CH a b e i) g i=true:=Tx.2 ⟨by simp only [CF];omega,s12,h6⟩
   obtain⟨_,t01,t2⟩:=awY _ _ _ g i d
   have hw:Nq a b e i=nxV (a.length:Int) b e i + 1:=wrap_i64 (by omega) (by omega)
   have l3:(Np a b e g i).length=1:=rfl
   have l4:(yQ a b e i).length=(nxV (a.length:Int) b e i).toNat:=by
    simp only [yQ,Int.toNat_zero,List.drop_zero,j7];omega
   have l6:(GI a b e i).length=a.length - (nxV (a.length:Int) b e i + 1).toNat:=by
    simp only [GI,hw,q9,List.take_length,List.length_drop]
   have m18:Uj 50 (CE a b e i)=true:=by
    refine pe.2 ⟨by simp only [CE,j6,l4,l6];omega,fun s hs=> ?_⟩
    simp only [CE,j8]at hs
    rcases hs with hs | hs
    ·exact(pe.1 h1).2 s (List.mem_of_mem_take (List.mem_of_mem_drop hs))
    ·exact(pe.1 h1).2 s (List.mem_of_mem_take (List.mem_of_mem_drop hs))
   have p1:ac3 b e i=true:=h2
   have p2:WB a b e i=true:=bx i0
   have p3:ac4 a b e i=true:=dL i1
   have p4:ac5 a b e i=true:=er (by omega)
   have p5:ac6 a b e i=true:=s5
   have p6:ac7 a b e g i=true:=d
   have p7:ac8 a b e f g i=true:=aY (by rw [l3];omega)
   have p8:ac9 a b e f g i=true:=aY (by rw [l3];omega)
   have p9:ada=true:=rfl
   have p10:abN a b e i=true:=bx (by omega)
   have p11:abO a b e i=true:=aY (by rw [l4];omega)
   have p12:abP a b e i=true:=aY (by rw [l4];omega)
   have p13:abQ a b e i=true:=bx (by rw [hw];omega)
   have p14:abR a b e i=true:=bx (by rw [hw];omega)
   have p15:abS a=true:=bx (by omega)
   have p16:abT a b e i=true:=aY (by rw [l4,l6];omega)
   have p17:abU a b e i=true:=aY (by rw [l4,l6];omega)
   have l18:(CE a b e i).length=a.length - 1:=by simp only [CE,j6,l4,l6];omega
   have l21:(Nn a b e f g i).length=f.length + 1:=by simp only [Nn,j6,l3]
   have m21:RZ (f.length + 1) (Nn a b e f g i)=true:=axp h5 (apR h1 _) (avm t2 (by omega))
   simp only [np,MZ,LT.ok,Qg,ht,Bool.false_eq_true,reduceCtorEq,false_implies,true_implies,true_and,and_true,FR,FS,p1,p2,p3,p4,p5,p6,p7,p8,p9,p10,p11,p12,p13,p14,p15,p16,p17]
   exact⟨by omega,m18,t01,by omega,by rw [l21];exact m21,h6⟩
 ·obtain⟨a,b,e,f,g,i⟩:=x
  obtain⟨h0,h1,h2,⟨h3,h4⟩,h5,h6,rfl⟩:=hx
  have ht:ltI 0 (a.length:Int)=false:=Ej (by omega)
  simp only [np,MZ,LT.ok,Qg,ht,Bool.false_eq_true,false_implies,true_implies,true_and,and_true]
  exact⟨h2,by omega,h5⟩
theorem WA(a c:Int)(d:avu)(h:aG a c d=true):
  abM a c d=true∧aG (qU a c d) (DI a c d) d=true∧(prD (qT a c d) (nz a c d) (fo a c d) (qV a c d) (sy a c d) (gA a c d)=true∧1≤(nz a c d).length)∧1≤(gA a c d).length∧(gA a c d).length≤50:=by
 have n3:=Qa (n:=3) h (by omega)
 have s1:aG (nxA 3 a d) (nxS 3 a c d) d=true:=jP h
 have n4:0≤Br a c d∧Br a c d < 4:=Qa (n:=4) s1 (by omega)
 have s2:aG (Bs a d) (HR a c d) d=true:=jP s1
 have n2:=Qa (n:=2) s2 (by omega)
 have s3:aG (nxA 2 (Bs a d) d) (nxS 2 (Bs a d) (HR a c d) d) d=true:=jP s2
 have w6:Ey a c d=1 + nxV 3 a c d:=wrap_i64 (by omega) (by omega)
 have w4:Ew a c d=1 + nxV 2 (Bs a d) (HR a c d) d:=wrap_i64 (by omega) (by omega)
 have l7:(qI a c d).length=(Ey a c d).toNat:=by simp only [qI,j7,j9,k7];omega
 have l1:(ka a c d).length=(Br a c d).toNat:=by simp only [ka,j7,j9,k7];omega
 have l5:(sA a c d).length=(Ew a c d).toNat:=by simp only [sA,j7,j9,k7];omega
 have m7:Uj 3 (qI a c d)=true:=aeJ _ rfl
 have m1:Uj 3 (ka a c d)=true:=aeJ _ rfl
 have m5:Uj 2 (sA a c d)=true:=aeJ _ rfl
 have m8:Uj 6 (na a c d)=true:=apS m7 m1 (by omega)
 have l8:(na a c d).length=(qI a c d).length + (ka a c d).length:=by simp only [na,j6]
 have d8:atu (na a c d)=true:=aeK.2 ⟨by omega,by omega,(pe.1 m8).2⟩
 obtain⟨f0,j0,⟨z0,z1,z2,z3,z4,z5⟩,g0,q1,q2,q3,q4⟩:=aiB d (TI a c d) (by
  simp only [TI]
  exact⟨by rw [j6];omega,apS m1 m5 (by omega),s3,⟨by rw [j6,k7];omega,by rw [j6,k7];omega⟩,rfl,d8,trivial⟩)
 have e11:oX a c d=z1:=by simp only [oX,Li,g0]
 have e13:FD a c d=z2:=by simp only [FD,Sq,Li,g0]
 have e7:gA a c d=z3:=by simp only [gA,Sq,Li,g0]
 have s4:aG (nxA 3 (oX a c d) d) (FE a c d) d=true:=by simp only [FE,e11,e13];exact jP q1
 have n8:0≤CD a c d∧CD a c d < ((na a c d).length:Int):=Qa (n:=((na a c d).length:Int)) s4 (by omega)
 have q1':aG (oX a c d) (FD a c d) d=true:=by rw [e11,e13];exact q1
 have k1:=bx n8.1
 have k2:=dL n8.2
 have k3:ltN (CD a c d).toNat (na a c d).length=true:=er (by omega)
 refine⟨?_,?_,⟨?_,?_⟩,?_,?_⟩
 ·have u1:leI 0 (Ey a c d)=true:=bx (by omega)
  have u2:leI (Ey a c d) (([ByteArray.mk #[97],ByteArray.mk #[98],ByteArray.mk #[107,101,121]]:List aAi).length:Int)=true:=bx (by simp only [j9,k7];omega)
  have u3:leI 0 (Br a c d)=true:=bx (by omega)
  have u4:leI (Br a c d) (([ByteArray.mk #[120],ByteArray.mk #[121],ByteArray.mk #[122]]:List aAi).length:Int)=true:=bx (by simp only [j9,k7];omega)
  have u5:leI 0 (Ew a c d)=true:=bx (by omega)
  have u6:leI (Ew a c d) (([ByteArray.mk #[113],ByteArray.mk #[108,97,109,112]]:List aAi).length:Int)=true:=bx (by simp only [j9,k7];omega)
  have b: ∀ (i j:Nat),i≤100→j≤100→leN (i + j) 9223372036854775807=true∧leN ((i + j) * 16) 140737488355328=true:=fun i j hi hj=>⟨aY (by omega),aY (by omega)⟩
  obtain⟨b1,b2⟩:=b (qI a c d).length (ka a c d).length (by omega) (by omega)
  obtain⟨b3,b4⟩:=b (ka a c d).length (sA a c d).length (by omega) (by omega)
  obtain⟨b5,b6⟩:=b 0 (qI a c d).length (by omega) (by omega)
  obtain⟨b7,b8⟩:=b 0 (ka a c d).length (by omega) (by omega)
  obtain⟨b9,b10⟩:=b 0 (sA a c d).length (by omega) (by omega)
  have c17:XV a c d=true:=b5
  have c18:XW a c d=true:=b6
  have c19:XX a c d=true:=b7
  have c20:XY a c d=true:=b8
  simp only [abM,h,s1,s2,q1',s4,f0,u1,u2,u3,u4,u5,u6,b1,b2,b3,b4,b9,b10,c17,c18,c19,c20,k1,k2,k3,allT,k8,cond_true]
 ·simp only [qU,DI];exact qB (jP s4) s4
 ·refine JY.2 ⟨?_,anr m7 (by omega),anr m1 (by omega),anr m5 (by omega),?_,?_⟩
  ·simp only [qT];cases sK a c d <;> exact(by decide)
  ·simp only [sy]
   cases sK a c d
   ·exact Nat.zero_le _
   ·exact apR m8 _
  ·rw [e7];exact awm q3 (by omega)
 ·simp only [nz,l7];omega
 ·rw [e7];exact q2.1
 ·rw [e7];exact q2.2
def ahK:aAj
 | [.one ⟨false,[.ptr 0 0]⟩],[.box 76 [.ref 1,.val (.int .i64 a),.val (.int .i64 b)],.row false 5 (.int .u8) c]=>some ⟨.one ⟨true,[.val (.string (qT a b c)),.ref 2,.ref 3,.ref 4,.val (.string (sy a b c)),.ref 5]⟩,[.box 76 [.ref 1,aAk (qU a b c),aAk (DI a b c)],aAu c],[aAr (nz a b c),aAr (fo a b c),aAr (qV a b c),aAA (gA a b c)],[aG a b c]⟩
 |_,_=>none
def sk:PF prog:=PF.alt ap8 ahK (by
 intro args es o h cL;unfold ahK at h;split at h
 ·rename_i a b c
  cases h
  have cL:=kO cL
  have hh:=(WA a b c cL).1
  have en:=hh
  exact qm rfl (jv en) rfl rfl rfl
 ·cases h)
end Go.SX
namespace Go.SX
open Go.Proofs Go.Proofs.Tryz
set_option maxRecDepth 100000
theorem atR{n:Nat}{a:List TM}{k m:Int}{s:aAi}(h:Xe n a=true)(hl:a.length + 1≤n)(hs:s.size≤1000):Xe n (a++ [(k,s,m)])=true:=by
 obtain⟨h1,h2⟩:=Co.1 h
 refine Co.2 ⟨by rw [j6,w5];omega,fun t ht=> ?_⟩
 rcases j8.1 ht with ht | ht
 ·exact h2 t ht
 ·rw [qqj.1 ht];exact hs
theorem aqw{n:Nat}{a:List TM}(i:Nat){k m:Int}{s:aAi}(h:Xe n a=true)(hs:s.size≤1000):Xe n (a.set i (k,s,m))=true:=by
 obtain⟨h1,h2⟩:=Co.1 h
 refine Co.2 ⟨by rw [qqk];omega,fun t ht=> ?_⟩
 rcases List.mem_or_eq_of_mem_set ht with ht | ht
 ·exact h2 t ht
 ·rw [ht];exact hs
theorem awA{n:Nat}(k:Nat){l:List TM}(h:Xe n l=true):Xe n (l.take k)=true:=by
 obtain⟨h1,h2⟩:=Co.1 h
 exact Co.2 ⟨by rw [j7];omega,fun s hs=>h2 s (List.mem_of_mem_take hs)⟩
theorem aav{n m:Nat}{l:List TM}(h:Xe n l=true)(hm:n≤m):Xe m l=true:=by
 obtain⟨h1,h2⟩:=Co.1 h;exact Co.2 ⟨by omega,h2⟩
theorem azR{n:Nat}{l:List TM}{d:TM}(h:Xe n l=true)(k:Nat)(hd:d.2.1.size≤1000):(v9 l[k]? d).2.1.size≤1000:=by
 cases hk:l[k]? with
 |none=>exact hd
 |some s=>exact(Co.1 h).2 s (List.mem_of_getElem? hk)
 attribute [local irreducible] nxA nxS nxV pkA pkS pkV
theorem XU(c:avu)(x:gC)(hx:match x with | (a,b,d,e)=>42≤a.length + (42:Nat)∧aG b d e=true∧a.length + (42:Nat)≤60∧Xe 100 a=true∧e=c):
  dE.fin x=true∧ ∃ j y,dE.res x=(j,y)∧(match y with | (a,b,d,e)=>aG b d c=true∧Xe 100 a=true∧c=e):=by
 refine dE.inv2 (fun k x=>match x with | (a,b,d,e)=>42≤a.length + k∧aG b d e=true∧a.length + k≤60∧Xe 100 a=true∧e=c) (fun y=>match y with | (a,b,d,e)=>aG b d c=true∧Xe 100 a=true∧c=e) (fun k x hx=> ?_) (fun x hx=> ?_) 42 x (by omega) hx
 ·obtain⟨a,b,d,e⟩:=x
  obtain⟨h0,h1,h2,h3,rfl⟩:=hx
  have nn:=Qa (n:=2) h1 (by omega);have hw:IntKind.i64.wrap (40 + nxV 2 b d e)=40 + nxV 2 b d e:=wrap_i64 (by omega) (by omega);have hz:Xe 100 (a++ [((4:Int),ByteArray.mk #[],(0:Int))])=true:=atR h3 (by omega) (Nat.zero_le _)
  simp only [dE,Es,LT.ok,FR,FS,and_true,Fk,Fl,Fm,Fo,Fp,qk,ql,Bool.or_eq_true,q8]
  repeat' (first | refine And.intro ?_ ?_ | intro _)
  all_goals first
   |omega
   |(repeat (first | assumption | apply jP | apply UQ | apply qB | refine Or.inr ?_ | refine And.intro ?_ ?_ | exact trivial | exact aip _ _ | rfl)
     done)
   |((repeat refine Or.inr ?_)
     exact aY (by first | omega | (simp only [S2];omega)))
   |(simp only [S2]
     omega)
   |(repeat' apply Fh
     all_goals first | omega | (simp only [S2];omega))
   |(try simp only [S1]at *
     rw [wrap_i64 (by omega) (by omega)]
     first | omega | (simp only [S2];omega))
   |(simp only [S1]at *
     first | omega | (exfalso;omega))
   |(exfalso;simp_all;done)
 ·obtain⟨a,b,d,e⟩:=x
  obtain⟨h0,h1,h2,h3,rfl⟩:=hx
  have nn:=Qa (n:=2) h1 (by omega);have hw:IntKind.i64.wrap (40 + nxV 2 b d e)=40 + nxV 2 b d e:=wrap_i64 (by omega) (by omega);have hz:Xe 100 (a++ [((4:Int),ByteArray.mk #[],(0:Int))])=true:=atR h3 (by omega) (Nat.zero_le _)
  have e0:ltI (a.length:Int) (IntKind.i64.wrap (40 + nxV 2 b d e))=false:=by rw [hw];exact Ej (by omega)
  simp only [dE,Es,LT.ok,FR,FS,and_true,Fk,Fl,Fm,Fo,Fp,qk,ql,Bool.or_eq_true,q8]
  repeat' (first | refine And.intro ?_ ?_ | intro _)
  all_goals first
   |omega
   |(repeat (first | assumption | apply jP | apply UQ | apply qB | refine Or.inr ?_ | refine And.intro ?_ ?_ | exact trivial | exact aip _ _ | rfl)
     done)
   |((repeat refine Or.inr ?_)
     exact aY (by first | omega | (simp only [S2];omega)))
   |(simp only [S2]
     omega)
   |(repeat' apply Fh
     all_goals first | omega | (simp only [S2];omega))
   |(try simp only [S1]at *
     rw [wrap_i64 (by omega) (by omega)]
     first | omega | (simp only [S2];omega))
   |(simp only [S1]at *
     first | omega | (exfalso;omega))
   |(exfalso;simp_all;done)
theorem Qf(a b:Int)(c:avu)(h:aG a b c=true):
  Ji a b c=true∧aG (yg a b c) (yh a b c) c=true∧Xe 100 (yj a b c)=true:=by
 have n4:=Qa (n:=4) h (by omega)
 have s4:aG (nxA 4 a c) (nxS 4 a b c) c=true:=jP h
 have hd:dtN 3 (nxV 4 a b c) (nxA 4 a c) (nxS 4 a b c) [ByteArray.mk #[97],ByteArray.mk #[98],ByteArray.mk #[103,97,116,101]] c=true:=Tx.2 ⟨by omega,s4,rfl⟩
 obtain⟨_,s2,t2⟩:=awY _ _ _ _ c hd
 have s2:aG (ji a b c) (Bw a b c) c=true:=s2
 have t2:dtL 15 (fl a b c):=t2
 have t0:Xe 100 (fl a b c)=true:=avm t2 (by omega)
 have l1:=t2.1
 have l2:=t2.2.1
 have s3:aG (nxA (cX a b c) (ji a b c) c) (Bx a b c) c=true:=jP s2
 obtain⟨i0,i1⟩:0≤bO a b c∧bO a b c < cX a b c:=Qa s2 (by simp only [cX];omega)
 have s7:aG (cu a b c) (dJ a b c) c=true:=jP s3
 obtain⟨f0,j0,⟨z0,z1,z2,z3⟩,g0,q1,q2,q3⟩:=XU c (qS a b c) (by
  simp only [qS]
  exact⟨by omega,s7,by omega,t0,trivial⟩)
 have e1:(nv a b c).1=z1:=by simp only [nv,g0]
 have e2:((nv a b c).2).1=z2:=by simp only [nv,g0]
 have e0:((Lp.res dE (qS a b c)).2).1=z0:=by rw [g0]
 have k17:0≤iA a b c∧iA a b c < 4:=Qa (n:=4) s7 (by omega)
 have d16:(ny a b c).2.1.size≤1000:=azR t0 _ (Nat.zero_le _)
 have c1:=bx i0
 have c2:=dL i1
 have c3:Az a b c=true:=er (by simp only [cX]at i1;omega)
 have c4:leI (bO a b c) (cX a b c)=true:=bx (by omega)
 refine⟨?_,?_,?_⟩
 ·have d1:=bx k17.1
  have d2:ltI (iA a b c) (([ByteArray.mk #[],ByteArray.mk #[97,110,100],ByteArray.mk #[120],ByteArray.mk #[89]]:List aAi).length:Int)=true:=dL k17.2
  have d3:ltN (iA a b c).toNat ([ByteArray.mk #[],ByteArray.mk #[97,110,100],ByteArray.mk #[120],ByteArray.mk #[89]]:List aAi).length=true:=er (show (iA a b c).toNat < 4 by omega)
  have b1:leN 1 ([(0:Int),4,5,13]:avu).length=true:=rfl
  have b2:leN 1 ([(-1:Int),1,9999,10000]:avu).length=true:=rfl
  have b3:leI 0 0=true:=rfl
  simp only [Ji,h,hd,s2,s3,s7,f0,c1,c2,c3,c4,d1,d2,d3,b1,b2,b3,allT,k8,Bool.and_self,cond_true]
 ·simp only [yg,yh,e1,e2,qk,ql]
  exact qB (UQ s7) (qB (jP s7) (qB (UQ s7) (qB s7 (qB (jP q1) s7))))
 ·simp only [yj,e0]
  cases aW a b c <;> simp only [cond_true,cond_false]
  ·cases bK a b c <;> simp only [cond_true,cond_false]
   ·cases fm a b c <;> simp only [cond_true,cond_false]
    ·cases nu a b c <;> simp only [cond_true,cond_false]
     ·cases uV a b c <;> simp only [cond_true,cond_false]
      ·exact aav t0 (by omega)
      ·exact aav q2 (by omega)
     ·exact aav (awA _ t0) (by omega)
    ·exact aav (aqw _ t0 d16) (by omega)
   ·exact aav (aqw _ t0 (apR (n:=4) rfl _)) (by omega)
  ·exact aav (aqw _ t0 d16) (by omega)
def Tm:aAj
 | [.one ⟨false,[.ptr 0 0]⟩],[.box 76 [.ref 1,.val (.int .i64 a),.val (.int .i64 b)],.row false 5 (.int .u8) c]=>some ⟨aAl (.ref 2),[.box 76 [.ref 1,aAk (yg a b c),aAk (yh a b c)],aAu c],[aAv (yj a b c)],[aG a b c]⟩
 |_,_=>none
def kj:PF prog:=PF.alt adX Tm (by
 intro args es o h cL;unfold Tm at h;split at h
 ·rename_i a b c
  cases h
  have cL:=kO cL
  have hh:=(Qf a b c cL).1
  have en:=hh
  exact qm rfl (jv en) rfl rfl rfl
 ·cases h)
end Go.SX
namespace Go.SX
open Go.Proofs Go.Proofs.Tryz
set_option maxRecDepth 100000
section
variable (a:Int)
def ZE:aAi:=strOfNums [qqq IntKind.u8 (qqq .i64 ((48:Int) + Int.tmod a 10))]
def ZF:Bool:=ltI a 10||neI 10 0
def Lg:aAi:=bif ltI a 10 then strOfNums [qqq IntKind.u8 (qqq .i64 ((48:Int) + a))]else ByteArray.mk #[]++ZE a
def abF:Bool:=allT [ZF a,ltI a 10||false,ZF a,ltI a 10||leN (ByteArray.size (ByteArray.mk #[]) + ByteArray.size (ZE a)) 9223372036854775807]
end
def ahb:aAj
 | [.one ⟨false,[.val (.int .i64 a)]⟩],[]=>some ⟨aAl (.val (.string (Lg a))),[],[],[abF a]⟩
 |_,_=>none
def ap3:PF prog:=PF.ofG prog [ap4] [] aU 72 f72 func72 (fun c _=>LOk.nil c) ahb (by
 intro _ _ _ h;unfold ahb at h;split at h<;>cases h;kernel_rfl)
theorem ax4(x:Int)(h:ltI x 10=true):abF x=true:=by
 simp only [abF,ZF,h,allT,Bool.true_or,cond_true]
def ahF:aAj
 | [.one ⟨false,[.val (.int .i64 a)]⟩],[]=>some ⟨aAl (.val (.string (Lg a))),[],[],[ltI a 10]⟩
 |_,_=>none
def apO:PF prog:=PF.alt ap3 ahF (by
 intro args es o h cL;unfold ahF at h;split at h
 ·rename_i a
  cases h
  have cL:=kO cL
  have hh:=ax4 a cL
  have en:=hh
  exact qm rfl (jv en) rfl rfl rfl
 ·cases h)
section
variable (a:Int)
def abG:aAi:=strOfNums [qqq IntKind.u8 (qqq .i64 ((48:Int) + Int.tmod a 10))]
def abH:Bool:=ltI a 10||neI 10 0
def Od:aAi:=bif ltI a 10 then strOfNums [qqq IntKind.u8 (qqq .i64 ((48:Int) + a))]else Lg (qqq .i64 (Int.tdiv a 10))++abG a
def ad0:Bool:=allT [abH a,ltI a 10||ltI (qqq .i64 (Int.tdiv a 10)) 10,abH a,ltI a 10||leN (ByteArray.size (Lg (qqq .i64 (Int.tdiv a 10))) + ByteArray.size (abG a)) 9223372036854775807]
end
def ajG:aAj
 | [.one ⟨false,[.val (.int .i64 a)]⟩],[]=>some ⟨aAl (.val (.string (Od a))),[],[],[ad0 a]⟩
 |_,_=>none
def aqU:PF prog:=PF.ofG prog [apO] [] aU 72 f72 func72 (fun c _=>LOk.nil c) ajG (by
 intro _ _ _ h;unfold ajG at h;split at h<;>cases h;kernel_rfl)
theorem axB(x:Int):(strOfNums [x]).size=1:=rfl
theorem aq6{x:Int}:(Lg x).size=1:=by
 simp only [Lg,ZE]
 cases ltI x 10
 ·rw [cond_false,ByteArray.size_append];rfl
 ·rfl
theorem awV(x:Int)(h:(leI 0 x&&ltI x 100)=true):ad0 x=true∧(Od x).size≤2:=by
 simp only [q8,zJ,Sa]at h
 have e:Int.tdiv x 10=x / 10:=Int.tdiv_eq_ediv_of_nonneg h.1
 have hw:IntKind.i64.wrap (Int.tdiv x 10)=x / 10:=by rw [e];exact wrap_i64 (by omega) (by omega)
 have h1:ltI (x / 10) 10=true:=dL (by omega)
 have h2:neI 10 0=true:=rfl
 have h3:(abG x).size=1:=rfl
 refine⟨?_,?_⟩
 ·simp only [ad0,abH,hw,h1,h2,h3,aq6,aY (show 1 + 1≤9223372036854775807 by omega),allT,k8,cond_true]
 ·simp only [Od]
  cases ltI x 10
  ·rw [cond_false,ByteArray.size_append,h3,aq6];omega
  ·rw [cond_true,axB];omega
def ajP:aAj
 | [.one ⟨false,[.val (.int .i64 a)]⟩],[]=>some ⟨aAl (.val (.string (Od a))),[],[],[leI 0 a&&ltI a 100]⟩
 |_,_=>none
def adS:PF prog:=PF.alt aqU ajP (by
 intro args es o h cL;unfold ajP at h;split at h
 ·rename_i a
  cases h
  have cL:=kO cL
  have hh:=(awV a cL).1
  have en:=hh
  exact qm rfl (jv en) rfl rfl rfl
 ·cases h)
abbrev pa:=List aAi×Int×Int×List Int
section
variable (a:List aAi)(b c:Int)(d:avu)
def Hk:List aAi:= [ByteArray.mk #[105]++Od (↑a.length:Int)]
def Rr:Bool:=aG b c d
def Rs:Bool:=ltI (↑a.length:Int) (qqq .i64 ((20:Int) + nxV 2 b c d))
def Rt:Bool:=leI 0 (↑a.length:Int)&&ltI (↑a.length:Int) 100
def YY:Bool:=leN (ByteArray.size (ByteArray.mk #[105]) + ByteArray.size (Od (↑a.length:Int))) 9223372036854775807
def YZ:Bool:=leN (v8 a + v8 (Hk a)) 9223372036854775807
def Za:Bool:=leN ((v8 a + v8 (Hk a)) * 16) 140737488355328
def Iy:List aAi:=a++Hk a
def DE:Int:=nxA 2 b d
def DF:Int:=nxS 2 b c d
end
def agy:pa→List (Nat×SV)
 |(_,_,_,_)=> [(5,(aAl (.ref 0))),(0,(aAl (.ptr 1 0)))]
def agq:pa→List (Nat×Entry)
 |(a,b,c,d)=> [(1,(.box 76 [.ref 2,aAk b,aAk c])),(2,(aAu d)),(0,(aAr a))]
def agO:Nat→pa→List (Nat×SV)
 |_,(_,_,_,_)=> [(5,(aAl (.ref 0)))]
def agG:Nat→pa→List (Nat×Entry)
 |_,(a,b,c,d)=> [(0,(aAr a)),(1,(.box 76 [.ref 2,aAk (DE b d),aAk (DF b c d)])),(2,(aAu d))]
def OP:pa→LT pa
 |(a,b,c,d)=> .need [Rr b c d] (.ite (Rs a b c d) (.need [Rt a,YY a,YZ a,Za a] (.nrm ((Iy a),DE b d,DF b c d,d) [(0,832),(1,1),(2,2)])) (.ext 0 [(0,0),(1,1),(2,2)]))
def Pb(s:St):Option pa:=do
 let some ⟨none,.one ⟨false,[.ref 320]⟩⟩:=s.look 5|none
 let some ⟨none,.one ⟨false,[.ptr 0 0]⟩⟩:=s.look 0|none
 let some (.box 76 [.ref 1,.val (.int .i64 b),.val (.int .i64 c)]):=s.ent 0|none
 let some (.row false 5 (.int IntKind.u8) d):=s.ent 1|none
 let some (.row true 9 (.str) a):=s.ent 320|none
 some (a,b,c,d)
def gF:Lp pa where
 h:=⟨[68,69,70,71,72,73,74,75,76,77,78,79,80,5],[1,2],[0],[]⟩
 JL:=agy
 JE:=agq
 XL:=agO
 XE:=agG
 q:=fun j=>match j with | _=> .exit 1
 tags:= [0]
 lt:=OP
 fuel:=fun(a,b,c,d)=>a.length + b.natAbs + c.natAbs + d.length
 fix:=fun(_,_,_,d) (a,b,c,_)=>(a,b,c,d)
 σ:= [(1,0),(2,1),(0,320)]
 rd:=Pb
theorem aeB:LoopOk prog (fun k=>Nat.blt k Tryz.f38.ntmps) gF.F (bc f38 0):=by
 refine Lp.ok (tbl:= (T3z [ai,sk,kj,adS])) (lf:= []) aU gF (by kernel_rfl) (LOk.nil _) (fun _=>rfl) (fun _ _=>rfl) ?_ ?_ ?_ ?_ (fun _=>rfl) ?_
 ·intro _;kernel_rfl
 ·intro _;kernel_rfl
 ·intro s x h
  have h:Pb s=some x:=h
  unfold Pb at h
  repeat' split at h
  all_goals cases h
  constructor<;>repeat(first|refine ab ‹_› rfl ?_|refine aa rfl ‹_› rfl ?_|rfl)
 ·intro _;kernel_rfl
 ·intro _ _;exact(And.intro rfl trivial)
abbrev pb:=List (aAi×(List (Int×(aAi×Int))))×Int×Int×List Int
section
variable (a:aiJ)(b c:Int)(d:avu)
def Hl:Int:=(↑a.length:Int)
def Hm:aAi×aoQ:=v9 a[v7 0]? (vB aaP)
def Hn:aiK:= [((Hm a).1,(Hm a).2)]
def Ru:Bool:=aG b c d
def Rv:Bool:=ltI (Hl a) (qqq .i64 ((40:Int) + nxV 2 b c d))
end
def Zb:Bool:=leI 0 0
section
variable (a:aiJ)(b c:Int)(d:avu)
def Zc:Bool:=ltI 0 (Hl a)
def Zd:Bool:=ltN (v7 0) a.length
def Ze:Bool:=leN (v8 a + v8 (Hn a)) 9223372036854775807
def Zf:Bool:=leN ((v8 a + v8 (Hn a)) * 40) 140737488355328
def Iz:aiJ:=a++Hn a
def DG:Int:=nxA 2 b d
def DH:Int:=nxS 2 b c d
end
def agz:pb→List (Nat×SV)
 |(_,_,_,_)=> [(6,(aAl (.ref 0))),(0,(aAl (.ptr 1 0)))]
def agr:pb→List (Nat×Entry)
 |(a,b,c,d)=> [(1,(.box 76 [.ref 2,aAk b,aAk c])),(2,(aAu d)),(0,(aAA a))]
def agP:Nat→pb→List (Nat×SV)
 |_,(_,_,_,_)=> [(6,(aAl (.ref 0)))]
def agH:Nat→pb→List (Nat×Entry)
 |_,(a,b,c,d)=> [(0,(aAA a)),(1,(.box 76 [.ref 2,aAk (DG b d),aAk (DH b c d)])),(2,(aAu d))]
def OQ:pb→LT pb
 |(a,b,c,d)=> .need [Ru b c d] (.ite (Rv a b c d) (.need [Zb,Zc a,Zd a,Ze a,Zf a] (.nrm ((Iz a),DG b d,DH b c d,d) [(0,768),(1,1),(2,2)])) (.ext 0 [(0,0),(1,1),(2,2)]))
def Pc(s:St):Option pb:=do
 let some ⟨none,.one ⟨false,[.ref 323]⟩⟩:=s.look 6|none
 let some ⟨none,.one ⟨false,[.ptr 0 0]⟩⟩:=s.look 0|none
 let some (.box 76 [.ref 1,.val (.int .i64 b),.val (.int .i64 c)]):=s.ent 0|none
 let some (.row false 5 (.int IntKind.u8) d):=s.ent 1|none
 let some (.row true 91 (.pair .str (.sl 66 (.pair (.int .i64) (.pair .str (.int .i64))))) a):=s.ent 323|none
 some (a,b,c,d)
def gG:Lp pb where
 h:=⟨[87,88,89,90,91,92,93,94,95,96,97,98,6],[1,2],[0],[]⟩
 JL:=agz
 JE:=agr
 XL:=agP
 XE:=agH
 q:=fun j=>match j with | _=> .exit 3
 tags:= [0]
 lt:=OQ
 fuel:=fun(a,b,c,d)=>a.length + b.natAbs + c.natAbs + d.length
 fix:=fun(_,_,_,d) (a,b,c,_)=>(a,b,c,d)
 σ:= [(1,0),(2,1),(0,323)]
 rd:=Pc
theorem aeC:LoopOk prog (fun k=>Nat.blt k Tryz.f38.ntmps) gG.F (bc f38 1):=by
 refine Lp.ok (tbl:= (T3z [ai,sk,kj,adS])) (lf:= []) aU gG (by kernel_rfl) (LOk.nil _) (fun _=>rfl) (fun _ _=>rfl) ?_ ?_ ?_ ?_ (fun _=>rfl) ?_
 ·intro _;kernel_rfl
 ·intro _;kernel_rfl
 ·intro s x h
  have h:Pc s=some x:=h
  unfold Pc at h
  repeat' split at h
  all_goals cases h
  constructor<;>repeat(first|refine ab ‹_› rfl ?_|refine aa rfl ‹_› rfl ?_|rfl)
 ·intro _;kernel_rfl
 ·intro _ _;exact(And.intro rfl trivial)
section
variable (a b:Int)(c:avu)
def lK:Int:=(↑(v8 (gA a b c)):Int)
def Nl:Int:=nxS (lK a b c) (qU a b c) (DI a b c) c
def uU:Int:=nxV 30 (nxA (lK a b c) (qU a b c) c) (Nl a b c) c
def az:Bool:=uU a b c==0
def dk:Int:=nxA 30 (nxA (lK a b c) (qU a b c) c) c
def eS:Int:=nxS 30 (nxA (lK a b c) (qU a b c) c) (Nl a b c) c
def pP:Int:=nxV 3 (dk a b c) (eS a b c) c
def aM:Bool:=uU a b c==1
def aN:Bool:=uU a b c==2
def bo:Bool:=uU a b c==3
def cf:Bool:=uU a b c==4
def dC:Bool:=uU a b c==5
def ec:Bool:=uU a b c==6
def ew:Bool:=uU a b c==7
def Kj:Int×Int×avu:=(dk a b c,eS a b c,c)
def AZ:List aAi×Int×Int×avu:=(nz a b c,Kj a b c)
def wW:Int×Int×avu:=(Lp.res gF (AZ a b c)).2.2
def Ba:aiK×Int×Int×avu:=(gA a b c,Kj a b c)
def wX:Int×Int×avu:=(Lp.res gG (Ba a b c)).2.2
def aab:Int:=nxS 3 (dk a b c) (eS a b c) c
def aac:Int:=nxS 4 (dk a b c) (eS a b c) c
def oy:Int:=nxV 4 (dk a b c) (eS a b c) c
def wY:List aAi:= [v9 [ByteArray.mk #[97],ByteArray.mk #[113],ByteArray.mk #[119],ByteArray.mk #[111,110]][v7 (oy a b c)]? ByteArray.empty]
def oz:Int:=nxV (lK a b c) (qU a b c) (DI a b c) c
def Kk:aAi×aoQ:=v9 (gA a b c)[v7 (oz a b c)]? (vB aaP)
def Te:Bool:=ltN (v7 (oz a b c)) (v8 (gA a b c))
def Iq:aAi:=bif az a b c then v9 [ByteArray.mk #[],ByteArray.mk #[101,110,100],ByteArray.mk #[82,105,100,101]][v7 (pP a b c)]? ByteArray.empty else bif aM a b c then qT a b c else bif aN a b c then qT a b c else bif bo a b c then qT a b c else bif cf a b c then qT a b c else bif dC a b c then qT a b c else bif ec a b c then qT a b c else bif ew a b c then qT a b c else qT a b c
def Ir:aAi:=bif az a b c then sy a b c else bif aM a b c then ByteArray.mk #[]else bif aN a b c then v9 [ByteArray.mk #[97,110,100],ByteArray.mk #[120],ByteArray.mk #[110,111,119,104,101,114,101]][v7 (pP a b c)]? ByteArray.empty else bif bo a b c then sy a b c else bif cf a b c then sy a b c else bif dC a b c then sy a b c else bif ec a b c then sy a b c else bif ew a b c then sy a b c else sy a b c
def Is:Int:=bif az a b c then nxA 3 (dk a b c) c else bif aM a b c then dk a b c else bif aN a b c then nxA 3 (dk a b c) c else bif bo a b c then nxA 4 (dk a b c) c else bif cf a b c then yg (dk a b c) (eS a b c) c else bif dC a b c then DE ((wW a b c).1) c else bif ec a b c then DG ((wX a b c).1) c else bif ew a b c then nxA 4 (dk a b c) c else dk a b c
def It:Int:=bif az a b c then aab a b c else bif aM a b c then eS a b c else bif aN a b c then aab a b c else bif bo a b c then aac a b c else bif cf a b c then yh (dk a b c) (eS a b c) c else bif dC a b c then DF ((wW a b c).1) (((wW a b c).2).1) c else bif ec a b c then DH ((wX a b c).1) (((wX a b c).2).1) c else bif ew a b c then aac a b c else eS a b c
def Iu:List aAi:=bif az a b c then nz a b c else bif aM a b c then []else bif aN a b c then nz a b c else bif bo a b c then nz a b c else bif cf a b c then nz a b c else bif dC a b c then ((Lp.res gF (AZ a b c)).2).1else bif ec a b c then nz a b c else bif ew a b c then nz a b c else nz a b c
def Iv:List aAi:=bif az a b c then fo a b c else bif aM a b c then fo a b c else bif aN a b c then fo a b c else bif bo a b c then fo a b c else bif cf a b c then fo a b c else bif dC a b c then fo a b c else bif ec a b c then fo a b c else bif ew a b c then fo a b c++wY a b c else fo a b c
def Iw:List aAi:=bif az a b c then qV a b c else bif aM a b c then qV a b c else bif aN a b c then qV a b c else bif bo a b c then qV a b c else bif cf a b c then qV a b c else bif dC a b c then qV a b c else bif ec a b c then qV a b c else bif ew a b c then qV a b c else qV a b c
def Ix:aiJ:=bif az a b c then gA a b c else bif aM a b c then gA a b c else bif aN a b c then gA a b c else bif bo a b c then List.set (gA a b c) (v7 (oz a b c)) (v9 [ByteArray.mk #[],ByteArray.mk #[111,114],ByteArray.mk #[97],ByteArray.mk #[113]][v7 (oy a b c)]? ByteArray.empty,(Kk a b c).2)else bif cf a b c then List.set (gA a b c) (v7 (oz a b c)) ((Kk a b c).1,yj (dk a b c) (eS a b c) c)else bif dC a b c then gA a b c else bif ec a b c then ((Lp.res gG (Ba a b c)).2).1else bif ew a b c then gA a b c else gA a b c
def Ws:Bool:=allT [aG a b c,aG (qU a b c) (DI a b c) c,aG (nxA (lK a b c) (qU a b c) c) (Nl a b c) c,!az a b c||aG (dk a b c) (eS a b c) c,!az a b c||leI 0 (pP a b c),!az a b c||ltI (pP a b c) (↑(v8 [ByteArray.mk #[],ByteArray.mk #[101,110,100],ByteArray.mk #[82,105,100,101]]):Int),!az a b c||ltN (v7 (pP a b c)) (v8 [ByteArray.mk #[],ByteArray.mk #[101,110,100],ByteArray.mk #[82,105,100,101]]),az a b c||(aM a b c||(!aN a b c||aG (dk a b c) (eS a b c) c)),az a b c||(aM a b c||(!aN a b c||leI 0 (pP a b c))),az a b c||(aM a b c||(!aN a b c||ltI (pP a b c) (↑(v8 [ByteArray.mk #[97,110,100],ByteArray.mk #[120],ByteArray.mk #[110,111,119,104,101,114,101]]):Int))),az a b c||(aM a b c||(!aN a b c||ltN (v7 (pP a b c)) (v8 [ByteArray.mk #[97,110,100],ByteArray.mk #[120],ByteArray.mk #[110,111,119,104,101,114,101]]))),az a b c||(aM a b c||(aN a b c||(!bo a b c||aG (dk a b c) (eS a b c) c))),az a b c||(aM a b c||(aN a b c||(!bo a b c||leI 0 (oy a b c)))),az a b c||(aM a b c||(aN a b c||(!bo a b c||ltI (oy a b c) (↑(v8 [ByteArray.mk #[],ByteArray.mk #[111,114],ByteArray.mk #[97],ByteArray.mk #[113]]):Int)))),az a b c||(aM a b c||(aN a b c||(!bo a b c||ltN (v7 (oy a b c)) (v8 [ByteArray.mk #[],ByteArray.mk #[111,114],ByteArray.mk #[97],ByteArray.mk #[113]])))),az a b c||(aM a b c||(aN a b c||(!bo a b c||leI 0 (oz a b c)))),az a b c||(aM a b c||(aN a b c||(!bo a b c||ltI (oz a b c) (lK a b c)))),az a b c||(aM a b c||(aN a b c||(!bo a b c||Te a b c))),az a b c||(aM a b c||(aN a b c||(bo a b c||(!cf a b c||aG (dk a b c) (eS a b c) c)))),az a b c||(aM a b c||(aN a b c||(bo a b c||(!cf a b c||leI 0 (oz a b c))))),az a b c||(aM a b c||(aN a b c||(bo a b c||(!cf a b c||ltI (oz a b c) (lK a b c))))),az a b c||(aM a b c||(aN a b c||(bo a b c||(!cf a b c||Te a b c)))),az a b c||(aM a b c||(aN a b c||(bo a b c||(cf a b c||(!dC a b c||Lp.fin gF (AZ a b c)))))),az a b c||(aM a b c||(aN a b c||(bo a b c||(cf a b c||(dC a b c||(!ec a b c||Lp.fin gG (Ba a b c))))))),az a b c||(aM a b c||(aN a b c||(bo a b c||(cf a b c||(dC a b c||(ec a b c||(!ew a b c||leN (0 + v8 (fo a b c)) 9223372036854775807))))))),az a b c||(aM a b c||(aN a b c||(bo a b c||(cf a b c||(dC a b c||(ec a b c||(!ew a b c||leN ((0 + v8 (fo a b c)) * 16) 140737488355328))))))),az a b c||(aM a b c||(aN a b c||(bo a b c||(cf a b c||(dC a b c||(ec a b c||(!ew a b c||aG (dk a b c) (eS a b c) c))))))),az a b c||(aM a b c||(aN a b c||(bo a b c||(cf a b c||(dC a b c||(ec a b c||(!ew a b c||leI 0 (oy a b c)))))))),az a b c||(aM a b c||(aN a b c||(bo a b c||(cf a b c||(dC a b c||(ec a b c||(!ew a b c||ltI (oy a b c) (↑(v8 [ByteArray.mk #[97],ByteArray.mk #[113],ByteArray.mk #[119],ByteArray.mk #[111,110]]):Int)))))))),az a b c||(aM a b c||(aN a b c||(bo a b c||(cf a b c||(dC a b c||(ec a b c||(!ew a b c||ltN (v7 (oy a b c)) (v8 [ByteArray.mk #[97],ByteArray.mk #[113],ByteArray.mk #[119],ByteArray.mk #[111,110]])))))))),az a b c||(aM a b c||(aN a b c||(bo a b c||(cf a b c||(dC a b c||(ec a b c||(!ew a b c||leN (v8 (fo a b c) + v8 (wY a b c)) 9223372036854775807))))))),az a b c||(aM a b c||(aN a b c||(bo a b c||(cf a b c||(dC a b c||(ec a b c||(!ew a b c||leN ((v8 (fo a b c) + v8 (wY a b c)) * 16) 140737488355328)))))))]
end
def acu:aAj
 | [.one ⟨false,[.ptr 0 0]⟩],[.box 76 [.ref 1,.val (.int .i64 a),.val (.int .i64 b)],.row false 5 (.int .u8) c]=>some ⟨.one ⟨true,[.val (.string (Iq a b c)),.ref 2,.ref 3,.ref 4,.val (.string (Ir a b c)),.ref 5]⟩,[.box 76 [.ref 1,aAk (Is a b c),aAk (It a b c)],aAu c],[aAr (Iu a b c),aAr (Iv a b c),aAr (Iw a b c),aAA (Ix a b c)],[Ws a b c]⟩
 |_,_=>none
def amD:PF prog:=PF.ofG prog (T3z [ai,sk,kj,adS]) [gF.F,gG.F] aU 38 f38 func38 (LOk.fnT (l:= [bc f38 0,bc f38 1]) (by kernel_rfl) (.cons aeB (.cons aeC (.nil _)))) acu (by
 intro _ _ _ h;unfold acu at h;split at h<;>cases h;kernel_rfl)
theorem atq{m:Nat}{a:List LN}(i:Nat){b:LN}(h:RZ m a=true)(h1:b.1.size≤1000)(h2:Xe 100 b.2=true):RZ m (a.set i b)=true:=by
 obtain⟨k1,k2⟩:=zd.1 h
 refine zd.2 ⟨by rw [qqk];omega,fun x hx=> ?_⟩
 rcases List.mem_or_eq_of_mem_set hx with hx | hx
 ·exact k2 x hx
 ·rw [hx];exact⟨h1,h2⟩
theorem ayR{m:Nat}{l:List LN}{d:LN}(h:RZ m l=true)(k:Nat)(hd:d.1.size≤1000∧Xe 100 d.2=true):(v9 l[k]? d).1.size≤1000∧Xe 100 (v9 l[k]? d).2=true:=by
 cases hk:l[k]? with
 |none=>exact hd
 |some s=>exact(zd.1 h).2 s (List.mem_of_getElem? hk)
 attribute [local irreducible] nxA nxS nxV pkA pkS pkV
theorem aeS(c:avu)(x:pa)(hx:match x with | (a,b,d,e)=>22≤a.length + (22:Nat)∧aG b d e=true∧a.length + (22:Nat)≤30∧Uj 50 a=true∧e=c):
  gF.fin x=true∧ ∃ j y,gF.res x=(j,y)∧(match y with | (a,b,d,e)=>aG b d c=true∧Uj 50 a=true∧c=e):=by
 refine gF.inv2 (fun k x=>match x with | (a,b,d,e)=>22≤a.length + k∧aG b d e=true∧a.length + k≤30∧Uj 50 a=true∧e=c) (fun y=>match y with | (a,b,d,e)=>aG b d c=true∧Uj 50 a=true∧c=e) (fun k x hx=> ?_) (fun x hx=> ?_) 22 x (by omega) hx
 ·obtain⟨a,b,d,e⟩:=x
  obtain⟨h0,h1,h2,h3,rfl⟩:=hx
  have hd:Rt a=true:=by simp only [Rt,q8];exact⟨bx (by omega),dL (by omega)⟩
  have ds:=(awV _ hd).2
  have l0:(Hk a).length=1:=rfl
  have p0:Rr b d e=true:=h1
  have p3:YY a=true:=aY (by have:(ByteArray.mk #[105]).size=1:=rfl;omega)
  have p4:YZ a=true:=aY (by rw [l0];omega)
  have p5:Za a=true:=aY (by rw [l0];omega)
  have l6:(Iy a).length=a.length + 1:=by simp only [Iy,j6,l0]
  have m6:Uj 50 (Iy a)=true:=by
   refine pe.2 ⟨by omega,fun s hs=> ?_⟩
   rcases j8.1 hs with hs | hs
   ·exact(pe.1 h3).2 s hs
   ·rw [qqj.1 hs,ByteArray.size_append]
    have:(ByteArray.mk #[105]).size=1:=rfl
    omega
  have s7:aG (DE b e) (DF b d e) e=true:=jP h1
  simp only [gF,OP,LT.ok,FR,FS,and_true,true_and,p0,hd,p3,p4,p5]
  exact⟨fun _=>⟨by omega,s7,by omega,m6⟩,fun _=>⟨h1,h3⟩⟩
 ·obtain⟨a,b,d,e⟩:=x
  obtain⟨h0,h1,h2,h3,rfl⟩:=hx
  have nn:=Qa (n:=2) h1 (by omega)
  have hw:IntKind.i64.wrap (20 + nxV 2 b d e)=20 + nxV 2 b d e:=wrap_i64 (by omega) (by omega)
  have e1:Rs a b d e=false:=by simp only [Rs,hw];exact Ej (by omega)
  have p0:Rr b d e=true:=h1
  simp only [gF,OP,LT.ok,FR,FS,and_true,true_and,p0,e1,Bool.false_eq_true,false_implies,true_implies]
  exact⟨h1,h3⟩
theorem aeT(c:avu)(x:pb)(hx:match x with | (a,b,d,e)=>42≤a.length + (42:Nat)∧aG b d e=true∧a.length + (42:Nat)≤92∧1≤a.length∧RZ 100 a=true∧e=c):
  gG.fin x=true∧ ∃ j y,gG.res x=(j,y)∧(match y with | (a,b,d,e)=>aG b d c=true∧RZ 100 a=true∧c=e):=by
 refine gG.inv2 (fun k x=>match x with | (a,b,d,e)=>42≤a.length + k∧aG b d e=true∧a.length + k≤92∧1≤a.length∧RZ 100 a=true∧e=c) (fun y=>match y with | (a,b,d,e)=>aG b d c=true∧RZ 100 a=true∧c=e) (fun k x hx=> ?_) (fun x hx=> ?_) 42 x (by omega) hx
 ·obtain⟨a,b,d,e⟩:=x
  obtain⟨h0,h1,h2,h3,h4,rfl⟩:=hx
  have l2:(Hn a).length=1:=rfl
  have p0:Ru b d e=true:=h1
  have p2:Zb=true:=rfl
  have p3:Zc a=true:=dL (by simp only [Hl];omega)
  have p4:Zd a=true:=er (by simp only [Int.toNat_zero];omega)
  have p5:Ze a=true:=aY (by rw [l2];omega)
  have p6:Zf a=true:=aY (by rw [l2];omega)
  have l7:(Iz a).length=a.length + 1:=by simp only [Iz,j6,l2]
  have ha:(Hm a).1.size≤1000∧Xe 100 (Hm a).2=true:=ayR h4 _ ⟨Nat.zero_le _,rfl⟩
  have m7:RZ 100 (Iz a)=true:=by
   refine zd.2 ⟨by omega,fun x hx=> ?_⟩
   rcases j8.1 hx with hx | hx
   ·exact(zd.1 h4).2 x hx
   ·rw [qqj.1 hx];exact ha
  have s7:aG (DG b e) (DH b d e) e=true:=jP h1
  simp only [gG,OQ,LT.ok,FR,FS,and_true,true_and,p0,p2,p3,p4,p5,p6]
  exact⟨fun _=>⟨by omega,s7,by omega,by omega,m7⟩,fun _=>⟨h1,h4⟩⟩
 ·obtain⟨a,b,d,e⟩:=x
  obtain⟨h0,h1,h2,h3,h4,rfl⟩:=hx
  have nn:=Qa (n:=2) h1 (by omega)
  have hw:IntKind.i64.wrap (40 + nxV 2 b d e)=40 + nxV 2 b d e:=wrap_i64 (by omega) (by omega)
  have e1:Rv a b d e=false:=by simp only [Rv,Hl,hw];exact Ej (by omega)
  have p0:Ru b d e=true:=h1
  simp only [gG,OQ,LT.ok,FR,FS,and_true,true_and,p0,e1,Bool.false_eq_true,false_implies,true_implies]
  exact⟨h1,h4⟩
theorem azJ{i:Int}{l:List aAi}(h:0≤i∧i < 3)(hl:l.length=3):leI 0 i=true∧ltI i (l.length:Int)=true∧ltN i.toNat l.length=true:=⟨bx h.1,dL (by omega),er (by omega)⟩
theorem azK{i:Int}{l:List aAi}(h:0≤i∧i < 4)(hl:l.length=4):leI 0 i=true∧ltI i (l.length:Int)=true∧ltN i.toNat l.length=true:=⟨bx h.1,dL (by omega),er (by omega)⟩
theorem YX(a b:Int)(c:avu)(h:aG a b c=true):
  Ws a b c=true∧aG (Is a b c) (It a b c) c=true∧prD (Iq a b c) (Iu a b c) (Iv a b c) (Iw a b c) (Ir a b c) (Ix a b c)=true:=by
 obtain⟨_,s0,⟨hp,_⟩,l7,l7'⟩:=WA a b c h
 obtain⟨b1,b2,b3,b4,b5,b6⟩:=JY.1 hp
 have m4:Uj 3 (nz a b c)=true:=aeJ _ rfl
 have m5:Uj 3 (fo a b c)=true:=aeJ _ rfl
 have c4:=(pe.1 m4).1
 have c5:=(pe.1 m5).1
 obtain⟨i0,i1⟩:0≤oz a b c∧oz a b c < lK a b c:=Qa s0 (by simp only [lK];omega)
 have s1:aG (nxA (lK a b c) (qU a b c) c) (Nl a b c) c=true:=jP s0
 have s4:aG (dk a b c) (eS a b c) c=true:=jP s1
 have k6:0≤pP a b c∧pP a b c < 3:=Qa (n:=3) s4 (by omega)
 have k21:0≤oy a b c∧oy a b c < 4:=Qa (n:=4) s4 (by omega)
 obtain⟨d1,d2,d3⟩:=Qf (dk a b c) (eS a b c) c s4
 obtain⟨f0,j0,⟨z0,z1,z2,z3⟩,g0,q1,q2,q3⟩:=aeS c (AZ a b c) (by
  simp only [AZ,Kj]
  exact⟨by omega,s4,by omega,b2,trivial⟩)
 obtain⟨f1,j1,⟨u0,u1,u2,u3⟩,g1,r1,r2,r3⟩:=aeT c (Ba a b c) (by
  simp only [Ba,Kj]
  exact⟨by omega,s4,by omega,l7,b6,trivial⟩)
 have e1:(wW a b c).1=z1:=by simp only [wW,g0]
 have e2:((wW a b c).2).1=z2:=by simp only [wW,g0]
 have e0:((Lp.res gF (AZ a b c)).2).1=z0:=by rw [g0]
 have v1:(wX a b c).1=u1:=by simp only [wX,g1]
 have v2:((wX a b c).2).1=u2:=by simp only [wX,g1]
 have v0:((Lp.res gG (Ba a b c)).2).1=u0:=by rw [g1]
 have ha:(Kk a b c).1.size≤1000∧Xe 100 (Kk a b c).2=true:=ayR b6 _ ⟨Nat.zero_le _,rfl⟩
 have m22:Uj 1 (wY a b c)=true:=pe.2 ⟨Nat.le_refl _,fun s hs=>by rw [qqj.1 hs];exact apR (n:=4) rfl _⟩
 have c1:=bx i0
 have c2:=dL i1
 have c3:Te a b c=true:=er (by simp only [lK]at i1;omega)
 refine⟨?_,?_,?_⟩
 ·obtain⟨t1,t2,t3⟩:=azJ (l:= [ByteArray.mk #[],ByteArray.mk #[101,110,100],ByteArray.mk #[82,105,100,101]]) k6 rfl
  obtain⟨t4,t5,t6⟩:=azJ (l:= [ByteArray.mk #[97,110,100],ByteArray.mk #[120],ByteArray.mk #[110,111,119,104,101,114,101]]) k6 rfl
  obtain⟨t7,t8,t9⟩:=azK (l:= [ByteArray.mk #[],ByteArray.mk #[111,114],ByteArray.mk #[97],ByteArray.mk #[113]]) k21 rfl
  obtain⟨w7,w8,w9⟩:=azK (l:= [ByteArray.mk #[97],ByteArray.mk #[113],ByteArray.mk #[119],ByteArray.mk #[111,110]]) k21 rfl
  have l22:(wY a b c).length=1:=rfl
  have n1:leN ((fo a b c).length + (wY a b c).length) 9223372036854775807=true:=aY (by rw [l22];omega)
  have n2:leN (((fo a b c).length + (wY a b c).length) * 16) 140737488355328=true:=aY (by rw [l22];omega)
  have n3:leN (0 + (fo a b c).length) 9223372036854775807=true:=aY (by omega)
  have n4:leN ((0 + (fo a b c).length) * 16) 140737488355328=true:=aY (by omega)
  simp only [Ws,h,s0,s1,s4,d1,f0,f1,c1,c2,c3,t1,t2,t3,t4,t5,t6,t7,t8,t9,w7,w8,w9,n1,n2,n3,n4,allT,k8,Bool.and_self,cond_true]
 ·simp only [Is,It,e1,e2,v1,v2,DE,DF,DG,DH]
  exact qB (jP s4) (qB s4 (qB (jP s4) (qB (jP s4) (qB d2 (qB (jP q1) (qB (jP r1) (qB (jP s4) s4)))))))
 ·simp only [Iq,Ir,Iu,Iv,Iw,Ix,e0,v0]
  cases az a b c <;> simp only [cond_true,cond_false]
  ·cases aM a b c <;> simp only [cond_true,cond_false]
   ·cases aN a b c <;> simp only [cond_true,cond_false]
    ·cases bo a b c <;> simp only [cond_true,cond_false]
     ·cases cf a b c <;> simp only [cond_true,cond_false]
      ·cases dC a b c <;> simp only [cond_true,cond_false]
       ·cases ec a b c <;> simp only [cond_true,cond_false]
        ·cases ew a b c <;> simp only [cond_true,cond_false]
         ·exact hp
         ·exact JY.2 ⟨b1,b2,apS m5 m22 (by omega),b4,b5,b6⟩
        ·exact JY.2 ⟨b1,b2,b3,b4,b5,r2⟩
       ·exact JY.2 ⟨b1,q2,b3,b4,b5,b6⟩
      ·exact JY.2 ⟨b1,b2,b3,b4,b5,atq _ b6 ha.1 d3⟩
     ·exact JY.2 ⟨b1,b2,b3,b4,b5,atq _ b6 (apR (n:=4) rfl _) ha.2⟩
    ·exact JY.2 ⟨b1,b2,b3,b4,apR (n:=3) rfl _,b6⟩
   ·exact JY.2 ⟨b1,rfl,b3,b4,Nat.zero_le _,b6⟩
  ·exact JY.2 ⟨apR (n:=3) rfl _,b2,b3,b4,b5,b6⟩
def acx:aAj
 | [.one ⟨false,[.ptr 0 0]⟩],[.box 76 [.ref 1,.val (.int .i64 a),.val (.int .i64 b)],.row false 5 (.int .u8) c]=>some ⟨.one ⟨true,[.val (.string (Iq a b c)),.ref 2,.ref 3,.ref 4,.val (.string (Ir a b c)),.ref 5]⟩,[.box 76 [.ref 1,aAk (Is a b c),aAk (It a b c)],aAu c],[aAr (Iu a b c),aAr (Iv a b c),aAr (Iw a b c),aAA (Ix a b c)],[aG a b c]⟩
 |_,_=>none
def VP:PF prog:=PF.alt amD acx (by
 intro args es o h cL;unfold acx at h;split at h
 ·rename_i a b c
  cases h
  have cL:=kO cL
  have hh:=(YX a b c cL).1
  have en:=hh
  exact qm rfl (jv en) rfl rfl rfl
 ·cases h)
end Go.SX
namespace Go.SX
open Go.Proofs Go.Proofs.Tryz
set_option maxRecDepth 100000
section
variable (a b:Int)(c:avu)
def sC:Bool:=nxV 4 a b c==0
def ZK:Bool:=aG (nxA 4 a c) (nxS 4 a b c) c
def vf:aAi:=bif sC a b c then Iq (nxA 4 a c) (nxS 4 a b c) c else qT (nxA 4 a c) (nxS 4 a b c) c
def vg:aAi:=bif sC a b c then Ir (nxA 4 a c) (nxS 4 a b c) c else sy (nxA 4 a c) (nxS 4 a b c) c
def AK:Int:=bif sC a b c then Is (nxA 4 a c) (nxS 4 a b c) c else qU (nxA 4 a c) (nxS 4 a b c) c
def AL:Int:=bif sC a b c then It (nxA 4 a c) (nxS 4 a b c) c else DI (nxA 4 a c) (nxS 4 a b c) c
def sB:List aAi:=bif sC a b c then Iu (nxA 4 a c) (nxS 4 a b c) c else nz (nxA 4 a c) (nxS 4 a b c) c
def vh:List aAi:=bif sC a b c then Iv (nxA 4 a c) (nxS 4 a b c) c else fo (nxA 4 a c) (nxS 4 a b c) c
def vi:List aAi:=bif sC a b c then Iw (nxA 4 a c) (nxS 4 a b c) c else qV (nxA 4 a c) (nxS 4 a b c) c
def vj:aiJ:=bif sC a b c then Ix (nxA 4 a c) (nxS 4 a b c) c else gA (nxA 4 a c) (nxS 4 a b c) c
def abW:Bool:=allT [aG a b c,!sC a b c||ZK a b c,sC a b c||ZK a b c]
end
def ahl:aAj
 | [.one ⟨false,[.ptr 0 0]⟩],[.box 76 [.ref 1,.val (.int .i64 a),.val (.int .i64 b)],.row false 5 (.int .u8) c]=>some ⟨.one ⟨true,[.val (.string (vf a b c)),.ref 2,.ref 3,.ref 4,.val (.string (vg a b c)),.ref 5]⟩,[.box 76 [.ref 1,aAk (AK a b c),aAk (AL a b c)],aAu c],[aAr (sB a b c),aAr (vh a b c),aAr (vi a b c),aAA (vj a b c)],[abW a b c]⟩
 |_,_=>none
def aqa:PF prog:=PF.ofG prog (T3z [ai,sk,VP]) [] aU 16 f16 func16 (fun c _=>LOk.nil c) ahl (by
 intro _ _ _ h;unfold ahl at h;split at h<;>cases h;kernel_rfl)
abbrev kQ:=Int×Int×Int×List Int×List (Int×(Int×Int))×List Int
section
variable (a b c:Int)(d e:avu)
def Eo:Bool:=ltI a (↑d.length:Int)
def Ve:Bool:=aG b c e
def Vf:Bool:=leI 0 a
def Vg:Bool:=ltN a.toNat d.length
def Vh:Int:=qqq .i64 (a + (1:Int))
def Vi:Int:=nxA 2 b e
def Vj:Int:=nxS 2 b c e
def Vk:avu:=List.set d a.toNat (nxV 2 b c e)
end
def ado:kQ→List (Nat×SV)
 |(a,_,_,_,_,_)=> [(7,(aAm a)),(5,(aAl (.ptr 0 0))),(0,(aAl (.ptr 1 0)))]
def adk:kQ→List (Nat×Entry)
 |(_,a,b,c,d,e)=> [(0,(.box 31 [.ref 2,.ref 3])),(1,(.box 76 [.ref 4,aAk a,aAk b])),(2,(aAo c)),(3,(aAw d)),(4,(aAu e))]
def adw:Nat→kQ→List (Nat×SV)
 |_,_=>[]
def Db:kQ→LT kQ
 |(a,b,c,d,e,f)=> .ite (Eo a d) (.need [Ve b c f,Vf a,Eo a d,Vg a d] (.nrm ((Vh a),Vi b f,Vj b c f,Vk a b c d f,e,f) [(0,0),(1,1),(2,2),(3,3),(4,4)])) (.ext 0 [(0,0),(1,1),(2,2),(3,3),(4,4)])
def Jf(s:St):Option kQ:=do
 let some ⟨none,.one ⟨false,[.val (.int .i64 a)]⟩⟩:=s.look 7|none
 let some ⟨none,.one ⟨false,[.ptr 1088 0]⟩⟩:=s.look 5|none
 let some ⟨none,.one ⟨false,[.ptr 0 0]⟩⟩:=s.look 0|none
 let some (.box 31 [.ref 832,.ref 833]):=s.ent 1088|none
 let some (.box 76 [.ref 5,.val (.int .i64 b),.val (.int .i64 c)]):=s.ent 0|none
 let some (.row true 2 (.int .i64) d):=s.ent 832|none
 let some (.row true 84 (.pair (.int .i64) (.pair (.int .i64) (.int .i64))) e):=s.ent 833|none
 let some (.row false 5 (.int IntKind.u8) f):=s.ent 5|none
 some (a,b,c,d,e,f)
def gc:Lp kQ where
 h:=⟨[62,63,64,65,66,69,70,71,72,73,74,67,68,7],[0,1,2,3,4],[],[]⟩
 JL:=ado
 JE:=adk
 XL:=adw
 XE:=fun _=>adk
 q:=fun j=>match j with | _=> .exit 1
 tags:= [0]
 lt:=Db
 fuel:=fun(a,b,c,d,e,f)=>a.natAbs + b.natAbs + c.natAbs + d.length + e.length + f.length
 fix:=fun(_,_,_,_,e,f) (a,b,c,d,_,_)=>(a,b,c,d,e,f)
 σ:= [(0,1088),(1,0),(2,832),(3,833),(4,5)]
 rd:=Jf
theorem abc:LoopOk prog (fun k=>Nat.blt k Tryz.f17.ntmps) gc.F (bc f17 0):=by
 refine Lp.ok (tbl:= (T3z [CB,ai,cM,cQ,CA])) (lf:= []) aU gc (by kernel_rfl) (LOk.nil _) (fun _=>rfl) (fun _ _=>rfl) ?_ ?_ ?_ ?_ (fun _=>rfl) ?_
 ·intro _;kernel_rfl
 ·intro _;kernel_rfl
 ·intro s x h
  have h:Jf s=some x:=h
  unfold Jf at h
  repeat' split at h
  all_goals cases h
  constructor<;>repeat(first|refine ab ‹_› rfl ?_|refine aa rfl ‹_› rfl ?_|rfl)
 ·intro _;kernel_rfl
 ·intro _ _;exact(And.intro rfl trivial)
section
variable (a b:aAi)(c d:Int)(e f g:List aAi)(i:aiK)(j:avu)
def bX:Bool:=rgC a e f g b i (bp a b c d e f g i j)!=0
def Hu:Int:=nxV 30 (rV a b c d e f g i j) (vn a b c d e f g i j) j
def ed:Bool:=Hu a b c d e f g i j==0
def lE:Int:=nxA 30 (rV a b c d e f g i j) j
def fZ:Bool:=Hu a b c d e f g i j==1
def oa:Bool:=Hu a b c d e f g i j==2
def jJ:Bool:=ltI 0 (↑(v8 (rgB a e f g b i (bp a b c d e f g i j))):Int)
def Cf:Bool:=Hu a b c d e f g i j==3
def oc:Int:=nxS 30 (rV a b c d e f g i j) (vn a b c d e f g i j) j
def gK:avu:=rgV a e f g b i (bp a b c d e f g i j)
def Fv:Int×Int×Int×avu×at0×avu:=((0:Int),lE a b c d e f g i j,oc a b c d e f g i j,gK a b c d e f g i j,rgB a e f g b i (bp a b c d e f g i j),j)
def wD:Int×Int×avu×at0×avu:=(Lp.res gc (Fv a b c d e f g i j)).2.2
def wE:Int×avu×at0×avu:=(wD a b c d e f g i j).2
def WH:Int×Int:=(v9 (rgB a e f g b i (bp a b c d e f g i j))[v7 0]? ((0:Int),(0:Int),(0:Int))).2
def DS:Int:=bif bX a b c d e f g i j then rV a b c d e f g i j else bif ed a b c d e f g i j then lE a b c d e f g i j else bif fZ a b c d e f g i j then lE a b c d e f g i j else bif oa a b c d e f g i j then bif jJ a b c d e f g i j then pkA (lE a b c d e f g i j) [(-1:Int),(1:Int),(9:Int)] j else lE a b c d e f g i j else bif Cf a b c d e f g i j then (wD a b c d e f g i j).1else lE a b c d e f g i j
def DT:Int:=bif bX a b c d e f g i j then vn a b c d e f g i j else bif ed a b c d e f g i j then oc a b c d e f g i j else bif fZ a b c d e f g i j then oc a b c d e f g i j else bif oa a b c d e f g i j then bif jJ a b c d e f g i j then pkS (lE a b c d e f g i j) (oc a b c d e f g i j) [(-1:Int),(1:Int),(9:Int)] j else oc a b c d e f g i j else bif Cf a b c d e f g i j then (wE a b c d e f g i j).1else oc a b c d e f g i j
def DU:avu:=bif bX a b c d e f g i j then qqw (v7 (↑f.length:Int)) (0:Int)else bif ed a b c d e f g i j then gK a b c d e f g i j++ [(0:Int)]else bif fZ a b c d e f g i j then gK a b c d e f g i j else bif oa a b c d e f g i j then gK a b c d e f g i j else bif Cf a b c d e f g i j then ((wE a b c d e f g i j).2).1else gK a b c d e f g i j
def DV:as9:=bif bX a b c d e f g i j then []else bif ed a b c d e f g i j then rgB a e f g b i (bp a b c d e f g i j)else bif fZ a b c d e f g i j then rgB a e f g b i (bp a b c d e f g i j)++ [((0:Int),(0:Int),(0:Int))]else bif oa a b c d e f g i j then bif jJ a b c d e f g i j then List.set (rgB a e f g b i (bp a b c d e f g i j)) (v7 0) (pkV (lE a b c d e f g i j) (oc a b c d e f g i j) [(-1:Int),(1:Int),(9:Int)] j,(WH a b c d e f g i j).1,(WH a b c d e f g i j).2)else rgB a e f g b i (bp a b c d e f g i j)else bif Cf a b c d e f g i j then rgB a e f g b i (bp a b c d e f g i j)else rgB a e f g b i (bp a b c d e f g i j)
def RB:Bool:=allT [aG c d j&&leN e.length (50:Nat),rgN a e f g b i (bp a b c d e f g i j),!bX a b c d e f g i j||leI 0 (↑f.length:Int),!bX a b c d e f g i j||leI (↑f.length:Int) (↑f.length:Int),!bX a b c d e f g i j||leI ((↑(8:Nat):Int) * (↑f.length:Int)) 281474976710656,!bX a b c d e f g i j||leI (↑f.length:Int) 9223372036854775807,bX a b c d e f g i j||aG (rV a b c d e f g i j) (vn a b c d e f g i j) j,bX a b c d e f g i j||(!ed a b c d e f g i j||leN (v8 (gK a b c d e f g i j)) 1048576),bX a b c d e f g i j||(!ed a b c d e f g i j||leN (v8 (gK a b c d e f g i j) + v8 [(0:Int)]) (9223372036854775807:Nat)),bX a b c d e f g i j||(!ed a b c d e f g i j||leN ((v8 (gK a b c d e f g i j) + v8 [(0:Int)]) * (8:Nat)) 140737488355328),bX a b c d e f g i j||(ed a b c d e f g i j||(!fZ a b c d e f g i j||leN (0 + v8 (rgB a e f g b i (bp a b c d e f g i j))) 9223372036854775807)),bX a b c d e f g i j||(ed a b c d e f g i j||(!fZ a b c d e f g i j||leN ((0 + v8 (rgB a e f g b i (bp a b c d e f g i j))) * 24) 140737488355328)),bX a b c d e f g i j||(ed a b c d e f g i j||(!fZ a b c d e f g i j||leN (v8 (rgB a e f g b i (bp a b c d e f g i j)) + v8 [((0:Int),(0:Int),(0:Int))]) 9223372036854775807)),bX a b c d e f g i j||(ed a b c d e f g i j||(!fZ a b c d e f g i j||leN ((v8 (rgB a e f g b i (bp a b c d e f g i j)) + v8 [((0:Int),(0:Int),(0:Int))]) * 24) 140737488355328)),bX a b c d e f g i j||(ed a b c d e f g i j||(fZ a b c d e f g i j||(!oa a b c d e f g i j||(!jJ a b c d e f g i j||aG (lE a b c d e f g i j) (oc a b c d e f g i j) j&&leN 1 (v8 [(-1:Int),(1:Int),(9:Int)]))))),bX a b c d e f g i j||(ed a b c d e f g i j||(fZ a b c d e f g i j||(!oa a b c d e f g i j||(!jJ a b c d e f g i j||leI 0 0)))),bX a b c d e f g i j||(ed a b c d e f g i j||(fZ a b c d e f g i j||(!oa a b c d e f g i j||(!jJ a b c d e f g i j||jJ a b c d e f g i j)))),bX a b c d e f g i j||(ed a b c d e f g i j||(fZ a b c d e f g i j||(!oa a b c d e f g i j||(!jJ a b c d e f g i j||ltN (v7 0) (v8 (rgB a e f g b i (bp a b c d e f g i j))))))),bX a b c d e f g i j||(ed a b c d e f g i j||(fZ a b c d e f g i j||(oa a b c d e f g i j||(!Cf a b c d e f g i j||Lp.fin gc (Fv a b c d e f g i j)))))]
end
def Yz:aAj
 | [.one ⟨false,[.ptr 0 0]⟩,.one ⟨true,[.val (.string a),.ref 1,.ref 2,.ref 3,.val (.string b),.ref 4]⟩],[.box 76 [.ref 5,.val (.int .i64 c),.val (.int .i64 d)],.row false 9 (.str) e,.row false 9 (.str) f,.row false 9 (.str) g,.row false 91 (.pair (.str) (.sl 66 (.pair (.int .i64) (.pair (.str) (.int .i64))))) i,.row false 5 (.int .u8) j]=>some ⟨.one ⟨true,[.ref 6,.ref 7]⟩,[.box 76 [.ref 5,aAk (DS a b c d e f g i j),aAk (DT a b c d e f g i j)],aAn e,aAn f,aAn g,aAt i,aAu j],[aAo (DU a b c d e f g i j),aAw (DV a b c d e f g i j)],[RB a b c d e f g i j]⟩
 |_,_=>none
def aiw:PF prog:=PF.ofG prog (T3z [CB,ai,cM,cQ,CA]) [gc.F] aU 17 f17 func17 (LOk.fnT (l:= [bc f17 0]) (by kernel_rfl) (.cons abc (.nil _))) Yz (by
 intro _ _ _ h;unfold Yz at h;split at h<;>cases h;kernel_rfl)
theorem asr{nm:aAi}{ins vs os:List aAi}{g:aAi}{ls:List LN}(h:prD nm ins vs os g ls=true):adZ nm ins vs os g ls=true:=by
 obtain⟨h1,h2,h3,h4,h5,h6⟩:=JY.1 h
 obtain⟨i0,i1⟩:=pe.1 h2
 obtain⟨v0,v1⟩:=pe.1 h3
 obtain⟨o0,o1⟩:=pe.1 h4
 obtain⟨l0,l1⟩:=zd.1 h6
 have oe: ∀ {l:List aAi},l.length≤50→(∀ s∈l,s.size≤1000)→XD l=true:=fun {l} a b=>by
  simp only [XD,q8,List.all_eq_true]
  exact⟨aY (by omega),fun t ht=>aY (by have:=b t ht;omega)⟩
 refine Wa.2 ⟨by omega,oe i0 i1,oe v0 v1,oe o0 o1,by omega,by omega,UV.2 ⟨by omega,fun l hl=> ?_⟩⟩
 obtain⟨a,b⟩:=l1 l hl
 obtain⟨b0,b1⟩:=Co.1 b
 exact⟨by omega,Vm.2 ⟨by omega,fun t ht=>by have:=b1 t ht;omega⟩⟩
theorem axV{n:Nat}{l:at1}(h:aep n l=true)(hl:l.length≤9223372036854775807)(hn:n≤9223372036854775807):ayI 9223372036854775807 l=true:=
 axM.2 ⟨hl,fun x hx=>by have:=ao2.1 h x hx;omega⟩
theorem axF(nm:aAi)(ins vs os:List aAi)(g:aAi)(ls:List LN)(l:at1):
  (au8 (rgO nm ins vs os g ls l)≤4000∧(rgO nm ins vs os g ls l).length≤200∧ ∀ x∈rgO nm ins vs os g ls l,x.length≤20)∧(rgV nm ins vs os g ls l).length≤20∧(rgB nm ins vs os g ls l).length≤1600:=by
 have ht: ∀ (l:at1),(∀ x∈l,x.length≤20)→au8 l≤20 * l.length:=by
  intro l
  induction l with
  |nil=>intro _;simp [au8]
  |cons a r ih=>
   intro h
   have h1:=h a (by simp)
   have h2:=ih fun x hx=>h x (by simp [hx])
   simp only [au8,List.map_cons,List.sum_cons,j9]at h2 ⊢
   omega
 simp only [rgO,rgV,rgB]
 rcases atF nm ins vs os g ls l with⟨h1,h2⟩ | ⟨h1,h3,h2⟩ | ⟨h1,h3,h4,h2⟩ | ⟨h1,h3,h4,h2⟩
 ·rw [h2];simp [au8]
 ·rw [h2];simp [au8]
 ·rw [h2];simp [au8]
 ·rw [h2]
  obtain⟨g1,g2,g3⟩:=atK h1 l (zv vs) (aiG (blL ls)) (List.all_eq_true.1 h4) (asH h1)
  obtain⟨s1,s2,_⟩:=Yd.1 g3
  have b2:=(dF.1 s2).2
  have:=auG h3
  have h5:=ht _ g2
  have hX:=ak4 (inp:=qqw ins.length 0) h1 (dF.2 ⟨fun z hz=> .inl (qqz hz),by simp⟩)
  have hb:=hX.bl
  have hv:=hX.h2
  simp only [beq_self_eq_true,cond_true]
  exact⟨⟨by omega,by omega,g2⟩,by omega,by omega⟩
 attribute [local irreducible] nxA nxS nxV pkA pkS pkV
theorem adb(a b:Int)(c:avu)(h:aG a b c=true):
  abW a b c=true∧aG (AK a b c) (AL a b c) c=true∧prD (vf a b c) (sB a b c) (vh a b c) (vi a b c) (vg a b c) (vj a b c)=true:=by
 have s1:aG (nxA 4 a c) (nxS 4 a b c) c=true:=jP h
 obtain⟨_,a2,a3⟩:=YX _ _ c s1
 obtain⟨_,b2,⟨b3,_⟩,_⟩:=WA _ _ c s1
 refine⟨?_,?_,?_⟩
 ·simp only [abW,ZK,h,s1,allT,k8,cond_true]
 ·simp only [AK,AL];exact qB a2 b2
 ·simp only [vf,vg,sB,vh,vi,vj]
  cases sC a b c
  ·exact b3
  ·exact a3
def ahL:aAj
 | [.one ⟨false,[.ptr 0 0]⟩],[.box 76 [.ref 1,.val (.int .i64 a),.val (.int .i64 b)],.row false 5 (.int .u8) c]=>some ⟨.one ⟨true,[.val (.string (vf a b c)),.ref 2,.ref 3,.ref 4,.val (.string (vg a b c)),.ref 5]⟩,[.box 76 [.ref 1,aAk (AK a b c),aAk (AL a b c)],aAu c],[aAr (sB a b c),aAr (vh a b c),aAr (vi a b c),aAA (vj a b c)],[aG a b c]⟩
 |_,_=>none
def abm:PF prog:=PF.alt aqa ahL (by
 intro args es o h cL;unfold ahL at h;split at h
 ·rename_i a b c
  cases h
  have cL:=kO cL
  have hh:=(adb a b c cL).1
  have en:=hh
  exact qm rfl (jv en) rfl rfl rfl
 ·cases h)
theorem ab0(c:avu)(x:kQ)(hx:match x with | (a,b,d,e,f,g)=>(e.length:Int)≤a + (20:Nat)∧0≤a∧aG b d g=true∧e.length≤20∧g=c):
  gc.fin x=true∧ ∃ j y,gc.res x=(j,y)∧(match y with | (a,b,d,e,f,g)=>aG b d c=true∧e.length≤20∧c=g):=by
 refine gc.inv2 (fun k x=>match x with | (a,b,d,e,f,g)=>(e.length:Int)≤a + k∧0≤a∧aG b d g=true∧e.length≤20∧g=c) (fun y=>match y with | (a,b,d,e,f,g)=>aG b d c=true∧e.length≤20∧c=g) (fun k x hx=> ?_) (fun x hx=> ?_) 20 x (by omega) hx
 ·obtain⟨a,b,d,e,f,g⟩:=x
  obtain⟨h0,h1,h2,h3,rfl⟩:=hx
  cases ht:Eo a e with
  |false=>
   simp only [gc,Db,LT.ok,ht,Bool.false_eq_true,false_implies,true_implies,true_and,and_true]
   exact⟨h2,h3⟩
  |true=>
   have hlt:a < (e.length:Int):=Sa.1 ht
   have p1:Ve b d g=true:=h2
   have p2:Vf a=true:=bx h1
   have p3:Vg a e=true:=er (by omega)
   have p4:Vh a=a + 1:=wrap_i64 (by omega) (by omega)
   have s5:aG (Vi b g) (Vj b d g) g=true:=jP h2
   have l7:(Vk a b d e g).length=e.length:=qqk
   simp only [gc,Db,LT.ok,FR,FS,and_true,true_and,ht,p1,p2,p3,Bool.false_eq_true,reduceCtorEq,false_implies,true_implies]
   exact⟨by omega,by omega,s5,by omega⟩
 ·obtain⟨a,b,d,e,f,g⟩:=x
  obtain⟨h0,h1,h2,h3,rfl⟩:=hx
  have ht:Eo a e=false:=Ej (by omega)
  simp only [gc,Db,LT.ok,ht,Bool.false_eq_true,false_implies,true_implies,true_and,and_true]
  exact⟨h2,h3⟩
theorem awU{a s:Int}{c:avu}{nm:aAi}{ins vs os:List aAi}{g:aAi}{ls:List LN}:(aG a s c&&prD nm ins vs os g ls)=true↔aG a s c=true∧prD nm ins vs os g ls=true:=by simp only [q8]
theorem Vd(a b:aAi)(c d:Int)(e f g:List aAi)(i:List LN)(j:avu)(h:aG c d j=true)(hp:prD a e f g b i=true):
  RB a b c d e f g i j=true∧aG (DS a b c d e f g i j) (DT a b c d e f g i j) j=true∧(DU a b c d e f g i j).length≤60∧(DV a b c d e f g i j).length≤2000:=by
 obtain⟨_,hi,hv,_⟩:=JY.1 hp
 have i0:=(pe.1 hi).1
 have v0:=(pe.1 hv).1
 obtain⟨_,t2,t3,t4⟩:=Xv a b c d e f g i j h i0
 have hrg:rgN a e f g b i (bp a b c d e f g i j)=true:=by
  simp only [rgN,asr hp,axV t4 (by omega) (by omega),Bool.and_self]
 obtain⟨_,w1,w2⟩:=axF a e f g b i (bp a b c d e f g i j)
 have w1:(gK a b c d e f g i j).length≤20:=w1
 have s3:aG (lE a b c d e f g i j) (oc a b c d e f g i j) j=true:=jP t2
 obtain⟨f0,j0,⟨z0,z1,z2,z3,z4,z5⟩,g0,q1,q2,q3⟩:=ab0 j (Fv a b c d e f g i j) (by
  simp only [Fv]
  exact⟨by omega,by omega,s3,w1,trivial⟩)
 have e1:(wD a b c d e f g i j).1=z1:=by simp only [wD,g0]
 have e2:(wE a b c d e f g i j).1=z2:=by simp only [wE,wD,g0]
 have e3:((wE a b c d e f g i j).2).1=z3:=by simp only [wE,wD,g0]
 have hd:(aG c d j&&leN e.length 50)=true:=api.2 ⟨h,i0⟩
 refine⟨?_,?_,?_,?_⟩
 ·have u1:leI 0 (f.length:Int)=true:=bx (by omega)
  have u2:leI (f.length:Int) (f.length:Int)=true:=bx (by omega)
  have u3:leI ((↑(8:Nat):Int) * (f.length:Int)) 281474976710656=true:=bx (by omega)
  have u4:leI (f.length:Int) 9223372036854775807=true:=bx (by omega)
  have o1: [(0:Int)].length=1:=rfl
  have o2: [((0:Int),(0:Int),(0:Int))].length=1:=rfl
  have b1:leN (gK a b c d e f g i j).length 1048576=true:=aY (by omega)
  have b2:leN ((gK a b c d e f g i j).length + [(0:Int)].length) 9223372036854775807=true:=aY (by rw [o1];omega)
  have b3:leN (((gK a b c d e f g i j).length + [(0:Int)].length) * 8) 140737488355328=true:=aY (by rw [o1];omega)
  have b4:leN (0 + (rgB a e f g b i (bp a b c d e f g i j)).length) 9223372036854775807=true:=aY (by omega)
  have b5:leN ((0 + (rgB a e f g b i (bp a b c d e f g i j)).length) * 24) 140737488355328=true:=aY (by omega)
  have b6:leN ((rgB a e f g b i (bp a b c d e f g i j)).length + [((0:Int),(0:Int),(0:Int))].length) 9223372036854775807=true:=aY (by rw [o2];omega)
  have b7:leN (((rgB a e f g b i (bp a b c d e f g i j)).length + [((0:Int),(0:Int),(0:Int))].length) * 24) 140737488355328=true:=aY (by rw [o2];omega)
  have b8:leN 1 (v8 [(-1:Int),1,9])=true:=rfl
  have b9:leI 0 0=true:=rfl
  have k6:jJ a b c d e f g i j=true→ltN (v7 0) (rgB a e f g b i (bp a b c d e f g i j)).length=true:=fun hh=>by
   simp only [jJ]at hh
   have:=asc hh
   exact er (by simp only [Int.toNat_zero];omega)
  simp only [RB,hd,hrg,u1,u2,u3,u4,t2,s3,b1,b2,b3,b4,b5,b6,b7,b8,b9,f0,allT,k8,Bool.and_self,cond_true]
  cases h6:jJ a b c d e f g i j with
  |true=>simp only [k6 h6,k8,cond_true]
  |false=>simp only [Bool.not_false,Bool.true_or,k8,cond_true]
 ·simp only [DS,DT,e1,e2]
  exact qB t2 (qB s3 (qB s3 (qB (qB (UQ s3) s3) (qB q1 s3))))
 ·simp only [DU,e3]
  exact Fh (by rw [v5,q9];omega) (Fh (by rw [j6,w5];omega) (Fh (by omega) (Fh (by omega) (Fh (by omega) (by omega)))))
 ·simp only [DV]
  exact Fh (by simp) (Fh (by omega) (Fh (by rw [j6,w5];omega) (Fh (Fh (by rw [qqk];omega) (by omega)) (Fh (by omega) (by omega)))))
def YG:aAj
 | [.one ⟨false,[.ptr 0 0]⟩,.one ⟨true,[.val (.string a),.ref 1,.ref 2,.ref 3,.val (.string b),.ref 4]⟩],[.box 76 [.ref 5,.val (.int .i64 c),.val (.int .i64 d)],.row false 9 (.str) e,.row false 9 (.str) f,.row false 9 (.str) g,.row false 91 (.pair (.str) (.sl 66 (.pair (.int .i64) (.pair (.str) (.int .i64))))) i,.row false 5 (.int .u8) j]=>some ⟨.one ⟨true,[.ref 6,.ref 7]⟩,[.box 76 [.ref 5,aAk (DS a b c d e f g i j),aAk (DT a b c d e f g i j)],aAn e,aAn f,aAn g,aAt i,aAu j],[aAo (DU a b c d e f g i j),aAw (DV a b c d e f g i j)],[aG c d j&&prD a e f g b i]⟩
 |_,_=>none
def Rf:PF prog:=PF.alt aiw YG (by
 intro args es o h cL;unfold YG at h;split at h
 ·rename_i a b c d e f g i j
  cases h
  have cL:=kO cL
  have hh:=(Vd a b c d e f g i j (awU.1 cL).1 (awU.1 cL).2).1
  have en:=hh
  exact qm rfl (jv en) rfl rfl rfl
 ·cases h)
end Go.SX
namespace Go.SX
open Go.Proofs Go.Proofs.Tryz
set_option maxRecDepth 100000
section
variable (a:avu)
def JZ:Int:=DS (vf 0 (frS a) a) (vg 0 (frS a) a) (AK 0 (frS a) a) (AL 0 (frS a) a) (sB 0 (frS a) a) (vh 0 (frS a) a) (vi 0 (frS a) a) (vj 0 (frS a) a) a
def Ka:Int:=DT (vf 0 (frS a) a) (vg 0 (frS a) a) (AK 0 (frS a) a) (AL 0 (frS a) a) (sB 0 (frS a) a) (vh 0 (frS a) a) (vi 0 (frS a) a) (vj 0 (frS a) a) a
def bh:aAi:=vf 0 (frS a) a
def bi:aAi:=vg 0 (frS a) a
def bj:List aAi:=sB 0 (frS a) a
def bk:List aAi:=vh 0 (frS a) a
def bm:List aAi:=vi 0 (frS a) a
def bn:aiJ:=vj 0 (frS a) a
def cE:avu:=DU (vf 0 (frS a) a) (vg 0 (frS a) a) (AK 0 (frS a) a) (AL 0 (frS a) a) (sB 0 (frS a) a) (vh 0 (frS a) a) (vi 0 (frS a) a) (vj 0 (frS a) a) a
def dI:as9:=DV (vf 0 (frS a) a) (vg 0 (frS a) a) (AK 0 (frS a) a) (AL 0 (frS a) a) (sB 0 (frS a) a) (vh 0 (frS a) a) (vi 0 (frS a) a) (vj 0 (frS a) a) a
def cF:avu:=zD (vf 0 (frS a) a) (vg 0 (frS a) a) (JZ a) (Ka a) (sB 0 (frS a) a) (vh 0 (frS a) a) (vi 0 (frS a) a) (vj 0 (frS a) a) a
def Uu:Bool:=allT [aG 0 0 a,aG 0 (frS a) a,aG (AK 0 (frS a) a) (AL 0 (frS a) a) a&&prD (vf 0 (frS a) a) (sB 0 (frS a) a) (vh 0 (frS a) a) (vi 0 (frS a) a) (vg 0 (frS a) a) (vj 0 (frS a) a),aG (JZ a) (Ka a) a&&leN (v8 (sB 0 (frS a) a)) 50]
end
def aaB:aAj
 | [.one ⟨false,[.ref 0]⟩],[.row false 5 (.int .u8) a]=>some ⟨.tup [⟨true,[.val (.string (bh a)),.ref 1,.ref 2,.ref 3,.val (.string (bi a)),.ref 4]⟩,⟨true,[.ref 5,.ref 6]⟩,⟨false,[.ref 7]⟩],[aAu a],[aAr (bj a),aAr (bk a),aAr (bm a),aAA (bn a),aAo (cE a),aAw (dI a),aAo (cF a)],[Uu a]⟩
 |_,_=>none
def uy(a:avu):Bool:=ltI 4096 (↑a.length:Int)
def aoW:aAj
 | [.one ⟨false,[.ref 0]⟩],[.row false 5 (.int .u8) a]=>some ⟨aAl (.val (.bool (uy a))),[aAu a],[],[]⟩
 |_,_=>none
def akY:PF prog:=PF.ofG prog [] [] aU 4 f4 func4 (fun c _=>LOk.nil c) aoW (by
 intro _ _ _ h;unfold aoW at h;split at h<;>cases h;kernel_rfl)
abbrev lB:=Int×List (Int×(Int×Int))×List (Int×(Int×Int))
section
variable (a:Int)(b c:as9)
def rI:Int×Int×Int:=v9 b[v7 a]? ((0:Int),(0:Int),(0:Int))
def rJ:Int×Int×Int:=v9 c[v7 a]? ((0:Int),(0:Int),(0:Int))
def xJ:Bool:=ltI a (↑b.length:Int)
def xK:Bool:=leI 0 a
def BK:Bool:=ltN a.toNat b.length
def BL:Bool:=ltI a (↑c.length:Int)
def BM:Bool:=ltN a.toNat c.length
def BN:Bool:= !bif (rI a b).1==(rJ a c).1then bif ((rI a b).2).1==((rJ a c).2).1then bif (rI a b).2.2==(rJ a c).2.2then true else false else false else false
def BO:Int:=qqq .i64 (a + (1:Int))
end
def ae5:lB→List (Nat×SV)
 |(a,_,_)=> [(5,(aAm a)),(0,(aAl (.ref 0))),(1,(aAl (.ref 1)))]
def aeZ:lB→List (Nat×Entry)
 |(_,a,b)=> [(0,(aAz a)),(1,(aAz b))]
def afh:Nat→lB→List (Nat×SV)
 |0,(_,_,_)=> [(4,(aAl (.val (.bool false))))]
 |_,_=>[]
def Am:lB→LT lB
 |(a,b,c)=> .ite (xJ a b) (.need [xK a,xJ a b,BK a b,xK a,BL a c,BM a c] (.ite (BN a b c) (.ext 0 [(0,0),(1,1)]) (.nrm ((BO a),b,c) [(0,0),(1,1)]))) (.ext 1 [(0,0),(1,1)])
def Ng(s:St):Option lB:=do
 let some ⟨none,.one ⟨false,[.val (.int .i64 a)]⟩⟩:=s.look 5|none
 let some ⟨none,.one ⟨false,[.ref 0]⟩⟩:=s.look 0|none
 let some ⟨none,.one ⟨false,[.ref 1]⟩⟩:=s.look 1|none
 let some (.row false 84 (.pair (.int .i64) (.pair (.int .i64) (.int .i64))) b):=s.ent 0|none
 let some (.row false 84 (.pair (.int .i64) (.pair (.int .i64) (.int .i64))) c):=s.ent 1|none
 some (a,b,c)
def eK:Lp lB where
 h:=⟨[11,12,13,14,17,18,19,20,21,22,23,24,25,4,15,16,5],[0,1],[],[]⟩
 JL:=ae5
 JE:=aeZ
 XL:=afh
 XE:=fun _=>aeZ
 q:=fun j=>match j with | 0=> .ret | _=> .exit 0
 tags:= [0,1]
 lt:=Am
 fuel:=fun(a,b,c)=>a.natAbs + b.length + c.length
 fix:=fun(_,b,c) (a,_,_)=>(a,b,c)
 σ:= [(0,0),(1,1)]
 rd:=Ng
theorem adO:LoopOk prog (fun k=>Nat.blt k Tryz.f28.ntmps) eK.F (bc f28 0):=by
 refine Lp.ok (tbl:= []) (lf:= []) aU eK (by kernel_rfl) (LOk.nil _) (fun _=>rfl) (fun j _=>by unfold eK;match j with | 0=>rfl | _ + 1=>rfl) ?_ ?_ ?_ ?_ (fun _=>rfl) ?_
 ·intro _;kernel_rfl
 ·intro _;kernel_rfl
 ·intro s x h
  have h:Ng s=some x:=h
  unfold Ng at h
  repeat' split at h
  all_goals cases h
  constructor<;>repeat(first|refine ab ‹_› rfl ?_|refine aa rfl ‹_› rfl ?_|rfl)
 ·intro _;kernel_rfl
 ·intro _ _;exact(And.intro (And.intro trivial rfl) trivial)
section
variable (a b:at0)
def JV:Bool:=(↑a.length:Int)!=(↑b.length:Int)
def JW:Int×at0×at0:=((0:Int),a,b)
def Gm:Bool:=bif JV a b then false else bif Nat.beq ((Lp.res eK (JW a b)).1) 0 then false else true
def Gn:Bool:=allT [JV a b||Lp.fin eK (JW a b)]
end
def aaA:aAj
 | [.one ⟨false,[.ref 0]⟩,.one ⟨false,[.ref 1]⟩],[.row false 84 (.pair (.int .i64) (.pair (.int .i64) (.int .i64))) a,.row false 84 (.pair (.int .i64) (.pair (.int .i64) (.int .i64))) b]=>some ⟨aAl (.val (.bool (Gm a b))),[aAz a,aAz b],[],[Gn a b]⟩
 |_,_=>none
def Ul:PF prog:=PF.ofG prog [] [eK.F] aU 28 f28 func28 (LOk.fnT (l:= [bc f28 0]) (by kernel_rfl) (.cons adO (.nil _))) aaA (by
 intro _ _ _ h;unfold aaA at h;split at h<;>cases h;kernel_rfl)
def QV(a:avu)(b:at0)(c:avu)(d:at0):Bool:=bif eqL a c then Gm b d else false
def QW(a:avu)(b:at0)(c:avu)(d:at0):Bool:=allT [leN a.length (9223372036854775807:Nat),!(eqL a c&&true)||Gn b d]
def Yt:aAj
 | [.one ⟨true,[.ref 0,.ref 1]⟩,.one ⟨true,[.ref 2,.ref 3]⟩],[.row false 2 (.int .i64) a,.row false 84 (.pair (.int .i64) (.pair (.int .i64) (.int .i64))) b,.row false 2 (.int .i64) c,.row false 84 (.pair (.int .i64) (.pair (.int .i64) (.int .i64))) d]=>some ⟨aAl (.val (.bool (QV a b c d))),[aAq a,aAz b,aAq c,aAz d],[],[QW a b c d]⟩
 |_,_=>none
def air:PF prog:=PF.ofG prog (T3z [HM,Ul]) [] aU 12 f12 func12 (fun c _=>LOk.nil c) Yt (by
 intro _ _ _ h;unfold Yt at h;split at h<;>cases h;kernel_rfl)
def xI(a c:as9)(b:Nat):(Unit)→Nat ⊕ (Unit)
 |_=>(bif(!bif (v9 a[b]? ((0:Int),(0:Int),(0:Int))).1==(v9 c[b]? ((0:Int),(0:Int),(0:Int))).1then bif ((v9 a[b]? ((0:Int),(0:Int),(0:Int))).2).1==((v9 c[b]? ((0:Int),(0:Int),(0:Int))).2).1then bif (v9 a[b]? ((0:Int),(0:Int),(0:Int))).2.2==(v9 c[b]? ((0:Int),(0:Int),(0:Int))).2.2then true else false else false else false)then(.inl 0)else(.inr ()))
def rW(a b:as9)(i:Nat):(Unit)→lB
 |_=>((i:Int),a,b)
def Nc:lB→Unit
 |(_,_,_)=>()
theorem ag3(c d:as9) (hn:c.length≤9223372036854775807) (he:d.length=c.length):
  eK.fin ((0:Int),c,d)=true∧eK.res ((0:Int),c,d)=((bz (xI c d) 1 (List.range c.length) 0 ()).1,(rW c d) (bz (xI c d) 1 (List.range c.length) 0 ()).2.1 (bz (xI c d) 1 (List.range c.length) 0 ()).2.2):=by
 have oe:=eK.along (rW c d) Nc (xI c d) 1 (fun _ _=>True) (List.range c.length) () (by trivial) (by simp only [eK,rW,List.length_range];omega) (fun i b a hb hI=> ?_) (fun a hI=> ?_)
 ·exact oe
 ·obtain⟨⟩:=a
  obtain⟨rfl,hlt⟩:=UZ hb
  have hw:IntKind.i64.wrap ((b:Int) + 1)=((b + 1:Nat):Int):=by rw [wrap_i64 (by omega) (by omega)];omega
  have gr:ltI (b:Int) (c.length:Int)=true:=dL (by omega)
  have LW:leI (0:Int) (b:Int)=true:=bx (by omega)
  have sd:ltN b c.length=true:=er (by omega)
  refine⟨?_,?_,?_,?_⟩
  ·simp [rI,rJ,xJ,xK,BK,BL,BM,BN,BO,Am,eK,LT.nds,allT,rW,gr,LW,sd,he]
  ·simp [rI,rJ,xJ,xK,BK,BL,BM,BN,BO,Am,eK,LT.each,rW,Nc,hw,he]
  ·simp only [rI,rJ,xJ,xK,BK,BL,BM,BN,BO,Am,eK,LT.fn,rW,Nc,xI,q9,gr,cond_true]
  ·exact fun _ _=>trivial
 ·obtain⟨⟩:=a
  simp [rI,rJ,xJ,xK,BK,BL,BM,BN,BO,Am,eK,LT.out,rW,List.length_range]
theorem aqL(xs ys:List BS3)(hn:leN xs.length 9223372036854775807=true):Gm xs ys=awZ xs ys∧Gn xs ys=true:=by
 have hn:=eN.1 hn
 unfold awZ
 have h3: ∀ a b:BS3,(!bif a.1==b.1 then bif a.2.1==b.2.1 then bif a.2.2==b.2.2 then true else false else false else false)= !decide (a=b):=fun a b=>by
  obtain⟨a1,a2,a3⟩:=a;obtain⟨b1,b2,b3⟩:=b
  simp only [Prod.mk.injEq]
  by_cases h1:a1=b1 <;> by_cases h2:a2=b2 <;> by_cases h3:a3=b3 <;> simp [h1,h2,h3]
 by_cases hl:ys.length=xs.length
 ·obtain⟨w1,w2⟩:=ag3 xs ys hn hl
  have ha:=awE (d:=((0:Int),(0:Int),(0:Int))) hl (P:=fun b=> !decide (v9 xs[b]? ((0:Int),(0:Int),(0:Int))=v9 ys[b]? ((0:Int),(0:Int),(0:Int)))) (fun b=>rfl)
  rw [lA (P:=fun b=> !decide (v9 xs[b]? ((0:Int),(0:Int),(0:Int))=v9 ys[b]? ((0:Int),(0:Int),(0:Int)))) (j:=0) (fun b=>by simp only [xI,h3]),ha]at w2
  simp only [JV,JW,Gm,Gn,w1,w2,allT]
  by_cases he:xs=ys
  ·subst he;simp;decide
  ·simp [he,hl]
 ·have hne:xs≠ys:=fun h=>hl (by rw [h])
  simp [JV,JW,Gm,Gn,allT,hne]
  omega
def lkM(xs:avu)(ss:List BS3)(ys:avu)(us:List BS3):Bool:=eqL xs ys&&awZ ss us
theorem axn(xs:avu)(ss:List BS3):lkM xs ss xs ss=true:=by simp only [lkM,asZ,awa,Bool.and_self]
theorem auI(xs:avu)(ss:List BS3)(ys:avu)(us:List BS3)(h:(leN xs.length 9223372036854775807&&leN ss.length 9223372036854775807)=true):
  QV xs ss ys us=lkM xs ss ys us∧QW xs ss ys us=true:=by
 simp only [q8]at h
 obtain⟨a,b⟩:=aqL ss us h.2
 simp only [QV,QW,a,b,h.1,lkM,allT,k8,cond_true,and_true]
 cases eqL xs ys <;> rfl
def YB:aAj
 | [.one ⟨true,[.ref 0,.ref 1]⟩,.one ⟨true,[.ref 2,.ref 3]⟩],[.row false 2 (.int .i64) a,.row false 84 (.pair (.int .i64) (.pair (.int .i64) (.int .i64))) b,.row false 2 (.int .i64) c,.row false 84 (.pair (.int .i64) (.pair (.int .i64) (.int .i64))) d]=>some ⟨aAl (.val (.bool (lkM a b c d))),[aAq a,aAz b,aAq c,aAz d],[],[leN a.length 9223372036854775807&&leN b.length 9223372036854775807]⟩
 |_,_=>none
def Ra:PF prog:=PF.alt air YB (by
 intro args es o h cL;unfold YB at h;split at h
 ·rename_i a b c d
  cases h
  have cL:=kO cL
  have hh:=auI a b c d cL
  obtain⟨e0,en⟩:=hh
  exact qm rfl (jv en) (by simp only [e0] <;> rfl) rfl rfl
 ·cases h)
theorem Xn(c:avu)(h:aG 0 0 c=true):
  Uu c=true∧prD (bh c) (bj c) (bk c) (bm c) (bi c) (bn c)=true∧(cE c).length≤60∧(dI c).length≤2000∧(cF c).length≤60:=by
 have h1:=(avs c h).2
 obtain⟨_,s2,hp⟩:=adb 0 (frS c) c h1
 have i0:=(pe.1 (JY.1 hp).2.1).1
 obtain⟨_,s3,m2,m3⟩:=Vd _ _ _ _ _ _ _ _ c s2 hp
 have s3:aG (JZ c) (Ka c) c=true:=s3
 obtain⟨_,_,m8⟩:=Ll (bh c) (bi c) (JZ c) (Ka c) (bj c) (bk c) (bm c) (bn c) c s3 i0
 refine⟨?_,hp,m2,m3,m8⟩
 simp only [Uu,h,h1,s2,hp,s3,aY i0,allT,Bool.and_self,cond_true]
def aaJ:aAj
 | [.one ⟨false,[.ref 0]⟩],[.row false 5 (.int .u8) a]=>some ⟨.tup [⟨true,[.val (.string (bh a)),.ref 1,.ref 2,.ref 3,.val (.string (bi a)),.ref 4]⟩,⟨true,[.ref 5,.ref 6]⟩,⟨false,[.ref 7]⟩],[aAu a],[aAr (bj a),aAr (bk a),aAr (bm a),aAA (bn a),aAo (cE a),aAw (dI a),aAo (cF a)],[aG 0 0 a]⟩
 |_,_=>none
def abr:PF prog:=PF.ofG prog (T3z [nr,XS,ju]) [] aU 19 f19 func19 (fun c _=>LOk.nil c) aho (by
 intro _ _ _ h;unfold aho at h;split at h<;>cases h;kernel_rfl)
def ap2:PF prog:=PF.ofG prog (T3z [abr,VY]) [] aU 6 f6 func6 (fun c _=>LOk.nil c) aha (by
 intro _ _ _ h;unfold aha at h;split at h<;>cases h;kernel_rfl)
def abk:PF prog:=PF.alt ap2 ahE (by
 intro args es o h cL;unfold ahE at h;split at h
 ·rename_i a b c d e f g i j
  cases h
  have cL:=kO cL
  have hh:=au4 a c d e b f g i j cL
  obtain⟨e0,e1,e2,e3,en⟩:=hh
  exact qm rfl (jv en) (by simp only [e0] <;> rfl) rfl (by simp only [e1,e2,e3] <;> rfl)
 ·cases h)
def akZ:PF prog:=PF.ofG prog (T3z [abl,abm,Rf,Re]) [] aU 5 f5 func5 (fun c _=>LOk.nil c) aaB (by
 intro _ _ _ h;unfold aaB at h;split at h<;>cases h;kernel_rfl)
def Ui:PF prog:=PF.alt akZ aaJ (by
 intro args es o h cL;unfold aaJ at h;split at h
 ·rename_i a
  cases h
  have cL:=kO cL
  have hh:=(Xn a cL).1
  have en:=hh
  exact qm rfl (jv en) rfl rfl rfl
 ·cases h)
section
variable (a:aAi)(b c:Int)(d e:List aAi)
def RM:Int:=bif leI 0 (oP d a)then b else c
def RN:Int:=bif leI 0 (oP d a)then oP d a else oP e a
def He:Bool:=allT [leN d.length (9223372036854775807:Nat),leI 0 (oP d a)||leN e.length (9223372036854775807:Nat)]
end
def ahr:aAj
 | [.one ⟨true,[.val (.string _x0),.ref 0,.ref 1,.ref 2,.val (.string _x1),.ref 3]⟩,.one ⟨false,[.val (.string a)]⟩,.one ⟨false,[.val (.int .i64 b)]⟩,.one ⟨false,[.val (.int .i64 c)]⟩],[.row false 9 (.str) d,.row false 9 (.str) e,.row false 9 (.str) f,.row false 91 (.pair (.str) (.sl 66 (.pair (.int .i64) (.pair (.str) (.int .i64))))) g]=>some ⟨.one ⟨true,[aAk (RM a b c d),aAk (RN a d e)]⟩,[aAn d,aAn e,aAn f,aAt g],[],[He a d e]⟩
 |_,_=>none
def At:PF prog:=PF.ofG prog (T3z [aX]) [] aU 57 f57 func57 (fun c _=>LOk.nil c) ahr (by
 intro _ _ _ h;unfold ahr at h;split at h<;>cases h;kernel_rfl)
abbrev jh:=Int×Int×Int×aAi×aAi×List (Int×Int)×List aAi×List aAi×List aAi×List (aAi×(List (Int×(aAi×Int))))
section
variable (a b c:Int)(d:auv)(e f:List aAi)(g:aiJ)
def ae:aoQ:=(v9 g[v7 b]? (vB aaP)).2
def bZ:Int×aAi×Int:=v9 (ae b g)[v7 a]? ((0:Int),ByteArray.empty,(0:Int))
def eX:Bool:=(bZ a b g).1==1
def Dg:auv:= [(RM (((bZ a b g).2).1) 2 3 e,RN (((bZ a b g).2).1) e f)]
def ky:Bool:=(bZ a b g).1==2
def pQ:Bool:=(bZ a b g).1==3
def JB:Bool:=(bZ a b g).1==4
def JC:Bool:=(bZ a b g).1==5
def sN:Bool:=bif JB a b g then JB a b g else bif JC a b g then JC a b g else (bZ a b g).1==6
def yp:auv:= [(qqq .i64 (qqq .i64 ((bZ a b g).1 - (4:Int)) + (4:Int)),(0:Int))]
def wQ:auv:= [((7:Int),c)]
def uk:Bool:=leI 0 b
def ul:Bool:=ltI b (↑g.length:Int)
def um:Bool:=ltN b.toNat g.length
def uo:Bool:=ltI a (↑(v8 (ae b g)):Int)
def LM:Bool:=leI 0 a
def LO:Bool:=ltN a.toNat (v8 (ae b g))
def LP:Bool:= !eX a b g||He (((bZ a b g).2).1) e f
def LQ:Bool:= !eX a b g||leN (v8 d + v8 (Dg a b e f g)) 9223372036854775807
def LR:Bool:= !eX a b g||leN ((v8 d + v8 (Dg a b e f g)) * 16) 140737488355328
def LU:Bool:=eX a b g||(!ky a b g||leN (v8 d + v8 [((1:Int),(1:Int))]) 9223372036854775807)
def Jp:Bool:=eX a b g||(!ky a b g||leN ((v8 d + v8 [((1:Int),(1:Int))]) * 16) 140737488355328)
def Jq:Bool:=eX a b g||(ky a b g||(!pQ a b g||leN (v8 d + v8 [((1:Int),(0:Int))]) 9223372036854775807))
def Jr:Bool:=eX a b g||(ky a b g||(!pQ a b g||leN ((v8 d + v8 [((1:Int),(0:Int))]) * 16) 140737488355328))
def Js:Bool:=eX a b g||(ky a b g||(pQ a b g||(!sN a b g||leN (v8 d + v8 (yp a b g)) 9223372036854775807)))
def Jt:Bool:=eX a b g||(ky a b g||(pQ a b g||(!sN a b g||leN ((v8 d + v8 (yp a b g)) * 16) 140737488355328)))
def Ju:Bool:=eX a b g||(ky a b g||(pQ a b g||(sN a b g||leN (v8 d + v8 (wQ c)) 9223372036854775807)))
def Jv:Bool:=eX a b g||(ky a b g||(pQ a b g||(sN a b g||leN ((v8 d + v8 (wQ c)) * 16) 140737488355328)))
def Tt:Bool:=eX a b g
def eu:Int:=qqq .i64 (a + (1:Int))
def De:auv:=d++Dg a b e f g
def Tu:Bool:=ky a b g
def Jw:auv:=d++ [((1:Int),(1:Int))]
def Tv:Bool:=pQ a b g
def Jz:auv:=d++ [((1:Int),(0:Int))]
def JA:Bool:=sN a b g
def yo:auv:=d++yp a b g
def Tw:Int:=qqq .i64 (c + (1:Int))
def Df:auv:=d++wQ c
end
def adq:jh→List (Nat×SV)
 |(a,b,c,_,_,_,_,_,_,_)=> [(6,(aAm a)),(1,(aAl (.ptr 0 0))),(5,(aAm b)),(3,(aAl (.ref 1))),(4,(aAm c))]
def adm:jh→List (Nat×Entry)
 |(_,_,_,a,b,c,d,e,f,g)=> [(0,(.box 27 [.val (.string a),.ref 2,.ref 3,.ref 4,.val (.string b),.ref 5])),(2,(aAn d)),(3,(aAn e)),(4,(aAn f)),(5,(aAs g)),(1,(aAy c))]
def ady:Nat→jh→List (Nat×SV)
 |_,(a,_,b,_,_,_,_,_,_,_)=> [(3,(aAl (.ref 1))),(4,(aAm b)),(6,(aAm a))]
def adu:Nat→jh→List (Nat×Entry)
 |_,(_,_,_,a,b,c,d,e,f,g)=> [(0,(.box 27 [.val (.string a),.ref 2,.ref 3,.ref 4,.val (.string b),.ref 5])),(1,(aAy c)),(2,(aAn d)),(3,(aAn e)),(4,(aAn f)),(5,(aAs g))]
def pO:jh→LT jh
 |(a,b,c,d,e,f,g,i,j,k)=> .need [uk b,ul b k,um b k] (.ite (uo a b k) (.need [uk b,ul b k,um b k,LM a,uo a b k,LO a b k] (.need [LP a b g i k,LQ a b f g i k,LR a b f g i k,LU a b f k,Jp a b f k,Jq a b f k,Jr a b f k,Js a b f k,Jt a b f k,Ju a b c f k,Jv a b c f k] (.ite (Tt a b k) (.nrm ((eu a),b,c,d,e,De a b f g i k,g,i,j,k) [(0,0),(1,1984),(2,2),(3,3),(4,4),(5,5)]) (.ite (Tu a b k) (.nrm ((eu a),b,c,d,e,Jw f,g,i,j,k) [(0,0),(1,1920),(2,2),(3,3),(4,4),(5,5)]) (.ite (Tv a b k) (.nrm ((eu a),b,c,d,e,Jz f,g,i,j,k) [(0,0),(1,2048),(2,2),(3,3),(4,4),(5,5)]) (.ite (JA a b k) (.nrm ((eu a),b,c,d,e,yo a b f k,g,i,j,k) [(0,0),(1,2688),(2,2),(3,3),(4,4),(5,5)]) (.nrm ((eu a),b,Tw c,d,e,Df c f,g,i,j,k) [(0,0),(1,2496),(2,2),(3,3),(4,4),(5,5)]))))))) (.ext 0 [(0,0),(1,1),(2,2),(3,3),(4,4),(5,5)]))
def Jh(s:St):Option jh:=do
 let some ⟨none,.one ⟨false,[.val (.int .i64 a)]⟩⟩:=s.look 6|none
 let some ⟨none,.one ⟨false,[.ptr 0 0]⟩⟩:=s.look 1|none
 let some ⟨none,.one ⟨false,[.val (.int .i64 b)]⟩⟩:=s.look 5|none
 let some ⟨none,.one ⟨false,[.ref 1]⟩⟩:=s.look 3|none
 let some ⟨none,.one ⟨false,[.val (.int .i64 c)]⟩⟩:=s.look 4|none
 let some (.box 27 [.val (.string d),.ref 2,.ref 3,.ref 4,.val (.string e),.ref 5]):=s.ent 0|none
 let some (.row false 9 (.str) g):=s.ent 2|none
 let some (.row false 9 (.str) i):=s.ent 3|none
 let some (.row false 9 (.str) j):=s.ent 4|none
 let some (.row false 91 (.pair .str (.sl 66 (.pair (.int .i64) (.pair .str (.int .i64))))) k):=s.ent 5|none
 let some (.row true 60 (.pair (.int .i64) (.int .i64)) f):=s.ent 1|none
 some (a,b,c,d,e,f,g,i,j,k)
def cq:Lp jh where
 h:=⟨[17,18,19,20,21,22,23,24,25,28,29,30,31,32,33,34,35,36,7,37,38,47,46,48,49,50,51,52,53,54,3,56,55,57,58,59,60,62,61,63,64,65,66,68,67,69,70,71,72,73,74,75,76,77,78,39,40,41,42,43,44,45,4,26,27,6],[0,2,3,4,5],[1],[]⟩
 JL:=adq
 JE:=adm
 XL:=ady
 XE:=adu
 q:=fun j=>match j with | _=> .exit 2
 tags:= [0]
 lt:=pO
 fuel:=fun(a,b,c,d,e,f,g,i,k,l)=>a.natAbs + b.natAbs + c.natAbs + d.size + e.size + f.length + g.length + i.length + k.length + l.length
 fix:=fun(_,b,_,d,e,_,g,i,k,l) (a,_,c,_,_,f,_,_,_,_)=>(a,b,c,d,e,f,g,i,k,l)
 σ:= [(0,0),(2,2),(3,3),(4,4),(5,5),(1,1)]
 rd:=Jh
theorem abe:LoopOk prog (memN [10,11,12,13,14,6,17,18,19,20,21,22,23,24,25,28,29,30,31,32,33,34,35,36,7,37,38,47,46,48,49,50,51,52,53,54,3,56,55,57,58,59,60,62,61,63,64,65,66,68,67,69,70,71,72,73,74,75,76,77,78,39,40,41,42,43,44,45,4,26,27,79,80,81,82,83,84,85,86,87,8,88,89,90,91,92,93,94,95,96,97,98,99,100,101,102,103,104,105,106,107,15,16,5]) cq.F (ZA (bc f24 0) 0):=by
 refine Lp.ok (tbl:= (T3z [aX,fX,At])) (lf:= []) aU cq (by kernel_rfl) (LOk.nil _) (fun _=>rfl) (fun _ _=>rfl) ?_ ?_ ?_ ?_ (fun _=>rfl) ?_
 ·intro _;kernel_rfl
 ·intro _;kernel_rfl
 ·intro s x h
  have h:Jh s=some x:=h
  unfold Jh at h
  repeat' split at h
  all_goals cases h
  constructor<;>repeat(first|refine ab ‹_› rfl ?_|refine aa rfl ‹_› rfl ?_|rfl)
 ·intro _;kernel_rfl
 ·intro _ _;exact(And.intro (And.intro rfl (And.intro rfl (And.intro rfl (And.intro rfl rfl)))) trivial)
abbrev mr:=Int×Int×aAi×aAi×List (Int×Int)×List aAi×List aAi×List aAi×List (aAi×(List (Int×(aAi×Int))))
section
variable (a b:Int)(c d:aAi)(e:auv)(f g i:List aAi)(j:aiJ)
def XB:Bool:=ltI a (↑j.length:Int)
def xX:Int×Int×Int×aAi×aAi×auv×List aAi×List aAi×List aAi×aiK:=((0:Int),a,b,c,d,e,f,g,i,j)
def XC:Bool:=ltN a.toNat j.length
def cn:aAi:=(v9 j[v7 a]? (vB aaP)).1
def Cl:Int×aAi×aAi×auv×List aAi×List aAi×List aAi×aiK:=(Lp.res cq (xX a b c d e f g i j)).2.2.2
def lG:auv:=((Cl a b c d e f g i j).2.2.2).1
def Cm:auv:= [((8:Int),oP g (cn a j))]
def Cn:auv:= [((9:Int),oP i (cn a j))]
def zH:Bool:=XB a j
def RD:Bool:=Lp.fin cq (xX a b c d e f g i j)
def RE:Bool:=leI 0 a
def RF:Bool:=XC a j
def RG:Bool:=leN g.length (9223372036854775807:Nat)
def RH:Bool:= !leI 0 (oP g (cn a j))||leN (v8 (lG a b c d e f g i j) + v8 (Cm a g j)) 9223372036854775807
def RI:Bool:= !leI 0 (oP g (cn a j))||leN ((v8 (lG a b c d e f g i j) + v8 (Cm a g j)) * 16) 140737488355328
def RJ:Bool:=leI 0 (oP g (cn a j))||leI 0 a
def RK:Bool:=leI 0 (oP g (cn a j))||XB a j
def RL:Bool:=leI 0 (oP g (cn a j))||XC a j
def PN:Bool:=leI 0 (oP g (cn a j))||leN i.length (9223372036854775807:Nat)
def PO:Bool:=leI 0 (oP g (cn a j))||leN (v8 (lG a b c d e f g i j) + v8 (Cn a i j)) 9223372036854775807
def PP:Bool:=leI 0 (oP g (cn a j))||leN ((v8 (lG a b c d e f g i j) + v8 (Cn a i j)) * 16) 140737488355328
def XA:Bool:=leI 0 (oP g (cn a j))
def lF:Int:=qqq .i64 (a + (1:Int))
def tD:Int:=(Cl a b c d e f g i j).1
def Cj:auv:=lG a b c d e f g i j++Cm a g j
def Ck:auv:=lG a b c d e f g i j++Cn a i j
end
def agC:mr→List (Nat×SV)
 |(a,b,_,_,_,_,_,_,_)=> [(5,(aAm a)),(1,(aAl (.ptr 0 0))),(3,(aAl (.ref 1))),(4,(aAm b))]
def agu:mr→List (Nat×Entry)
 |(_,_,a,b,c,d,e,f,g)=> [(0,(.box 27 [.val (.string a),.ref 2,.ref 3,.ref 4,.val (.string b),.ref 5])),(2,(aAn d)),(3,(aAn e)),(4,(aAn f)),(5,(aAs g)),(1,(aAy c))]
def agS:Nat→mr→List (Nat×SV)
 |_,(_,_,_,_,_,_,_,_,_)=> [(3,(aAl (.ref 1)))]
def agK:Nat→mr→List (Nat×Entry)
 |_,(_,_,a,b,c,d,e,f,g)=> [(0,(.box 27 [.val (.string a),.ref 2,.ref 3,.ref 4,.val (.string b),.ref 5])),(1,(aAy c)),(2,(aAn d)),(3,(aAn e)),(4,(aAn f)),(5,(aAs g))]
def ti:mr→LT mr
 |(a,b,c,d,e,f,g,i,j)=> .ite (zH a j) (.need [RD a b c d e f g i j] (.need [RE a,zH a j,RF a j,RG g] (.need [RH a b c d e f g i j,RI a b c d e f g i j,RJ a g j,RK a g j,RL a g j,PN a g i j,PO a b c d e f g i j,PP a b c d e f g i j] (.ite (XA a g j) (.nrm ((lF a),tD a b c d e f g i j,c,d,Cj a b c d e f g i j,f,g,i,j) [(0,0),(1,1536),(2,2),(3,3),(4,4),(5,5)]) (.nrm ((lF a),tD a b c d e f g i j,c,d,Ck a b c d e f g i j,f,g,i,j) [(0,0),(1,2048),(2,2),(3,3),(4,4),(5,5)]))))) (.ext 0 [(0,0),(1,1),(2,2),(3,3),(4,4),(5,5)])
def Ph(s:St):Option mr:=do
 let some ⟨none,.one ⟨false,[.val (.int .i64 a)]⟩⟩:=s.look 5|none
 let some ⟨none,.one ⟨false,[.ptr 320 0]⟩⟩:=s.look 1|none
 let some ⟨none,.one ⟨false,[.ref 448]⟩⟩:=s.look 3|none
 let some ⟨none,.one ⟨false,[.val (.int .i64 b)]⟩⟩:=s.look 4|none
 let some (.box 27 [.val (.string c),.ref 0,.ref 1,.ref 2,.val (.string d),.ref 3]):=s.ent 320|none
 let some (.row false 9 (.str) f):=s.ent 0|none
 let some (.row false 9 (.str) g):=s.ent 1|none
 let some (.row false 9 (.str) i):=s.ent 2|none
 let some (.row false 91 (.pair .str (.sl 66 (.pair (.int .i64) (.pair .str (.int .i64))))) j):=s.ent 3|none
 let some (.row true 60 (.pair (.int .i64) (.int .i64)) e):=s.ent 448|none
 some (a,b,c,d,e,f,g,i,j)
def dx:Lp mr where
 h:=⟨[10,11,12,13,14,6,17,18,19,20,21,22,23,24,25,28,29,30,31,32,33,34,35,36,7,37,38,47,46,48,49,50,51,52,53,54,3,56,55,57,58,59,60,62,61,63,64,65,66,68,67,69,70,71,72,73,74,75,76,77,78,39,40,41,42,43,44,45,4,26,27,79,80,81,82,83,84,85,86,87,8,88,89,90,91,92,93,94,95,96,97,98,99,100,101,102,103,104,105,106,107,15,16,5],[0,2,3,4,5],[1],[]⟩
 JL:=agC
 JE:=agu
 XL:=agS
 XE:=agK
 q:=fun j=>match j with | _=> .exit 0
 tags:= [0]
 lt:=ti
 fuel:=fun(a,b,c,d,e,f,g,i,k)=>a.natAbs + b.natAbs + c.size + d.size + e.length + f.length + g.length + i.length + k.length
 fix:=fun(_,_,c,d,_,f,g,i,k) (a,b,_,_,e,_,_,_,_)=>(a,b,c,d,e,f,g,i,k)
 σ:= [(0,320),(2,0),(3,1),(4,2),(5,3),(1,448)]
 rd:=Ph
theorem aeF:LoopOk prog (fun k=>Nat.blt k Tryz.f24.ntmps) dx.F (bc f24 0):=by
 refine Lp.ok (tbl:= (T3z [aX,fX,At])) (lf:= [cq.F]) aU dx (by kernel_rfl) (LOk.allT (l:= [ZA (bc f24 0) 0]) (by kernel_rfl) (.cons abe (.nil _))) (fun _=>rfl) (fun _ _=>rfl) ?_ ?_ ?_ ?_ (fun _=>rfl) ?_
 ·intro _;kernel_rfl
 ·intro _;kernel_rfl
 ·intro s x h
  have h:Ph s=some x:=h
  unfold Ph at h
  repeat' split at h
  all_goals cases h
  constructor<;>repeat(first|refine ab ‹_› rfl ?_|refine aa rfl ‹_› rfl ?_|rfl)
 ·intro _;kernel_rfl
 ·intro _ _;exact(And.intro (And.intro rfl rfl) trivial)
section
variable (a b:aAi)(c d e:List aAi)(f:aiK)
def jO:Bool:= !ByteArray.toList b==ByteArray.toList (ByteArray.mk #[])
def CS:Int×Int×aAi×aAi×auv×List aAi×List aAi×List aAi×aiK:=((0:Int),(0:Int),a,b,[],c,d,e,f)
def vq:auv:=((Lp.res dx (CS a b c d e f)).2.2.2.2.2).1
def Hd:auv:= [(RM b 10 11 c,RN b c d)]
def tU:Int:=bif jO b then(↑c.length:Int)else(↑c.length:Int)
def AR:Int:=bif jO b then(↑d.length:Int)else(↑d.length:Int)
def AU:Int:=bif jO b then(↑e.length:Int)else(↑e.length:Int)
def AV:aor:=bif jO b then blL f else blL f
def nj:auv:=bif jO b then vq a b c d e f++Hd b c d else vq a b c d e f
def WV:Bool:=allT [Lp.fin dx (CS a b c d e f),!jO b||He b c d,!jO b||leN (v8 (vq a b c d e f) + v8 (Hd b c d)) 9223372036854775807,!jO b||leN ((v8 (vq a b c d e f) + v8 (Hd b c d)) * 16) 140737488355328,!jO b||ZY f,jO b||ZY f]
end
def acw:aAj
 | [.one ⟨true,[.val (.string a),.ref 0,.ref 1,.ref 2,.val (.string b),.ref 3]⟩],[.row false 9 (.str) c,.row false 9 (.str) d,.row false 9 (.str) e,.row false 91 (.pair (.str) (.sl 66 (.pair (.int .i64) (.pair (.str) (.int .i64))))) f]=>some ⟨.one ⟨true,[aAk (tU b c),aAk (AR b d),aAk (AU b e),.ref 4,.ref 5]⟩,[aAn c,aAn d,aAn e,aAt f],[aAv (AV b f),aAy (nj a b c d e f)],[WV a b c d e f]⟩
 |_,_=>none
def amE:PF prog:=PF.ofG prog (T3z [aX,fX,At]) [dx.F] aU 24 f24 func24 (LOk.fnT (l:= [bc f24 0]) (by kernel_rfl) (.cons aeF (.nil _))) acw (by
 intro _ _ _ h;unfold acw at h;split at h<;>cases h;kernel_rfl)
theorem ab9(M m:Nat)(x:jh)(hx:match x with | (a,b,c,d,e,f,g,i,l,n)=>((ae b n).length:Int)≤a + (100:Nat)∧0≤a∧f.length + (100:Nat)≤M∧M≤20000∧(m≤f.length∧(0≤b∧b < (n.length:Int))∧RZ 100 n=true∧g.length≤50∧i.length≤50)):
  cq.fin x=true∧ ∃ j y,cq.res x=(j,y)∧(match y with | (a,b,c,d,e,f,g,i,l,n)=>f.length≤M∧m≤f.length):=by
 refine cq.inv2 (fun k x=>match x with | (a,b,c,d,e,f,g,i,l,n)=>((ae b n).length:Int)≤a + k∧0≤a∧f.length + k≤M∧M≤20000∧(m≤f.length∧(0≤b∧b < (n.length:Int))∧RZ 100 n=true∧g.length≤50∧i.length≤50)) (fun y=>match y with | (a,b,c,d,e,f,g,i,l,n)=>f.length≤M∧m≤f.length) (fun k x hx=> ?_) (fun x hx=> ?_) 100 x (by omega) hx
 ·obtain⟨a,b,c,d,e,f,g,i,l,n⟩:=x
  obtain⟨h0,h1,h2,h3,hm,⟨h4,h5⟩,h6,h7,h8⟩:=hx
  have p0:uk b=true:=bx h4
  have p1:ul b n=true:=dL h5
  have p2:um b n=true:=er (by omega)
  cases ht:uo a b n with
  |false=>
   simp only [cq,pO,LT.ok,FR,FS,p0,p1,p2,ht,Bool.false_eq_true,false_implies,true_implies,true_and,and_true]
   omega
  |true=>
   have hlt:a < ((ae b n).length:Int):=Sa.1 ht
   have hA:(ae b n).length≤100:=by
    have:=(zd.1 h6).2 (v9 n[b.toNat]? (vB (.pair .str (.sl 66 (.pair (.int .i64) (.pair .str (.int .i64))))))) (by
     rw [List.getElem?_eq_getElem (show b.toNat < n.length by omega)];exact List.getElem_mem _)
    exact(Co.1 this.2).1
   have p4:LM a=true:=bx h1
   have p5:LO a b n=true:=er (by omega)
   have p6:LP a b g i n=true:=by
    refine tI ?_
    simp only [He,aY (show g.length≤9223372036854775807 by omega),aY (show i.length≤9223372036854775807 by omega),allT,k8,cond_true]
   have b1:leN (f.length + 1) 9223372036854775807=true:=aY (by omega)
   have b2:leN ((f.length + 1) * 16) 140737488355328=true:=aY (by omega)
   have p7:LQ a b f g i n=true:=tI b1
   have p8:LR a b f g i n=true:=tI b2
   have p9:LU a b f n=true:=tI (tI b1)
   have p10:Jp a b f n=true:=tI (tI b2)
   have p11:Jq a b f n=true:=tI (tI (tI b1))
   have p12:Jr a b f n=true:=tI (tI (tI b2))
   have p13:Js a b f n=true:=tI (tI (tI (tI b1)))
   have p14:Jt a b f n=true:=tI (tI (tI (tI b2)))
   have p15:Ju a b c f n=true:=tI (tI (tI (tI b1)))
   have p16:Jv a b c f n=true:=tI (tI (tI (tI b2)))
   have w:eu a=a + 1:=wrap_i64 (by omega) (by omega)
   have l19:(De a b f g i n).length=f.length + 1:=by simp only [De,Dg,j6,w5]
   have l21:(Jw f).length=f.length + 1:=by simp only [Jw,j6,w5]
   have l23:(Jz f).length=f.length + 1:=by simp only [Jz,j6,w5]
   have l25:(yo a b f n).length=f.length + 1:=by simp only [yo,yp,j6,w5]
   have l27:(Df c f).length=f.length + 1:=by simp only [Df,wQ,j6,w5]
   have nx: ∀ {q:List IN},q.length=f.length + 1→((ae b n).length:Int)≤(eu a) + (k:Int)∧0≤eu a∧q.length + k≤M∧M≤20000∧(m≤q.length∧(0≤b∧b < (n.length:Int))∧RZ 100 n=true∧g.length≤50∧i.length≤50):=fun hq=>⟨by omega,by omega,by omega,h3,by omega,⟨h4,h5⟩,h6,h7,h8⟩
   simp only [cq,pO,LT.ok,FR,FS,and_true,true_and,ht,p0,p1,p2,p4,p5,p6,p7,p8,p9,p10,p11,p12,p13,p14,p15,p16,Bool.false_eq_true,reduceCtorEq,false_implies,true_implies]
   exact⟨fun _=>nx l19,fun _=>⟨fun _=>nx l21,fun _=>⟨fun _=>nx l23,fun _=>⟨fun _=>nx l25,fun _=>nx l27⟩⟩⟩⟩
 ·obtain⟨a,b,c,d,e,f,g,i,l,n⟩:=x
  obtain⟨h0,h1,h2,h3,hm,⟨h4,h5⟩,h6,h7,h8⟩:=hx
  have p0:uk b=true:=bx h4
  have p1:ul b n=true:=dL h5
  have p2:um b n=true:=er (by omega)
  have ht:uo a b n=false:=Ej (by omega)
  simp only [cq,pO,LT.ok,FR,FS,p0,p1,p2,ht,Bool.false_eq_true,false_implies,true_implies,true_and,and_true]
  omega
theorem aeU(c:Nat)(x:mr)(hx:match x with | (a,b,d,e,f,g,i,l,m)=>(m.length:Int)≤a + (100:Nat)∧0≤a∧f.length + 101 * (100:Nat)≤10100∧(a≤(f.length:Int)∧m.length=c)∧RZ 100 m=true∧g.length≤50∧i.length≤50∧l.length≤50):
  dx.fin x=true∧ ∃ j y,dx.res x=(j,y)∧(match y with | (a,b,d,e,f,g,i,l,m)=>f.length≤10100∧c≤f.length):=by
 refine dx.inv2 (fun k x=>match x with | (a,b,d,e,f,g,i,l,m)=>(m.length:Int)≤a + k∧0≤a∧f.length + 101 * k≤10100∧(a≤(f.length:Int)∧m.length=c)∧RZ 100 m=true∧g.length≤50∧i.length≤50∧l.length≤50) (fun y=>match y with | (a,b,d,e,f,g,i,l,m)=>f.length≤10100∧c≤f.length) (fun k x hx=> ?_) (fun x hx=> ?_) 100 x (by omega) hx
 ·obtain⟨a,b,d,e,f,g,i,l,m⟩:=x
  obtain⟨h0,h1,h2,⟨hy,hc⟩,h3,h4,h5,h6⟩:=hx
  have l8:=(zd.1 h3).1
  cases ht:zH a m with
  |false=>
   have hge:=Yj.1 (show ltI a (m.length:Int)=false from ht)
   simp only [dx,ti,LT.ok,ht,Bool.false_eq_true,false_implies,true_implies,true_and,and_true]
   omega
  |true=>
   have hlt:a < (m.length:Int):=Sa.1 ht
   have hA:(ae a m).length≤100:=by
    have:=(zd.1 h3).2 (v9 m[a.toNat]? (vB (.pair .str (.sl 66 (.pair (.int .i64) (.pair .str (.int .i64))))))) (by
     rw [List.getElem?_eq_getElem (show a.toNat < m.length by omega)];exact List.getElem_mem _)
    exact(Co.1 this.2).1
   obtain⟨f0,j0,⟨z0,z1,z2,z3,z4,z5,z6,z7,z8,z9⟩,g0,q1,q2⟩:=ab9 (f.length + 100) f.length (xX a b d e f g i l m) (by
    simp only [xX]
    exact⟨by omega,by omega,by omega,by omega,Nat.le_refl _,⟨h1,hlt⟩,h3,h4,h5⟩)
   have e5:lG a b d e f g i l m=z5:=by simp only [lG,Cl,g0]
   have p1:RD a b d e f g i l m=true:=f0
   have p2:RE a=true:=bx h1
   have p3:RF a m=true:=er (by omega)
   have p4:RG i=true:=aY (by omega)
   have b1:leN (z5.length + 1) 9223372036854775807=true:=aY (by omega)
   have b2:leN ((z5.length + 1) * 16) 140737488355328=true:=aY (by omega)
   have p5:RH a b d e f g i l m=true:=tI (by rw [e5];exact b1)
   have p6:RI a b d e f g i l m=true:=tI (by rw [e5];exact b2)
   have p7:RJ a i m=true:=tI (bx h1)
   have p8:RK a i m=true:=tI ht
   have p9:RL a i m=true:=tI (er (by omega))
   have p10:PN a i l m=true:=tI (aY (by omega))
   have p11:PO a b d e f g i l m=true:=tI (by rw [e5];exact b1)
   have p12:PP a b d e f g i l m=true:=tI (by rw [e5];exact b2)
   have w:lF a=a + 1:=wrap_i64 (by omega) (by omega)
   have l16:(Cj a b d e f g i l m).length=z5.length + 1:=by simp only [Cj,e5,Cm,j6,w5]
   have l17:(Ck a b d e f g i l m).length=z5.length + 1:=by simp only [Ck,e5,Cn,j6,w5]
   have nx: ∀ {q:List IN},q.length=z5.length + 1→(m.length:Int)≤(lF a) + (k:Int)∧0≤lF a∧q.length + 101 * k≤10100∧(lF a≤(q.length:Int)∧m.length=c)∧RZ 100 m=true∧g.length≤50∧i.length≤50∧l.length≤50:=fun hq=>⟨by omega,by omega,by omega,⟨by omega,hc⟩,h3,h4,h5,h6⟩
   simp only [dx,ti,LT.ok,FR,FS,and_true,true_and,ht,p1,p2,p3,p4,p5,p6,p7,p8,p9,p10,p11,p12,Bool.false_eq_true,reduceCtorEq,false_implies,true_implies]
   exact⟨fun _=>nx l16,fun _=>nx l17⟩
 ·obtain⟨a,b,d,e,f,g,i,l,m⟩:=x
  obtain⟨h0,h1,h2,⟨hy,hc⟩,h3,h4,h5,h6⟩:=hx
  have ht:zH a m=false:=Ej (by omega)
  simp only [dx,ti,LT.ok,ht,Bool.false_eq_true,false_implies,true_implies,true_and,and_true]
  omega
theorem av1{ls:List LN}(h:RZ 100 ls=true):(blL ls).length≤10000∧ ∀ t∈blL ls,t.2.1.size≤1000:=by
 obtain⟨h1,h2⟩:=zd.1 h
 refine⟨?_,fun t ht=> ?_⟩
 ·have oe: ∀ ls:List LN,(∀ l∈ls,l.2.length≤100)→(blL ls).length≤100 * ls.length:=by
   intro ls
   induction ls with
   |nil=>intro _;simp [blL]
   |cons l r ih=>
    intro hh
    have a:=ih fun x hx=>hh x (by simp [hx])
    have b:=hh l (by simp)
    have c:(blT l.2).length≤l.2.length:=List.length_filter_le ..
    have d:blL (l::r)=blT l.2++blL r:=rfl
    rw [d,j6,j9]
    omega
  have:=oe ls fun l hl=>(Co.1 (h2 l hl).2).1
  omega
 ·simp only [blL,List.mem_flatMap]at ht
  obtain⟨l,hl,ht⟩:=ht
  exact(Co.1 (h2 l hl).2).2 t (List.mem_filter.1 ht).1
def cdD(i v o:Int)(bs:List TM)(st:List IN):Bool:=(leI (-1) i&&leI i 60)&&((leI 0 v&&leI v 60)&&((leI 0 o&&leI o 60)&&((leN bs.length 10000&&bs.all fun t=>leN t.2.1.size 1000)&&leN st.length 30000)))
theorem ax0{i v o:Int}{bs:List TM}{st:List IN}:cdD i v o bs st=true↔(-1≤i∧i≤60)∧(0≤v∧v≤60)∧(0≤o∧o≤60)∧(bs.length≤10000∧ ∀ t∈bs,t.2.1.size≤1000)∧st.length≤30000:=by
 simp only [cdD,q8,zJ,eN,List.all_eq_true]
theorem aiC(a b:aAi)(c d e:List aAi)(f:List LN)(hp:prD a c d e b f=true):
  WV a b c d e f=true∧cdD (tU b c) (AR b d) (AU b e) (AV b f) (nj a b c d e f)=true∧((nj a b c d e f).length≤10101∧f.length≤(nj a b c d e f).length)∧0≤tU b c:=by
 obtain⟨_,hi,hv,ho,_,hl⟩:=JY.1 hp
 have i0:=(pe.1 hi).1
 have v0:=(pe.1 hv).1
 have o0:=(pe.1 ho).1
 have l0:=(zd.1 hl).1
 obtain⟨f0,j0,⟨z0,z1,z2,z3,z4,z5,z6,z7,z8⟩,g0,q1,q2⟩:=aeU f.length (CS a b c d e f) (by
  simp only [CS]
  exact⟨by omega,by omega,by simp,⟨by simp,trivial⟩,hl,i0,v0,o0⟩)
 have e2:vq a b c d e f=z4:=by simp only [vq,g0]
 have hL:=(Wa.1 (asr hp)).2.2.2.2.2.2
 obtain⟨t1,t2⟩:=av1 hl
 have l3:(Hd b c d).length=1:=rfl
 have l4:(nj a b c d e f).length≤10101:=by
  simp only [nj,e2]
  exact Fh (by rw [j6,l3];omega) (by omega)
 have l5:f.length≤(nj a b c d e f).length:=by
  simp only [nj,e2]
  cases jO b
  ·exact q2
  ·rw [cond_true,j6,l3];omega
 refine⟨?_,ax0.2 ⟨?_,?_,?_,?_,by omega⟩,⟨l4,l5⟩,?_⟩
 ·have k2:He b c d=true:=by simp only [He,aY (show c.length≤9223372036854775807 by omega),aY (show d.length≤9223372036854775807 by omega),allT,k8,cond_true]
  have b1:leN (z4.length + 1) 9223372036854775807=true:=aY (by omega)
  have b2:leN ((z4.length + 1) * 16) 140737488355328=true:=aY (by omega)
  simp only [WV,f0,e2,l3,k2,b1,b2,hL,allT,k8,cond_true]
 ·simp only [tU,k9];omega
 ·simp only [AR,k9];omega
 ·simp only [AU,k9];omega
 ·simp only [AV,k9];exact⟨t1,t2⟩
 ·simp only [tU,k9];omega
def acy:aAj
 | [.one ⟨true,[.val (.string a),.ref 0,.ref 1,.ref 2,.val (.string b),.ref 3]⟩],[.row false 9 (.str) c,.row false 9 (.str) d,.row false 9 (.str) e,.row false 91 (.pair (.str) (.sl 66 (.pair (.int .i64) (.pair (.str) (.int .i64))))) f]=>some ⟨.one ⟨true,[aAk (tU b c),aAk (AR b d),aAk (AU b e),.ref 4,.ref 5]⟩,[aAn c,aAn d,aAn e,aAt f],[aAv (AV b f),aAy (nj a b c d e f)],[prD a c d e b f]⟩
 |_,_=>none
def VQ:PF prog:=PF.alt amE acy (by
 intro args es o h cL;unfold acy at h;split at h
 ·rename_i a b c d e f
  cases h
  have cL:=kO cL
  have hh:=(aiC a b c d e f cL).1
  have en:=hh
  exact qm rfl (jv en) rfl rfl rfl
 ·cases h)
 attribute [local irreducible] nxA nxS nxV pkA pkS pkV
end Go.SX
namespace Go.SX
open Go.Proofs Go.Proofs.Tryz
set_option maxRecDepth 100000
 attribute [local irreducible] nxA nxS nxV pkA pkS pkV
end Go.SX
namespace Go.SX
open Go.Proofs Go.Proofs.Tryz
set_option maxRecDepth 100000
 attribute [local irreducible] nxA nxS nxV pkA pkS pkV
end Go.SX
namespace Go.SX
open Go.Proofs Go.Proofs.Tryz
set_option maxRecDepth 100000
def Do(a:List aAi):Int:=(↑a.length:Int)
def Ys:aAj
 | [.one ⟨false,[.ref 0]⟩],[.row false 9 (.str) a]=>some ⟨aAm (Do a),[aAn a],[],[]⟩
 |_,_=>none
def Rg:PF prog:=PF.ofG prog [] [] aU 93 f93 func93 (fun c _=>LOk.nil c) Ys (by
 intro _ _ _ h;unfold Ys at h;split at h<;>cases h;kernel_rfl)
section
variable (a b c:List aAi)(d:aiK)
def Gb:Int:=Do a
def Gc:Int:=Do b
def Gd:Int:=Do c
def Ge:aor:=blL d
end
def aa9:auv:= []
def Uc(a:aiK):Bool:=allT [ZY a]
def aaz:aAj
 | [.one ⟨true,[.val (.string a),.ref 0,.ref 1,.ref 2,.val (.string b),.ref 3]⟩],[.row false 9 (.str) c,.row false 9 (.str) d,.row false 9 (.str) e,.row false 91 (.pair (.str) (.sl 66 (.pair (.int .i64) (.pair (.str) (.int .i64))))) f]=>some ⟨aAl (.ptr 4 0),[aAn c,aAn d,aAn e,aAt f],[.box 100 [.val (.string a),.ref 0,.ref 1,.ref 2,.val (.string b),.ref 3,aAk (Gb c),aAk (Gc d),aAk (Gd e),.ref 5,.ref 6,aAk 0],aAv (Ge f),aAy (aa9)],[Uc f]⟩
 |_,_=>none
def abn:PF prog:=PF.ofG prog (T3z [Rg,sj]) [] aU 52 f52 func52 (fun c _=>LOk.nil c) aaz (by
 intro _ _ _ h;unfold aaz at h;split at h<;>cases h;kernel_rfl)
section
variable (a b:Int)(c:auv)
def eo:auv:= [(a,b)]
def aV:auv:=c++eo a b
def br:Bool:=allT [leN (v8 c + v8 (eo a b)) 9223372036854775807,leN ((v8 c + v8 (eo a b)) * 16) 140737488355328]
end
def BB:aAj
 | [.one ⟨false,[.ptr 0 0]⟩,.one ⟨false,[.val (.int .i64 a)]⟩,.one ⟨false,[.val (.int .i64 b)]⟩],[.box 100 [.val (.string c),.ref 1,.ref 2,.ref 3,.val (.string d),.ref 4,.val (.int .i64 e),.val (.int .i64 f),.val (.int .i64 g),.ref 5,.ref 6,.val (.int .i64 i)],.row false 9 (.str) j,.row false 9 (.str) k,.row false 9 (.str) l,.row false 91 (.pair (.str) (.sl 66 (.pair (.int .i64) (.pair (.str) (.int .i64))))) m,.row true 66 (.pair (.int .i64) (.pair (.str) (.int .i64))) n,.row true 60 (.pair (.int .i64) (.int .i64)) o]=>some ⟨.tup [],[.box 100 [.val (.string c),.ref 1,.ref 2,.ref 3,.val (.string d),.ref 4,aAk e,aAk f,aAk g,.ref 5,.ref 7,aAk i],aAn j,aAn k,aAn l,aAt m,aAv n,.gone],[aAy (aV a b o)],[br a b o]⟩
 |_,_=>none
def nQ:PF prog:=PF.ofG prog [] [] aU 97 f97 func97 (fun c _=>LOk.nil c) BB (by
 intro _ _ _ h;unfold BB at h;split at h<;>cases h;kernel_rfl)
section
variable (a:aAi)(b c:Int)(d e:aAi)(f g i j:Int)(k l:List aAi)(m:aoQ)(n:auv)
def jj:aAi:=bif leI 0 (oP k a)then d else d
def jk:aAi:=bif leI 0 (oP k a)then e else e
def jl:Int:=bif leI 0 (oP k a)then f else f
def jm:Int:=bif leI 0 (oP k a)then g else g
def jn:Int:=bif leI 0 (oP k a)then i else i
def jo:Int:=bif leI 0 (oP k a)then j else j
def jp:aor:=bif leI 0 (oP k a)then m else m
def jq:auv:=bif leI 0 (oP k a)then aV b (oP k a) n else aV c (oP l a) n
def jr:Bool:=allT [leN k.length (9223372036854775807:Nat),!leI 0 (oP k a)||br b (oP k a) n,leI 0 (oP k a)||leN l.length (9223372036854775807:Nat),leI 0 (oP k a)||br c (oP l a) n]
end
def BD:aAj
 | [.one ⟨false,[.ptr 0 0]⟩,.one ⟨false,[.val (.string a)]⟩,.one ⟨false,[.val (.int .i64 b)]⟩,.one ⟨false,[.val (.int .i64 c)]⟩],[.box 100 [.val (.string d),.ref 1,.ref 2,.ref 3,.val (.string e),.ref 4,.val (.int .i64 f),.val (.int .i64 g),.val (.int .i64 i),.ref 5,.ref 6,.val (.int .i64 j)],.row false 9 (.str) k,.row false 9 (.str) l,.row false 9 (.str) m,.row false 91 (.pair (.str) (.sl 66 (.pair (.int .i64) (.pair (.str) (.int .i64))))) n,.row true 66 (.pair (.int .i64) (.pair (.str) (.int .i64))) o,.row true 60 (.pair (.int .i64) (.int .i64)) p]=>some ⟨.tup [],[.box 100 [.val (.string (jj a d k)),.ref 1,.ref 2,.ref 3,.val (.string (jk a e k)),.ref 4,aAk (jl a f k),aAk (jm a g k),aAk (jn a i k),.ref 5,.ref 7,aAk (jo a j k)],aAn k,aAn l,aAn m,aAt n,aAv (jp a k o),.gone],[aAy (jq a b c k l p)],[jr a b c k l p]⟩
 |_,_=>none
def BW:PF prog:=PF.ofG prog [nQ,Et] [] aU 54 f54 func54 (fun c _=>LOk.nil c) BD (by
 intro _ _ _ h;unfold BD at h;split at h<;>cases h;kernel_rfl)
section
variable (a:Int)(b c d:aAi)(e f g i:Int)(j k:List aAi)(l:aoQ)(m:auv)
def ax:Bool:=bif a==2 then a==2 else a==3
def nH:aAi:=bif a==1 then jj b c j else bif ax a then c else bif a==4 then c else bif a==5 then c else bif a==6 then c else c
def nI:aAi:=bif a==1 then jk b d j else bif ax a then d else bif a==4 then d else bif a==5 then d else bif a==6 then d else d
def nJ:Int:=bif a==1 then jl b e j else bif ax a then e else bif a==4 then e else bif a==5 then e else bif a==6 then e else e
def nK:Int:=bif a==1 then jm b f j else bif ax a then f else bif a==4 then f else bif a==5 then f else bif a==6 then f else f
def nL:Int:=bif a==1 then jn b g j else bif ax a then g else bif a==4 then g else bif a==5 then g else bif a==6 then g else g
def nM:Int:=bif a==1 then jo b i j else bif ax a then i else bif a==4 then i else bif a==5 then i else bif a==6 then i else qqq .i64 (i + (1:Int))
def nN:aor:=bif a==1 then jp b j l else bif ax a then l else bif a==4 then l else bif a==5 then l else bif a==6 then l else l
def nO:auv:=bif a==1 then jq b 2 3 j k m else bif ax a then aV 1 (nD (a==2)) m else bif a==4 then aV 4 0 m else bif a==5 then aV 5 0 m else bif a==6 then aV 6 0 m else aV 7 i m
def nP:Bool:=allT [!a==1||jr b 2 3 j k m,a==1||(!ax a||br 1 (nD (a==2)) m),a==1||(ax a||(!a==4||br 4 0 m)),a==1||(ax a||(a==4||(!a==5||br 5 0 m))),a==1||(ax a||(a==4||(a==5||(!a==6||br 6 0 m)))),a==1||(ax a||(a==4||(a==5||(a==6||br 7 i m))))]
end
def BE:aAj
 | [.one ⟨false,[.ptr 0 0]⟩,.one ⟨true,[.val (.int .i64 a),.val (.string b),.val (.int .i64 _x2)]⟩],[.box 100 [.val (.string c),.ref 1,.ref 2,.ref 3,.val (.string d),.ref 4,.val (.int .i64 e),.val (.int .i64 f),.val (.int .i64 g),.ref 5,.ref 6,.val (.int .i64 i)],.row false 9 (.str) j,.row false 9 (.str) k,.row false 9 (.str) l,.row false 91 (.pair (.str) (.sl 66 (.pair (.int .i64) (.pair (.str) (.int .i64))))) m,.row true 66 (.pair (.int .i64) (.pair (.str) (.int .i64))) n,.row true 60 (.pair (.int .i64) (.int .i64)) o]=>some ⟨.tup [],[.box 100 [.val (.string (nH a b c j)),.ref 1,.ref 2,.ref 3,.val (.string (nI a b d j)),.ref 4,aAk (nJ a b e j),aAk (nK a b f j),aAk (nL a b g j),.ref 5,.ref 7,aAk (nM a b i j)],aAn j,aAn k,aAn l,aAt m,aAv (nN a b j n),.gone],[aAy (nO a b i j k o)],[nP a b i j k o]⟩
 |_,_=>none
def OU:PF prog:=PF.ofG prog [BW,nQ,aan] [] aU 95 f95 func95 (fun c _=>LOk.nil c) BE (by
 intro _ _ _ h;unfold BE at h;split at h<;>cases h;kernel_rfl)
def nmI(ins vs:List aAi)(a b:Int)(s:aAi):IN:=bif lY ins s then(a,(Io ins s:Int))else(b,oP vs s)
def cT(ins vs:List aAi)(k:Int)(t:TM):IN:=bif t.1==1 then nmI ins vs 2 3 t.2.1 else bif t.1==2 then(1,1)else bif t.1==3 then(1,0)else bif leI 7 t.1 then(7,k)else(t.1,0)
def cK(k:Int)(t:TM):Int:=bif leI 7 t.1 then k + 1 else k
def snI(st:List IN)(x:IN):List IN:=st++ [x]
def cN(ins vs:List aAi)(st:List IN):Bool:=leN ins.length 1048576&&(leN vs.length 1048576&&leN st.length 1048576)
theorem arS(a b:Int)(st:List IN)(h:st.length≤1048576):br a b st=true:=by
 have h1:leN (st.length + [(a,b)].length) 9223372036854775807=true:=aY (by simp only [j9,k7];omega)
 have h2:leN ((st.length + [(a,b)].length) * 16) 140737488355328=true:=aY (by simp only [j9,k7];omega)
 simp only [br,eo,h1,h2,allT,cond_true]
theorem avI(s:aAi)(a b:Int)(ins vs:List aAi)(st:List IN)(h:cN ins vs st=true):
  jq s a b ins vs st=st++ [nmI ins vs a b s]∧jr s a b ins vs st=true:=by
 simp only [cN,q8,eN]at h
 obtain⟨h1,h2,h3⟩:=h
 have e1:leN ins.length 9223372036854775807=true:=aY (by omega)
 have e2:leN vs.length 9223372036854775807=true:=aY (by omega)
 have n:=fun x y=>arS x y st h3
 simp only [jq,jr,aV,eo,Zq,e1,e2,n,nmI,allT]
 cases hc:lY ins s with
 |false=>exact⟨rfl,rfl⟩
 |true=>rw [JS hc];exact⟨rfl,rfl⟩
def cTN(ins vs:List aAi)(k:Int)(st:List IN)(t:TM):Bool:=cN ins vs st&&(inR t.1 1 12&&inR k 0 1048576)
theorem ay3(a:Int)(b:aAi)(c k:Int)(ins vs:List aAi)(st:List IN)(h:cTN ins vs k st (a,b,c)=true):
  (∀ x:aAi,nH a b x ins=x)∧(∀ x:aAi,nI a b x ins=x)∧(∀ x:Int,nJ a b x ins=x)∧
  (∀ x:Int,nK a b x ins=x)∧(∀ x:Int,nL a b x ins=x)∧nM a b k ins=cK k (a,b,c)∧
  (∀ x:List TM,nN a b ins x=x)∧nO a b k ins vs st=st++ [cT ins vs k (a,b,c)]∧nP a b k ins vs st=true:=by
 simp only [cTN,q8,pR]at h
 obtain⟨h1,⟨h2,h3⟩,h4,h5⟩:=h
 obtain⟨l7,l8⟩:=avI b 2 3 ins vs st h1
 have hs:st.length≤1048576:=by
  simp only [cN,q8,eN]at h1;exact h1.2.2
 have n:=fun x y=>arS x y st hs
 have w:qqq .i64 (k + 1)=k + 1:=wrap_i64 (by omega) (by omega)
 simp only [nH,nI,nJ,nK,nL,nM,
  nN,nO,nP,jj,jk,jl,
  jm,jn,jo,jp,k9,l7,l8,n,w,cK,cT,aV,eo,allT,k8]
 have hc:a=1∨a=2∨a=3∨a=4∨a=5∨a=6∨7≤a:=by omega
 rcases hc with rfl | rfl | rfl | rfl | rfl | rfl | hc
 ·exact⟨fun _=>trivial,fun _=>trivial,fun _=>trivial,fun _=>trivial,fun _=>trivial,rfl,fun _=>trivial,rfl,rfl⟩
 ·exact⟨fun _=>trivial,fun _=>trivial,fun _=>trivial,fun _=>trivial,fun _=>trivial,rfl,fun _=>trivial,rfl,rfl⟩
 ·exact⟨fun _=>trivial,fun _=>trivial,fun _=>trivial,fun _=>trivial,fun _=>trivial,rfl,fun _=>trivial,rfl,rfl⟩
 ·exact⟨fun _=>trivial,fun _=>trivial,fun _=>trivial,fun _=>trivial,fun _=>trivial,rfl,fun _=>trivial,rfl,rfl⟩
 ·exact⟨fun _=>trivial,fun _=>trivial,fun _=>trivial,fun _=>trivial,fun _=>trivial,rfl,fun _=>trivial,rfl,rfl⟩
 ·exact⟨fun _=>trivial,fun _=>trivial,fun _=>trivial,fun _=>trivial,fun _=>trivial,rfl,fun _=>trivial,rfl,rfl⟩
 ·have q: ∀ j:Int,j < 7→(a==j)=false:=fun j hj=>by simp;omega
  have a0:ax a=false:=by simp only [ax,q 2 (by decide),q 3 (by decide)];rfl
  simp only [q 1 (by decide),q 2 (by decide),q 3 (by decide),q 4 (by decide),q 5 (by decide),q 6 (by decide),a0,bx hc,cond_false,cond_true,and_self,implies_true]
theorem ax3(a:Int)(b:aAi)(c:Int)(d e:aAi)(f g i j:Int)(k l:List aAi)(m:List TM)(n:List IN)(h:cTN k l j n (a,b,c)=true):
  nH a b d k=d∧nI a b e k=e∧nJ a b f k=f∧
  nK a b g k=g∧nL a b i k=i∧nM a b j k=cK j (a,b,c)∧
  nN a b k m=m∧nO a b j k l n=snI n (cT k l j (a,b,c))∧nP a b j k l n=true:=by
 obtain⟨e0,e1,e2,e3,e4,e5,e6,e7,e8⟩:=ay3 a b c j k l n h
 exact⟨e0 _,e1 _,e2 _,e3 _,e4 _,e5,e6 _,e7,e8⟩
def BI:aAj
 | [.one ⟨false,[.ptr 0 0]⟩,.one ⟨true,[.val (.int .i64 a),.val (.string b),.val (.int .i64 c)]⟩],[.box 100 [.val (.string d),.ref 1,.ref 2,.ref 3,.val (.string e),.ref 4,.val (.int .i64 f),.val (.int .i64 g),.val (.int .i64 i),.ref 5,.ref 6,.val (.int .i64 j)],.row false 9 (.str) k,.row false 9 (.str) l,.row false 9 (.str) m,.row false 91 (.pair (.str) (.sl 66 (.pair (.int .i64) (.pair (.str) (.int .i64))))) n,.row true 66 (.pair (.int .i64) (.pair (.str) (.int .i64))) o,.row true 60 (.pair (.int .i64) (.int .i64)) p]=>some ⟨.tup [],[.box 100 [.val (.string d),.ref 1,.ref 2,.ref 3,.val (.string e),.ref 4,aAk f,aAk g,aAk i,.ref 5,.ref 7,aAk (cK j (a,b,c))],aAn k,aAn l,aAn m,aAt n,aAv o,.gone],[aAy (snI p (cT k l j (a,b,c)))],[cTN k l j p (a,b,c)]⟩
 |_,_=>none
def BV:PF prog:=PF.alt OU BI (by
 intro args es o h cL;unfold BI at h;split at h
 ·rename_i a b c d e f g i j k l m n p q
  cases h
  have cL:=kO cL
  have hh:=ax3 a b c d e f g i j k l p q cL
  obtain⟨e0,e1,e2,e3,e4,e5,e6,e7,en⟩:=hh
  exact qm rfl (jv en) rfl (by simp only [e0,e1,e2,e3,e4,e5,e6] <;> rfl) (by simp only [e7] <;> rfl)
 ·cases h)
theorem av5(a:aAi)(b c:Int)(d e:aAi)(f g i j:Int)(k l:List aAi)(m:List TM)(n:List IN)(h:cN k l n=true):
  jj a d k=d∧jk a e k=e∧jl a f k=f∧
  jm a g k=g∧jn a i k=i∧jo a j k=j∧
  jp a k m=m∧jq a b c k l n=snI n (nmI k l b c a)∧jr a b c k l n=true:=by
 obtain⟨e7,e8⟩:=avI a b c k l n h
 simp only [jj,jk,jl,jm,jn,jo,jp,k9,e7,e8,and_self,snI]
def BH:aAj
 | [.one ⟨false,[.ptr 0 0]⟩,.one ⟨false,[.val (.string a)]⟩,.one ⟨false,[.val (.int .i64 b)]⟩,.one ⟨false,[.val (.int .i64 c)]⟩],[.box 100 [.val (.string d),.ref 1,.ref 2,.ref 3,.val (.string e),.ref 4,.val (.int .i64 f),.val (.int .i64 g),.val (.int .i64 i),.ref 5,.ref 6,.val (.int .i64 j)],.row false 9 (.str) k,.row false 9 (.str) l,.row false 9 (.str) m,.row false 91 (.pair (.str) (.sl 66 (.pair (.int .i64) (.pair (.str) (.int .i64))))) n,.row true 66 (.pair (.int .i64) (.pair (.str) (.int .i64))) o,.row true 60 (.pair (.int .i64) (.int .i64)) p]=>some ⟨.tup [],[.box 100 [.val (.string d),.ref 1,.ref 2,.ref 3,.val (.string e),.ref 4,aAk f,aAk g,aAk i,.ref 5,.ref 7,aAk j],aAn k,aAn l,aAn m,aAt n,aAv o,.gone],[aAy (snI p (nmI k l b c a))],[cN k l p]⟩
 |_,_=>none
def BU:PF prog:=PF.alt BW BH (by
 intro args es o h cL;unfold BH at h;split at h
 ·rename_i a b c d e f g i j k l m n p q
  cases h
  have cL:=kO cL
  have hh:=av5 a b c d e f g i j k l p q cL
  obtain⟨e0,e1,e2,e3,e4,e5,e6,e7,en⟩:=hh
  exact qm rfl (jv en) rfl (by simp only [e0,e1,e2,e3,e4,e5,e6] <;> rfl) (by simp only [e7] <;> rfl)
 ·cases h)
abbrev cR:=Int×Int×List (Int×(aAi×Int))×aAi×aAi×Int×Int×Int×Int×List aAi×List aAi×List aAi×List (aAi×(List (Int×(aAi×Int))))×List (Int×(aAi×Int))×List (Int×Int)
section
variable (a b:Int)(c:aor)(d:Int)(e f:List aAi)(g:auv)
def kZ:Int×aAi×Int:=v9 c[v7 a]? ((0:Int),ByteArray.empty,(0:Int))
def gx:Int×aAi×Int:=((kZ a c).1,((kZ a c).2).1,(kZ a c).2.2)
def rm:Bool:=ltI a b
def zT:Bool:=leI 0 a
def zU:Bool:=ltI a (↑c.length:Int)
def zW:Bool:=ltN a.toNat c.length
def zX:Bool:=cTN e f d g (gx a c)
def zY:Int:=qqq .i64 (a + (1:Int))
def zZ:Int:=cK d (gx a c)
def Aa:auv:=snI g (cT e f d (gx a c))
end
def Ky:cR→List (Nat×SV)
 |(a,b,_,_,_,_,_,_,_,_,_,_,_,_,_)=> [(10,(aAm a)),(9,(aAm b)),(8,(aAl (.ref 0))),(0,(aAl (.ptr 1 0)))]
def Kw:cR→List (Nat×Entry)
 |(_,_,a,b,c,d,e,f,g,i,j,k,l,m,n)=> [(0,(aAp a)),(1,(.box 100 [.val (.string b),.ref 2,.ref 3,.ref 4,.val (.string c),.ref 5,aAk d,aAk e,aAk f,.ref 6,.ref 7,aAk g])),(2,(aAn i)),(3,(aAn j)),(4,(aAn k)),(5,(aAs l)),(6,(aAv m)),(7,(aAy n))]
def KD:Nat→cR→List (Nat×SV)
 |_,_=>[]
def qM:cR→LT cR
 |(a,b,c,d,e,f,g,i,j,k,l,m,n,o,p)=> .ite (rm a b) (.need [zT a,zU a c,zW a c] (.need [zX a c j k l p] (.nrm ((zY a),b,c,d,e,f,g,i,zZ a c j,k,l,m,n,o,(Aa a c j k l p)) [(0,0),(1,1),(2,2),(3,3),(4,4),(5,5),(6,6),(7,512)]))) (.ext 0 [(0,0),(1,1),(2,2),(3,3),(4,4),(5,5),(6,6),(7,7)])
def qR(s:St):Option cR:=do
 let some ⟨none,.one ⟨false,[.val (.int .i64 a)]⟩⟩:=s.look 10|none
 let some ⟨none,.one ⟨false,[.val (.int .i64 b)]⟩⟩:=s.look 9|none
 let some ⟨none,.one ⟨false,[.ref 1]⟩⟩:=s.look 8|none
 let some ⟨none,.one ⟨false,[.ptr 0 0]⟩⟩:=s.look 0|none
 let some (.row false 66 (.pair (.int .i64) (.pair .str (.int .i64))) c):=s.ent 1|none
 let some (.box 100 [.val (.string d),.ref 2,.ref 3,.ref 4,.val (.string e),.ref 5,.val (.int .i64 f),.val (.int .i64 g),.val (.int .i64 i),.ref 6,.ref 7,.val (.int .i64 j)]):=s.ent 0|none
 let some (.row false 9 (.str) k):=s.ent 2|none
 let some (.row false 9 (.str) l):=s.ent 3|none
 let some (.row false 9 (.str) m):=s.ent 4|none
 let some (.row false 91 (.pair .str (.sl 66 (.pair (.int .i64) (.pair .str (.int .i64))))) n):=s.ent 5|none
 let some (.row true 66 (.pair (.int .i64) (.pair .str (.int .i64))) o):=s.ent 6|none
 let some (.row true 60 (.pair (.int .i64) (.int .i64)) p):=s.ent 7|none
 some (a,b,c,d,e,f,g,i,j,k,l,m,n,o,p)
def aT:Lp cR where
 h:=⟨[11,12,13,5,14,15,16,17,10],[0,1,2,3,4,5,6],[7],[]⟩
 JL:=Ky
 JE:=Kw
 XL:=KD
 XE:=fun _=>Kw
 q:=fun j=>match j with | _=> .exit 0
 tags:= [0]
 lt:=qM
 fuel:=fun(a,b,c,d,e,f,g,i,k,l,m,n,o,p,r)=>a.natAbs + b.natAbs + c.length + d.size + e.size + f.natAbs + g.natAbs + i.natAbs + k.natAbs + l.length + m.length + n.length + o.length + p.length + r.length
 fix:=fun(_,b,c,d,e,f,g,i,_,l,m,n,o,p,_) (a,_,_,_,_,_,_,_,k,_,_,_,_,_,r)=>(a,b,c,d,e,f,g,i,k,l,m,n,o,p,r)
 σ:= [(0,1),(1,0),(2,2),(3,3),(4,4),(5,5),(6,6),(7,7)]
 rd:=qR
theorem Jc:LoopOk prog (fun k=>Nat.blt k Tryz.f53.ntmps) aT.F (bc f53 0):=by
 refine Lp.ok (tbl:= [BV,nQ,Et]) (lf:= []) aU aT (by kernel_rfl) (LOk.nil _) (fun _=>rfl) (fun _ _=>rfl) ?_ ?_ ?_ ?_ (fun _=>rfl) ?_
 ·intro _;kernel_rfl
 ·intro _;kernel_rfl
 ·intro s x h
  have h:qR s=some x:=h
  unfold qR at h
  repeat' split at h
  all_goals cases h
  constructor<;>repeat(first|refine ab ‹_› rfl ?_|refine aa rfl ‹_› rfl ?_|rfl)
 ·intro _;kernel_rfl
 ·intro _ _;exact(And.intro rfl trivial)
section
variable (a b c:aAi)(d e f g:Int)(i:aoQ)(j k l:List aAi)(m:aiK)(n:aoQ)(o:auv)
def mR:Int×Int×aoQ×aAi×aAi×Int×Int×Int×Int×List aAi×List aAi×List aAi×aiK×aoQ×auv:=((0:Int),(↑i.length:Int),i,b,c,d,e,f,g,j,k,l,m,n,o)
def mS:Int×List aAi×List aAi×List aAi×aiK×aoQ×auv:=(Lp.res aT (mR b c d e f g i j k l m n o)).2.2.2.2.2.2.2.2.2
def mT:Int:=(mS b c d e f g i j k l m n o).1
def fu:auv:=(mS b c d e f g i j k l m n o).2.2.2.2.2.2
def sY:aAi:=bif leI 0 (oP k a)then b else b
def sZ:aAi:=bif leI 0 (oP k a)then c else c
def ta:Int:=bif leI 0 (oP k a)then d else d
def tb:Int:=bif leI 0 (oP k a)then e else e
def tc:Int:=bif leI 0 (oP k a)then f else f
def td:Int:=bif leI 0 (oP k a)then mT b c d e f g i j k l m n o else mT b c d e f g i j k l m n o
def te:aor:=bif leI 0 (oP k a)then n else n
def tf:auv:=bif leI 0 (oP k a)then aV 8 (oP k a) (fu b c d e f g i j k l m n o)else aV 9 (oP l a) (fu b c d e f g i j k l m n o)
def th:Bool:=allT [Lp.fin aT (mR b c d e f g i j k l m n o),leN k.length (9223372036854775807:Nat),!leI 0 (oP k a)||br 8 (oP k a) (fu b c d e f g i j k l m n o),leI 0 (oP k a)||leN l.length (9223372036854775807:Nat),leI 0 (oP k a)||br 9 (oP l a) (fu b c d e f g i j k l m n o)]
end
def BC:aAj
 | [.one ⟨false,[.ptr 0 0]⟩,.one ⟨true,[.val (.string a),.ref 1]⟩],[.box 100 [.val (.string b),.ref 2,.ref 3,.ref 4,.val (.string c),.ref 5,.val (.int .i64 d),.val (.int .i64 e),.val (.int .i64 f),.ref 6,.ref 7,.val (.int .i64 g)],.row false 66 (.pair (.int .i64) (.pair (.str) (.int .i64))) i,.row false 9 (.str) j,.row false 9 (.str) k,.row false 9 (.str) l,.row false 91 (.pair (.str) (.sl 66 (.pair (.int .i64) (.pair (.str) (.int .i64))))) m,.row true 66 (.pair (.int .i64) (.pair (.str) (.int .i64))) n,.row true 60 (.pair (.int .i64) (.int .i64)) o]=>some ⟨.tup [],[.box 100 [.val (.string (sY a b k)),.ref 2,.ref 3,.ref 4,.val (.string (sZ a c k)),.ref 5,aAk (ta a d k),aAk (tb a e k),aAk (tc a f k),.ref 6,.ref 8,aAk (td a b c d e f g i j k l m n o)],aAp i,aAn j,aAn k,aAn l,aAt m,aAv (te a k n),.gone],[aAy (tf a b c d e f g i j k l m n o)],[th a b c d e f g i j k l m n o]⟩
 |_,_=>none
def OT:PF prog:=PF.ofG prog [BV,nQ,Et] [aT.F] aU 53 f53 func53 (LOk.fnT (l:= [bc f53 0]) (by kernel_rfl) (.cons Jc (.nil _))) BC (by
 intro _ _ _ h;unfold BC at h;split at h<;>cases h;kernel_rfl)
end Go.SX
