/- What functions of the program come to, and what that says in plain words: part 3. -/
import Derived.Test.YthehiagbdgollaaGreatDoorMb
import Derived.Test.YthehiagbdgollaaGreatDoorTXh
import Derived.Test.YthehiagbdgollaaGreatDoorProg
import Derived.Test.YthehiagbdgollaaGreatDoorTXi
set_option linter.unusedSimpArgs false
set_option linter.unusedVariables false
open Int renaming toNat_natCast → q8
open List renaming length_append → q9
open List renaming length_cons → w3
open List renaming length_nil → w4
open Bool renaming or_true → w5
open Bool renaming cond_self → w6
open List renaming getElem?_eq_some_iff → w7
open Int renaming toNat → w8
namespace Go.SX
open Go.Proofs Go.Proofs.Tryz
set_option maxRecDepth 100000
set_option maxHeartbeats 1000000
def vOk(T:Nat)(n:Int)(v:al4):Prop:=v.length=T + n.toNat + 1∧byt v
theorem ahh{sz:al4}: ∀ {es:al3} {p:Int},Uq sz es p=true→ ∀ t∈es,Tf sz t.1 t.2=true
 | [],_,_=>fun t ht=>by cases ht
 |e::es,p,h=>fun t ht=>by
  simp only [Uq,Bool.and_eq_true]at h
  rcases List.mem_cons.1 ht with rfl | ht
  ·exact h.1.1
  ·exact ahh h.2 t ht
theorem ah0{T d:Nat}{n:Int}(hn:n≤8)(hd:d≤2)(i:Nat):(szM T n d)[i]?.getD 0≤24:=by
 cases h:(szM T n d)[i]? with
 |none=>simp
 |some y=>
  have hm:=List.mem_of_getElem? h
  simp only [szM,stV,List.mem_append,List.mem_replicate,List.mem_singleton]at hm
  rcases hm with h | h | h <;> simp only [Option.getD_some] <;> omega
theorem agS: ∀ (es:al3) (v:al4),byt v→(∀ t∈es,0≤t.2∧t.2≤255)→byt (apE v es)
 | [],v,h,_=>h
 |e::es,v,h,he=>by
  refine agS es _ (fun x hx=> ?_) (fun t ht=>he t (List.mem_cons_of_mem _ ht))
  rcases List.mem_or_eq_of_mem_set hx with hx | rfl
  ·exact h x hx
  ·exact he e (by simp)
theorem afM{T d:Nat}{n:Int}{L:al1}(hK:KndOk T d n L){v:al4}{b:Int}(hb:0≤b∧b < L.length)(h:vOk T n v):vOk T n (apL T n L b v):=by
 have hx:=hK.ofB hb
 obtain⟨_,r2,_⟩:=aej hK.T4 hK.n2 hx
 refine⟨by rw [apL,abr];exact h.1,agS _ _ h.2 fun t ht=> ?_⟩
 have h1:=RW.1 (ahh r2 t ht)
 have h2:=ah0 (T:=T) hK.n8 hK.d2 t.1.toNat
 omega
section
variable{T d:Nat}{n:Int}{L:al1}(hK:KndOk T d n L){st:al4}(RX:vOk T n st)
 include hK RX
theorem aaE{M:List NdE}(h:SrOk (enL T n L) (apL T n L) st M): ∀ (i:Nat) (e:NdE),M[i]? =some e→vOk T n e.1.1∧e.1.2.2.2=(e.2.length:Int)∧e.2.length≤i:=by
 refine h.ind (Q:=fun(i:Nat) (e:NdE)=>vOk T n e.1.1∧e.1.2.2.2=(e.2.length:Int)∧e.2.length≤i) ⟨RX,rfl,Nat.le_refl _⟩ (fun i j p r hji _ hQ hr _=> ?_)
 obtain⟨q1,q2,q3⟩:=hQ
 have hb:=(aby hr).1
 refine⟨afM hK hb q1,?_,?_⟩
 ·simp only [mkN,q9,w3,w4];omega
 ·simp only [mkN,q9,w3,w4];omega
theorem ajw{M:List NdE}(h:SrOk (enL T n L) (apL T n L) st M){v:al4}(hv:vOk T n v):Xe (M.map fun e=>Qt e.1.1) (Qt v)=hasV M v:=by
 rw [Bool.eq_iff_iff,acm,Zb]
 simp only [List.mem_map]
 constructor
 ·rintro⟨e,he,hk⟩
  obtain⟨i,hi⟩:=List.getElem?_of_mem he
  exact⟨e,he,aiC (aaE hK RX h i e hi).1.2 hv.2 hk⟩
 ·rintro⟨e,he,hk⟩
  exact⟨e,he,by rw [hk]⟩
theorem aks{rs:List RuE}(hr:RuOf T n L rs)(sz st':al4){M:List NdE}(hM:SrOk (enL T n L) (apL T n L) st M)(hl:M.length≤4000){k:Nat}{p:NdE}(hp:M[k]? =some p):
  aA.fin ((0:Int),((enL T n L p.1.1).length:Int),(k:Int),enL T n L p.1.1,M.map (fun e=>e.1),M.map (fun e=>Qt e.1.1),sz,st',rs)=true∧
  aA.res ((0:Int),((enL T n L p.1.1).length:Int),(k:Int),enL T n L p.1.1,M.map (fun e=>e.1),M.map (fun e=>Qt e.1.1),sz,st',rs)=
   (0,(((enL T n L p.1.1).length:Int),((enL T n L p.1.1).length:Int),(k:Int),enL T n L p.1.1,(vN (apL T n L) p k (enL T n L p.1.1) M).map (fun e=>e.1),(vN (apL T n L) p k (enL T n L p.1.1) M).map (fun e=>Qt e.1.1),sz,st',rs)):=by
 have hT4:=hK.T4
 have hn8:=hK.n8
 have hL5:=hK.L5
 have henl:=agW T n L p.1.1
 have Bp: ∀ b∈enL T n L p.1.1,0≤b∧b < L.length:=fun b hb=>(aby hb).1
 have Ua: ∀ b∈enL T n L p.1.1,b∈enL T n L p.1.1:=fun b hb=>hb
 generalize YE:enL T n L p.1.1=en at henl Bp Ua
 have key:=aA.iterM (fun i=>((i:Int),(en.length:Int),(k:Int),en,(vN (apL T n L) p k (en.take i) M).map (fun e=>e.1),(vN (apL T n L) p k (en.take i) M).map (fun e=>Qt e.1.1),sz,st',rs)) 0 en.length (by omega) (fun i hi=> ?_) ?_
 ·simp only [show ((0:Nat):Int)=0 from rfl,List.take_zero,List.take_length,show vN (apL T n L) p k [] M=M from rfl]at key
  exact key
 ·have hw:IntKind.i64.wrap ((i:Int) + 1)=((i + 1:Nat):Int):=jv hi (by omega)
  have hstep:vN (apL T n L) p k (en.take (i + 1)) M=Ir (vN (apL T n L) p k (en.take i) M) (mkN (apL T n L) p k en[i]):=by
   rw [List.take_add_one,List.getElem?_eq_getElem hi]
   simp only [vN,Option.toList,List.foldl_append,List.foldl_cons,List.foldl_nil]
  obtain⟨hMi,⟨t,ht,htl⟩,hpi⟩:=abq (A:=apL T n L) (E:=enL T n L) (k:=k) (rs:=en.take i) (fun r hr=>by rw [YE];exact List.mem_of_mem_take hr) hM hp
  rw [List.length_take]at htl
  have hMl:(vN (apL T n L) p k (en.take i) M).length≤4200:=by rw [ht,q9];omega
  have jM:=agR hMi hpi (r:=en[i]) (by rw [YE];exact List.getElem_mem hi)
  rw [hstep]
  generalize vN (apL T n L) p k (en.take i) M=Mi at hMi hpi hMl jM
  have hki:k < Mi.length:=(w7.1 hpi).1
  obtain⟨pv,pd,pl⟩:=aaE hK RX hMi k p hpi
  have hb:=Bp _ (List.getElem_mem hi)
  generalize hbi:en[i]=b at hb jM
  have h3:ltI (i:Int) (en.length:Int)=true:=cK (by omega)
  have h4:leI 0 (i:Int)=true:=cw (by omega)
  have h5:ltN i en.length=true:=ip hi
  have ha0:bL (i:Int) en=b:=by
   unfold bL;rw [q8,List.getElem?_eq_getElem hi,hbi];rfl
  have gm:b.toNat < L.length:=by omega
  have hab:atK L b=L[b.toNat]:=by simp [atK,List.getElem?_eq_getElem gm]
  obtain⟨nm,hg⟩:=hr.get b.toNat gm
  have ha3:gH (i:Int) en rs=eK T n (atK L b):=by
   unfold gH;rw [ha0,hg,hab];rfl
  have ha4:dC (k:Int) (Mi.map fun e=>e.1)=p.1:=by
   unfold dC;rw [q8,List.getElem?_map,hpi];rfl
  obtain⟨a1,a2⟩:=akg hK pv.1 hb
  have ha5:az (i:Int) (k:Int) en (Mi.map fun e=>e.1) rs=apL T n L b p.1.1:=by
   unfold az;rw [ha3,ha4,a1]
  have hvn:=afM hK hb pv
  have hdw:IntKind.i64.wrap (p.1.2.2.2 + 1)=p.1.2.2.2 + 1:=aB (by omega) (by omega)
  have ha6:dD (i:Int) (k:Int) en (Mi.map fun e=>e.1) rs= [(mkN (apL T n L) p k b).1]:=by
   unfold dD;rw [ha5,ha0,ha4,hdw];rfl
  obtain⟨k1,k2⟩:=aiD _ (by have:=hvn.1;omega) hvn.2
  have hmm:=ajw hK RX hMi hvn
  have hrl:=hr.len
  have g1:leI 0 b=true:=cw hb.1
  have g2:ltI b (rs.length:Int)=true:=cK (by omega)
  have g3:ltN b.toNat rs.length=true:=ip (by omega)
  have g4:leI 0 (k:Int)=true:=cw (by omega)
  have g5:ltI (k:Int) (Mi.length:Int)=true:=cK (by omega)
  have g6:ltN k Mi.length=true:=ip hki
  have l1:leN (Mi.length + (0 + 1)) 9223372036854775807=true:=iJ (by omega)
  have l2:leN ((Mi.length + (0 + 1)) * 48) 140737488355328=true:=iJ (by omega)
  have hv1:(mkN (apL T n L) p k b).1.1=apL T n L b p.1.1:=rfl
  cases hh:hasV Mi (apL T n L b p.1.1)with
  |true=>
   rw [hh]at hmm
   have e1:Ir Mi (mkN (apL T n L) p k b)=Mi:=by simp only [Ir,hv1,hh,cond_true]
   rw [e1]
   simp only [aA,gI,gU,lV,lW,lX,lY,lZ,ma,mb,mc,me,lA,lB,lC,lD,lE,lF,lG,lH,gE,gF,gG,
    ha0,ha3,ha4,ha5,ha6,a2,k1,k2,hmm,LT.out,allT,hw,h3,h4,h5,g1,g2,g3,g4,g5,g6,l1,l2,List.length_map,w3,w4,q8,Bool.not_true,Bool.not_false,w5,Bool.true_or,Bool.false_or,cond_true,cond_false]
  |false=>
   rw [hh]at hmm
   have e1:Ir Mi (mkN (apL T n L) p k b)=Mi++ [mkN (apL T n L) p k b]:=by simp only [Ir,hv1,hh,cond_false]
   rw [e1]
   simp only [aA,gI,gU,lV,lW,lX,lY,lZ,ma,mb,mc,me,lA,lB,lC,lD,lE,lF,lG,lH,gE,sD,sE,gF,gG,
    ha0,ha3,ha4,ha5,ha6,a2,k1,k2,hmm,aex,hv1,LT.out,allT,hw,h3,h4,h5,g1,g2,g3,g4,g5,g6,l1,l2,List.length_map,w3,w4,List.map_append,List.map_cons,List.map_nil,q8,Bool.not_true,Bool.not_false,w5,Bool.true_or,Bool.false_or,cond_true,cond_false]
 ·have h3:ltI (en.length:Int) (en.length:Int)=false:=nA (by omega)
  simp only [aA,gI,gU,LT.out,h3,cond_false]
theorem ajm{rs:List RuE}(hr:RuOf T n L rs)(sz st':al4){K:Nat}(hK4:K≤4000)(hg: ∀ j,j < K→Bn (enL T n L) (apL T n L) st j)(hng: ¬ Bn (enL T n L) (apL T n L) st K):
  an.fin ((0:Int),(nM (enL T n L) (apL T n L) st 0).map (fun e=>e.1),(nM (enL T n L) (apL T n L) st 0).map (fun e=>Qt e.1.1),sz,st',rs)=true∧
  an.res ((0:Int),(nM (enL T n L) (apL T n L) st 0).map (fun e=>e.1),(nM (enL T n L) (apL T n L) st 0).map (fun e=>Qt e.1.1),sz,st',rs)=
   (bif ltN K (nM (enL T n L) (apL T n L) st K).length then 0 else 1,((K:Int),(nM (enL T n L) (apL T n L) st K).map (fun e=>e.1),(nM (enL T n L) (apL T n L) st K).map (fun e=>Qt e.1.1),sz,st',rs)):=by
 have round: ∀ k,k≤K→k < (nM (enL T n L) (apL T n L) st k).length→
   (an.lt ((k:Int),(nM (enL T n L) (apL T n L) st k).map (fun e=>e.1),(nM (enL T n L) (apL T n L) st k).map (fun e=>Qt e.1.1),sz,st',rs)).out=
    (bif leN (nM (enL T n L) (apL T n L) st (k + 1)).length 4000 then some (.inr (((k + 1:Nat):Int),(nM (enL T n L) (apL T n L) st (k + 1)).map (fun e=>e.1),(nM (enL T n L) (apL T n L) st (k + 1)).map (fun e=>Qt e.1.1),sz,st',rs))else some (.inl 0)):=by
  intro k hkK hk
  have hM:=adQ (E:=enL T n L) (A:=apL T n L) st k
  have hl:=afP hg hkK
  have hX:nM (enL T n L) (apL T n L) st (k + 1)=Yg (enL T n L) (apL T n L) (nM (enL T n L) (apL T n L) st k) k:=rfl
  rw [hX]
  generalize nM (enL T n L) (apL T n L) st k=M at hM hl hk
  have hp:M[k]? =some M[k]:=List.getElem?_eq_getElem hk
  generalize M[k]=p at hp
  have hexp:Yg (enL T n L) (apL T n L) M k=vN (apL T n L) p k (enL T n L p.1.1) M:=by unfold Yg;rw [hp]
  rw [hexp]
  obtain⟨i1,i2⟩:=aks hK RX hr sz st' hM hl hp
  obtain⟨pv,_,_⟩:=aaE hK RX hM k p hp
  obtain⟨n1,n2⟩:=akn hK hr pv.1
  have ha0:em (k:Int) (M.map fun e=>e.1)=p.1.1:=by
   unfold em;rw [q8,List.getElem?_map,hp];rfl
  have ha1:ij (k:Int) (M.map fun e=>e.1) (M.map fun e=>Qt e.1.1) sz st' rs=
    ((0:Int),((enL T n L p.1.1).length:Int),(k:Int),enL T n L p.1.1,M.map (fun e=>e.1),M.map (fun e=>Qt e.1.1),sz,st',rs):=by
   unfold ij;rw [ha0,n1]
  have ha2:ik (k:Int) (M.map fun e=>e.1) (M.map fun e=>Qt e.1.1) sz st' rs=
    ((vN (apL T n L) p k (enL T n L p.1.1) M).map (fun e=>e.1),(vN (apL T n L) p k (enL T n L p.1.1) M).map (fun e=>Qt e.1.1),sz,st',rs):=by
   unfold ik;rw [ha1,i2]
  have h3:ltI (k:Int) (M.length:Int)=true:=cK (by omega)
  have h4:leI 0 (k:Int)=true:=cw (by omega)
  have h5:ltN k M.length=true:=ip hk
  have hw:IntKind.i64.wrap ((k:Int) + 1)=((k + 1:Nat):Int):=jv hk (by omega)
  generalize vN (apL T n L) p k (enL T n L p.1.1) M=M' at ha2
  have h6:ltI 4000 (M'.length:Int)= !leN M'.length 4000:=by
   cases h:leN M'.length 4000 with
   |true=>have:=uk.1 h;exact nA (by omega)
   |false=>have:=Tj.1 h;exact cK (by omega)
  cases h7:leN M'.length 4000 <;> rw [h7]at h6 <;>
  simp only [an,nh,iN,uA,uB,uC,uD,uE,nF,uF,uG,nf,ha0,ha1,ha2,i1,n2,LT.out,allT,hw,h3,h4,h5,h6,List.length_map,q8,Bool.not_true,Bool.not_false,cond_true,cond_false]
 have key:=an.iterM (fun k=>((k:Int),(nM (enL T n L) (apL T n L) st k).map (fun e=>e.1),(nM (enL T n L) (apL T n L) st k).map (fun e=>Qt e.1.1),sz,st',rs)) (bif ltN K (nM (enL T n L) (apL T n L) st K).length then 0 else 1) K (by omega) (fun k hk=> ?_) ?_
 ·exact key
 ·have h:=hg k hk
  rw [round k (by omega) h.1,iJ h.2];rfl
 ·cases hh:ltN K (nM (enL T n L) (apL T n L) st K).length with
  |true=>
   have h1:=Zm.1 hh
   have h2: ¬ (nM (enL T n L) (apL T n L) st (K + 1)).length≤4000:=fun h=>hng ⟨h1,h⟩
   have h3:leN (nM (enL T n L) (apL T n L) st (K + 1)).length 4000=false:=Tj.2 (by omega)
   rw [round K (Nat.le_refl _) h1,h3];rfl
  |false=>
   have h1:=Zn.1 hh
   have h3:ltI (K:Int) ((nM (enL T n L) (apL T n L) st K).length:Int)=false:=nA (by omega)
   simp only [an,nh,iN,LT.out,List.length_map,h3,cond_false]
theorem af2{rs:List RuE}(hr:RuOf T n L rs)(sz:al4){K:Nat}(hK4:K≤4000)(hg: ∀ j,j < K→Bn (enL T n L) (apL T n L) st j)(hng: ¬ Bn (enL T n L) (apL T n L) st K):
  gp sz st rs= !ltN K (nM (enL T n L) (apL T n L) st K).length∧
  ky sz st rs=(bif ltN K (nM (enL T n L) (apL T n L) st K).length then []else(nM (enL T n L) (apL T n L) st K).map fun e=>e.1)∧
  kz sz st rs=true:=by
 have hT4:=hK.T4
 have hn8:=hK.n8
 have hl:=RX.1
 obtain⟨k1,k2⟩:=aiD st (by omega) RX.2
 have ha0:fJ sz st rs=((0:Int),(nM (enL T n L) (apL T n L) st 0).map (fun e=>e.1),(nM (enL T n L) (apL T n L) st 0).map (fun e=>Qt e.1.1),sz,st,rs):=by
  unfold fJ;rw [k1];rfl
 obtain⟨r1,r2⟩:=ajm hK RX hr sz st hK4 hg hng
 have g1:leN 1 st.length=true:=iJ (by omega)
 have g2:leN st.length 1048576=true:=iJ (by omega)
 simp only [gp,ky,kz,om,ha0,r1,r2,k2,g1,g2,allT,Bool.and_self,cond_true]
 cases ltN K (nM (enL T n L) (apL T n L) st K).length <;> exact⟨rfl,rfl,trivial⟩
end
set_option maxHeartbeats 1000000
theorem Lp.invM{X:Type}(p:Lp X)(I Q:Nat→X→Prop)
  (hs: ∀ k x,I (k + 1) x→(∃ j,(p.lt x).out=some (.inl j)∧Q j x)∨ ∃ y,(p.lt x).out=some (.inr y)∧I k y)
  (he: ∀ x,I 0 x→ ∃ j,(p.lt x).out=some (.inl j)∧Q j x) (N:Nat) (x:X) (hN:N≤900000) (h:I N x):
  p.fin x=true∧ ∃ j y,p.res x=(j,y)∧Q j y:=by
 have key: ∀ (k:Nat) (x:X),I k x→ ∃ j y,Ky p.lt (k + 1) x=some (j,y)∧Q j y:=by
  intro k
  induction k with
  |zero=>
   intro x h
   obtain⟨j,h1,h2⟩:=he x h
   exact⟨j,x,PH _ h1,h2⟩
  |succ k ih=>
   intro x h
   rcases hs k x h with⟨j,h1,h2⟩ | ⟨y,h1,h2⟩
   ·exact⟨j,x,PH _ h1,h2⟩
   ·obtain⟨j,z,h3,h4⟩:=ih y h2
    exact⟨j,z,by rw [VU _ h1];exact h3,h4⟩
 obtain⟨j,y,h1,h2⟩:=key N x h
 obtain⟨k1,k2⟩:=p.run h1 (aef (by omega))
 exact⟨k1,j,y,k2,h2⟩
structure KnOk (m:Nat) (kn:al2) (M:List NdE):Prop where
 srt:srtL m kn
 mem: ∀ w,w∈kn↔hasV M w=true
 len:kn.length=M.length
theorem ah5{m:Nat}(hm:m≤900){kn:al2}{M:List NdE}(hk:KnOk m kn M)(hl:M.length≤4000)(e:NdE)(he:e.1.1.length=m):
  Cn e.1.1 e.2 (M.map fun e=>e.1.1) (M.map fun e=>e.2) kn=true∧
  Ck false e.1.1 (M.map fun e=>e.1.1) kn=leN 4001 (Ir M e).length∧
  ((Ir M e).length≤4000→Cl e.1.1 (M.map fun e=>e.1.1) kn=(Ir M e).map (fun e=>e.1.1)∧Cm e.1.1 e.2 (M.map fun e=>e.1.1) (M.map fun e=>e.2) kn=(Ir M e).map (fun e=>e.2)∧
   KnOk m (yV e.1.1 (M.map fun e=>e.1.1) kn) (Ir M e)):=by
 have hkl:kn.length≤4000:=by rw [hk.len];exact hl
 obtain⟨r,hp,p0,p1,p2⟩:=afi m kn e.1.1 hk.srt he hm hkl
 have Bp:decide (e.1.1∈kn)=hasV M e.1.1:=by
  rw [Bool.eq_iff_iff,decide_eq_true_iff];exact hk.mem _
 rw [Bp]at p1
 cases hh:hasV M e.1.1 with
 |true=>
  rw [hh]at p1
  have e1:Ir M e=M:=by simp only [Ir,hh,cond_true]
  rw [e1]
  have e2:leN 4001 M.length=false:=Tj.2 (by omega)
  simp only [Ck,Cl,Cm,yV,Cn,p1,p2,e2,allT,Bool.true_or,cond_true,true_and]
  exact fun _=>hk
 |false=>
  rw [hh]at p1
  have e1:Ir M e=M++ [e]:=by simp only [Ir,hh,cond_false]
  rw [e1]
  have hn:e.1.1∉kn:=fun h=>by rw [(hk.mem _).1 h]at hh;cases hh
  obtain⟨i1,i2,i3,i4⟩:=ahD m kn e.1.1 hk.srt he hm hkl hn
  rcases Nat.lt_or_ge M.length 4000 with gm | hge
  ·have a0:nz (M.map fun e=>e.1.1)=false:=by
    unfold nz;rw [List.length_map];simp;omega
   have e2:leN 4001 (M++ [e]).length=false:=Tj.2 (by rw [q9,w3,w4];omega)
   have l1:leN (M.length + (0 + 1)) 9223372036854775807=true:=iJ (by omega)
   have l2:leN ((M.length + (0 + 1)) * 24) 140737488355328=true:=iJ (by omega)
   simp only [Ck,Cl,Cm,yV,Cn,p1,p2,a0,i4,e2,l1,l2,allT,List.length_map,w3,w4,Bool.false_or,cond_true,cond_false,true_and,List.map_append,List.map_cons,List.map_nil]
   refine fun _=>⟨i1,fun w=> ?_,?_⟩
   ·rw [i2,hk.mem,Zb,Zb,List.map_append,List.mem_append]
    simp only [List.map_cons,List.map_nil,List.mem_singleton]
   ·rw [i3,hk.len,q9];rfl
  ·have a0:nz (M.map fun e=>e.1.1)=true:=by
    unfold nz;rw [List.length_map];simp;omega
   have e2:leN 4001 (M++ [e]).length=true:=iJ (by rw [q9,w3,w4];omega)
   simp only [Ck,Cl,Cm,yV,Cn,p1,p2,a0,e2,allT,Bool.true_or,Bool.false_or,cond_true,cond_false,true_and]
   intro h
   rw [q9,w3,w4]at h
   omega
theorem ac8{A:Int→al4→al4}{p:NdE}{k:Nat}: ∀ (rs:al4) (L:List NdE),L.length≤(vN A p k rs L).length
 | [],L=>Nat.le_refl _
 |r::rs,L=>by
  have h1:=ac8 (A:=A) (p:=p) (k:=k) rs (Ir L (mkN A p k r))
  obtain⟨t,ht,_⟩:=aew L (mkN A p k r)
  have:vN A p k (r::rs) L=vN A p k rs (Ir L (mkN A p k r)):=rfl
  rw [this]
  have h2:L.length≤(Ir L (mkN A p k r)).length:=by rw [ht,q9];omega
  omega
theorem ahA{E:al4→al4}{A:Int→al4→al4}{st:al4}{K K':Nat}(h1: ∀ j,j < K→Bn E A st j)(h2: ¬ Bn E A st K)(h3: ∀ j,j < K'→Bn E A st j)(h4: ¬ Bn E A st K'):K=K':=by
 rcases Nat.lt_trichotomy K K' with h | h | h
 ·exact absurd (h3 K h) h2
 ·exact h
 ·exact absurd (h1 K' h) h4
section
variable{T d:Nat}{n:Int}{L:al1}(hK:KndOk T d n L){st:al4}(RX:vOk T n st)
 include hK RX
theorem akA{rs:List RuE}(hr:RuOf T n L rs)(sz st':al4){M:List NdE}(hM:SrOk (enL T n L) (apL T n L) st M)(hl:M.length≤4000){k:Nat}{p:NdE}(hp:M[k]? =some p){kn:al2}(hkn:KnOk (T + n.toNat + 1) kn M):
  fM.fin ((0:Int),(k:Int),enL T n L p.1.1,false,M.map (fun e=>e.1.1),M.map (fun e=>e.2),kn,sz,st',rs)=true∧ ∃ j y,
  fM.res ((0:Int),(k:Int),enL T n L p.1.1,false,M.map (fun e=>e.1.1),M.map (fun e=>e.2),kn,sz,st',rs)=(j,y)∧
   ((∃ kn' i,y=((i:Int),(k:Int),enL T n L p.1.1,false,(vN (apL T n L) p k (enL T n L p.1.1) M).map (fun e=>e.1.1),(vN (apL T n L) p k (enL T n L p.1.1) M).map (fun e=>e.2),kn',sz,st',rs)∧
     (vN (apL T n L) p k (enL T n L p.1.1) M).length≤4000∧KnOk (T + n.toNat + 1) kn' (vN (apL T n L) p k (enL T n L p.1.1) M))∨
    (y.2.2.2.1=true∧4000 < (vN (apL T n L) p k (enL T n L p.1.1) M).length)):=by
 have hT4:=hK.T4
 have hn8:=hK.n8
 have hL5:=hK.L5
 have henl:=agW T n L p.1.1
 have Bp: ∀ b∈enL T n L p.1.1,0≤b∧b < L.length:=fun b hb=>(aby hb).1
 generalize YE:enL T n L p.1.1=en at henl Bp
 refine fM.invM
  (fun m x=>(∃ i kn',i + m=en.length∧x=((i:Int),(k:Int),en,false,(vN (apL T n L) p k (en.take i) M).map (fun e=>e.1.1),(vN (apL T n L) p k (en.take i) M).map (fun e=>e.2),kn',sz,st',rs)∧
    (vN (apL T n L) p k (en.take i) M).length≤4000∧KnOk (T + n.toNat + 1) kn' (vN (apL T n L) p k (en.take i) M))∨(x.2.2.2.1=true∧4000 < (vN (apL T n L) p k en M).length))
  (fun _ y=>(∃ kn' i,y=((i:Int),(k:Int),en,false,(vN (apL T n L) p k en M).map (fun e=>e.1.1),(vN (apL T n L) p k en M).map (fun e=>e.2),kn',sz,st',rs)∧
     (vN (apL T n L) p k en M).length≤4000∧KnOk (T + n.toNat + 1) kn' (vN (apL T n L) p k en M))∨
    (y.2.2.2.1=true∧4000 < (vN (apL T n L) p k en M).length)) (fun m x hx=> ?_) (fun x hx=> ?_) en.length _ (by omega) (.inl ⟨0,kn,by omega,rfl,hl,hkn⟩)
 ·rcases hx with⟨i,kn',him,rfl,Gt,hk'⟩ | ⟨hx,hov⟩
  ·have hi:i < en.length:=by omega
   have hw:IntKind.i64.wrap ((i:Int) + 1)=((i + 1:Nat):Int):=jv hi (by omega)
   have hstep:vN (apL T n L) p k (en.take (i + 1)) M=Ir (vN (apL T n L) p k (en.take i) M) (mkN (apL T n L) p k en[i]):=by
    rw [List.take_add_one,List.getElem?_eq_getElem hi]
    simp only [vN,Option.toList,List.foldl_append,List.foldl_cons,List.foldl_nil]
   have hrest:vN (apL T n L) p k en M=vN (apL T n L) p k (en.drop (i + 1)) (vN (apL T n L) p k (en.take (i + 1)) M):=by
    simp only [vN,← List.foldl_append,List.take_append_drop]
   obtain⟨hMi,⟨t,ht,htl⟩,hpi⟩:=abq (A:=apL T n L) (E:=enL T n L) (k:=k) (rs:=en.take i) (fun r hr=>by rw [YE];exact List.mem_of_mem_take hr) hM hp
   rw [hstep]at hrest
   have hrm:=ac8 (A:=apL T n L) (p:=p) (k:=k) (en.drop (i + 1)) (Ir (vN (apL T n L) p k (en.take i) M) (mkN (apL T n L) p k en[i]))
   rw [← hrest]at hrm
   have hinv: ∀ kn2,(Ir (vN (apL T n L) p k (en.take i) M) (mkN (apL T n L) p k en[i])).length≤4000→KnOk (T + n.toNat + 1) kn2 (Ir (vN (apL T n L) p k (en.take i) M) (mkN (apL T n L) p k en[i]))→
     (∃ i' kn',i' + m=en.length∧((((i + 1:Nat):Int),(k:Int),en,false,(Ir (vN (apL T n L) p k (en.take i) M) (mkN (apL T n L) p k en[i])).map (fun e=>e.1.1),(Ir (vN (apL T n L) p k (en.take i) M) (mkN (apL T n L) p k en[i])).map (fun e=>e.2),kn2,sz,st',rs):mN)=((i':Int),(k:Int),en,false,(vN (apL T n L) p k (en.take i') M).map (fun e=>e.1.1),(vN (apL T n L) p k (en.take i') M).map (fun e=>e.2),kn',sz,st',rs)∧
      (vN (apL T n L) p k (en.take i') M).length≤4000∧KnOk (T + n.toNat + 1) kn' (vN (apL T n L) p k (en.take i') M)):=fun kn2 h1 h2=>
    ⟨i + 1,kn2,by omega,by rw [hstep],by rw [hstep];exact h1,by rw [hstep];exact h2⟩
   generalize vN (apL T n L) p k (en.take i) M=Mi at hMi hpi Gt hk' hrm hinv
   have hki:k < Mi.length:=(w7.1 hpi).1
   obtain⟨pv,pd,pl⟩:=aaE hK RX hMi k p hpi
   have hb:=Bp _ (List.getElem_mem hi)
   generalize hbi:en[i]=b at hb hrm hinv
   have h0:(bif ltI (i:Int) (en.length:Int)then !false else false)=true:=by rw [cK (by omega)];rfl
   have h3:ltI (i:Int) (en.length:Int)=true:=cK (by omega)
   have h4:leI 0 (i:Int)=true:=cw (by omega)
   have h5:ltN i en.length=true:=ip hi
   have ha0:ib (i:Int) en=b:=by
    unfold ib;rw [q8,List.getElem?_eq_getElem hi,hbi];rfl
   have ha1:nQ (k:Int) (Mi.map fun e=>e.1.1)=p.1.1:=by
    unfold nQ;rw [q8,List.getElem?_map,hpi];rfl
   have ha2:uh (k:Int) (Mi.map fun e=>e.2)=p.2:=by
    unfold uh;rw [q8,List.getElem?_map,hpi];rfl
   have ha3:BH (i:Int) (k:Int) en (Mi.map fun e=>e.2)=(mkN (apL T n L) p k b).2:=by
    unfold BH;rw [ha2,ha0];rfl
   obtain⟨a1,a2⟩:=akh hK hr pv.1 hb
   have hvn:=afM hK hb pv
   obtain⟨d1,d2,d3⟩:=ah5 (m:=T + n.toNat + 1) (by omega) hk' Gt (mkN (apL T n L) p k b) hvn.1
   have hv1:(mkN (apL T n L) p k b).1.1=apL T n L b p.1.1:=rfl
   rw [hv1]at d1 d2 d3
   have g4:leI 0 (k:Int)=true:=cw (by omega)
   have g5:ltI (k:Int) (Mi.length:Int)=true:=cK (by omega)
   have g6:ltN k Mi.length=true:=ip hki
   have l0:leN p.2.length 1048576=true:=iJ (by omega)
   have l1:leN (p.2.length + (0 + 1)) 9223372036854775807=true:=iJ (by omega)
   have l2:leN ((p.2.length + (0 + 1)) * 8) 140737488355328=true:=iJ (by omega)
   refine .inr ⟨_,by
    simp only [fM,xk,yL,Ji,OG,OH,Jj,Jk,Jl,OI,OJ,OK,NS,NT,NU,NV,NW,NX,NY,NZ,Oa,
    ha0,ha1,ha2,ha3,a1,a2,d1,LT.out,allT,hw,h0,h3,h4,h5,g4,g5,g6,l0,l1,l2,List.length_map,w3,w4,q8,Bool.not_false,cond_true];rfl,?_⟩
   rw [d2]
   rcases Nat.lt_or_ge 4000 (Ir Mi (mkN (apL T n L) p k b)).length with h6 | h6
   ·refine .inr ⟨iJ h6,?_⟩
    omega
   ·obtain⟨q1,q2,q3⟩:=d3 h6
    rw [q1,q2,show leN 4001 (Ir Mi (mkN (apL T n L) p k b)).length=false from Tj.2 (by omega)]
    exact .inl (hinv _ h6 q3)
  ·obtain⟨c,f,g,l,o,q,s,u,z,B⟩:=x
   simp only at hx
   subst hx
   refine .inl ⟨0,?_,.inr ⟨rfl,hov⟩⟩
   simp only [fM,xk,yL,LT.out,Bool.not_true,w6,cond_false]
 ·rcases hx with⟨i,kn',him,rfl,Gt,hk'⟩ | ⟨hx,hov⟩
  ·have:i=en.length:=by omega
   subst this
   have h3:ltI (en.length:Int) (en.length:Int)=false:=nA (by omega)
   rw [List.take_length]at Gt hk' ⊢
   refine⟨0,?_,.inl ⟨kn',en.length,rfl,Gt,hk'⟩⟩
   simp only [fM,xk,yL,LT.out,h3,cond_false]
  ·obtain⟨c,f,g,l,o,q,s,u,z,B⟩:=x
   simp only at hx
   subst hx
   refine⟨0,?_,.inr ⟨rfl,hov⟩⟩
   simp only [fM,xk,yL,LT.out,Bool.not_true,w6,cond_false]
theorem ajx{rs:List RuE}(hr:RuOf T n L rs)(sz st':al4){kn:al2}(hkn:KnOk (T + n.toNat + 1) kn (nM (enL T n L) (apL T n L) st 0)):
  jW.fin ((0:Int),false,(nM (enL T n L) (apL T n L) st 0).map (fun e=>e.1.1),(nM (enL T n L) (apL T n L) st 0).map (fun e=>e.2),kn,sz,st',rs)=true∧ ∃ j y,
  jW.res ((0:Int),false,(nM (enL T n L) (apL T n L) st 0).map (fun e=>e.1.1),(nM (enL T n L) (apL T n L) st 0).map (fun e=>e.2),kn,sz,st',rs)=(j,y)∧
   ∃ K,(∀ j,j < K→Bn (enL T n L) (apL T n L) st j)∧ ¬ Bn (enL T n L) (apL T n L) st K∧y.2.1=ltN K (nM (enL T n L) (apL T n L) st K).length∧
    (y.2.1=false→y.2.2.1=(nM (enL T n L) (apL T n L) st K).map (fun e=>e.1.1)∧y.2.2.2.1=(nM (enL T n L) (apL T n L) st K).map (fun e=>e.2)):=by
 refine jW.invM
  (fun m x=>(∃ k kn',k + m=4001∧(∀ j,j < k→Bn (enL T n L) (apL T n L) st j)∧x=((k:Int),false,(nM (enL T n L) (apL T n L) st k).map (fun e=>e.1.1),(nM (enL T n L) (apL T n L) st k).map (fun e=>e.2),kn',sz,st',rs)∧KnOk (T + n.toNat + 1) kn' (nM (enL T n L) (apL T n L) st k))∨
   (x.2.1=true∧ ∃ K,(∀ j,j < K→Bn (enL T n L) (apL T n L) st j)∧ ¬ Bn (enL T n L) (apL T n L) st K∧K < (nM (enL T n L) (apL T n L) st K).length))
  (fun _ y=> ∃ K,(∀ j,j < K→Bn (enL T n L) (apL T n L) st j)∧ ¬ Bn (enL T n L) (apL T n L) st K∧y.2.1=ltN K (nM (enL T n L) (apL T n L) st K).length∧
    (y.2.1=false→y.2.2.1=(nM (enL T n L) (apL T n L) st K).map (fun e=>e.1.1)∧y.2.2.2.1=(nM (enL T n L) (apL T n L) st K).map (fun e=>e.2)))
  (fun m x hx=> ?_) (fun x hx=> ?_) 4001 _ (by omega) (.inl ⟨0,kn,rfl,fun j hj=>by omega,rfl,hkn⟩)
 ·rcases hx with⟨k,kn',hkm,hg,rfl,hk'⟩ | ⟨hx,K,h1,h2,h3⟩
  ·have hM:=adQ (E:=enL T n L) (A:=apL T n L) st k
   have hl:=afP (K:=k) hg (Nat.le_refl _)
   rcases Nat.lt_or_ge k (nM (enL T n L) (apL T n L) st k).length with hk | hk
   ·have hX:nM (enL T n L) (apL T n L) st (k + 1)=Yg (enL T n L) (apL T n L) (nM (enL T n L) (apL T n L) st k) k:=rfl
    have hng:4000 < (nM (enL T n L) (apL T n L) st (k + 1)).length→ ¬ Bn (enL T n L) (apL T n L) st k:=fun h h'=>by have:=h'.2;omega
    have hgd:(nM (enL T n L) (apL T n L) st (k + 1)).length≤4000→ ∀ j,j < k + 1→Bn (enL T n L) (apL T n L) st j:=fun h j hj=>by
     rcases Nat.lt_or_ge j k with h' | h'
     ·exact hg j h'
     ·rw [show j=k by omega];exact⟨hk,h⟩
    have hk2:=hk
    rw [hX]at hng hgd
    have hinv: ∀ kn2,(Yg (enL T n L) (apL T n L) (nM (enL T n L) (apL T n L) st k) k).length≤4000→KnOk (T + n.toNat + 1) kn2 (Yg (enL T n L) (apL T n L) (nM (enL T n L) (apL T n L) st k) k)→
      ∃ k' kn',k' + m=4001∧(∀ j,j < k'→Bn (enL T n L) (apL T n L) st j)∧((((k + 1:Nat):Int),false,(Yg (enL T n L) (apL T n L) (nM (enL T n L) (apL T n L) st k) k).map (fun e=>e.1.1),(Yg (enL T n L) (apL T n L) (nM (enL T n L) (apL T n L) st k) k).map (fun e=>e.2),kn2,sz,st',rs):rr)=
       ((k':Int),false,(nM (enL T n L) (apL T n L) st k').map (fun e=>e.1.1),(nM (enL T n L) (apL T n L) st k').map (fun e=>e.2),kn',sz,st',rs)∧KnOk (T + n.toNat + 1) kn' (nM (enL T n L) (apL T n L) st k'):=
     fun kn2 h1 h2=>⟨k + 1,kn2,by omega,hgd h1,rfl,h2⟩
    have hov:4000 < (Yg (enL T n L) (apL T n L) (nM (enL T n L) (apL T n L) st k) k).length→ ∃ K,(∀ j,j < K→Bn (enL T n L) (apL T n L) st j)∧ ¬ Bn (enL T n L) (apL T n L) st K∧K < (nM (enL T n L) (apL T n L) st K).length:=
     fun h=>⟨k,hg,hng h,hk2⟩
    generalize nM (enL T n L) (apL T n L) st k=M at hM hl hk hinv hov hk'
    have hp:M[k]? =some M[k]:=List.getElem?_eq_getElem hk
    generalize M[k]=p at hp
    have hexp:Yg (enL T n L) (apL T n L) M k=vN (apL T n L) p k (enL T n L p.1.1) M:=by unfold Yg;rw [hp]
    rw [hexp]at hinv hov
    obtain⟨i1,j,y,i2,i3⟩:=akA hK RX hr sz st' hM hl hp hk'
    obtain⟨pv,_,_⟩:=aaE hK RX hM k p hp
    obtain⟨n1,n2⟩:=ako hK hr (sz:=sz) (st:=st') pv.1
    have ha0:Gp (k:Int) (M.map fun e=>e.1.1)=p.1.1:=by
     unfold Gp;rw [q8,List.getElem?_map,hp];rfl
    have ha1:Gq (k:Int) false (M.map fun e=>e.1.1) (M.map fun e=>e.2) kn' sz st' rs=
      ((0:Int),(k:Int),enL T n L p.1.1,false,M.map (fun e=>e.1.1),M.map (fun e=>e.2),kn',sz,st',rs):=by
     unfold Gq;rw [ha0,n1]
    have ha2:Gr (k:Int) false (M.map fun e=>e.1.1) (M.map fun e=>e.2) kn' sz st' rs=y.2.2.2:=by
     unfold Gr;rw [ha1,i2]
    have h0:(bif ltI (k:Int) (M.length:Int)then !false else false)=true:=by rw [cK (by omega)];rfl
    have h3:ltI (k:Int) (M.length:Int)=true:=cK (by omega)
    have h4:leI 0 (k:Int)=true:=cw (by omega)
    have h5:ltN k M.length=true:=ip hk
    have hw:IntKind.i64.wrap ((k:Int) + 1)=((k + 1:Nat):Int):=jv hk (by omega)
    refine .inr ⟨_,by
    simp only [jW,Bz,Dv,Sq,Sr,Ss,Su,Sv,Sw,Sx,Sy,Sz,Re,Mp,Mq,
     ha0,ha1,ha2,i1,n2,LT.out,allT,hw,h0,h3,h4,h5,List.length_map,q8,Bool.not_false,cond_true];rfl,?_⟩
    rcases i3 with⟨kn2,i,rfl,i4,i5⟩ | ⟨i4,i5⟩
    ·exact .inl (hinv _ i4 i5)
    ·exact .inr ⟨i4,hov i5⟩
   ·have h3:ltI (k:Int) ((nM (enL T n L) (apL T n L) st k).length:Int)=false:=nA (by omega)
    refine .inl ⟨0,?_,k,hg,fun h=>by have:=h.1;omega,?_,fun _=>⟨rfl,rfl⟩⟩
    ·simp only [jW,Bz,Dv,LT.out,List.length_map,h3,cond_false]
    ·symm;exact Zn.2 hk
  ·obtain⟨c,f,g,l,o,q,s,u⟩:=x
   simp only at hx
   subst hx
   refine .inl ⟨0,?_,K,h1,h2,(ip h3).symm,fun h=>by cases h⟩
   simp only [jW,Bz,Dv,LT.out,Bool.not_true,w6,cond_false]
 ·rcases hx with⟨k,kn',hkm,hg,rfl,hk'⟩ | ⟨hx,K,h1,h2,h3⟩
  ·have a:=(hg 4000 (by omega)).1
   have b:(nM (enL T n L) (apL T n L) st 4000).length≤4000:=(hg 3999 (by omega)).2
   omega
  ·obtain⟨c,f,g,l,o,q,s,u⟩:=x
   simp only at hx
   subst hx
   refine⟨0,?_,K,h1,h2,(ip h3).symm,fun h=>by cases h⟩
   simp only [jW,Bz,Dv,LT.out,Bool.not_true,w6,cond_false]
theorem akQ{rs:List RuE}(hr:RuOf T n L rs)(sz:al4){K:Nat}(hg: ∀ j,j < K→Bn (enL T n L) (apL T n L) st j)(hng: ¬ Bn (enL T n L) (apL T n L) st K):
  Co sz st rs=ltN K (nM (enL T n L) (apL T n L) st K).length∧
  (ltN K (nM (enL T n L) (apL T n L) st K).length=false→JD sz st rs=(nM (enL T n L) (apL T n L) st K).map (fun e=>e.1.1)∧JF sz st rs=(nM (enL T n L) (apL T n L) st K).map (fun e=>e.2))∧
  Fw sz st rs=true:=by
 have hT4:=hK.T4
 have hn8:=hK.n8
 have hl:=RX.1
 have hk0:KnOk (T + n.toNat + 1) [] []:=⟨⟨fun v h=>(List.not_mem_nil h).elim,List.Pairwise.nil⟩,fun w=>by simp [hasV],rfl⟩
 obtain⟨d1,d2,d3⟩:=ah5 (m:=T + n.toNat + 1) (by omega) hk0 (by simp) (nd0 st) hl
 have hq:Ir [] (nd0 st)=nM (enL T n L) (apL T n L) st 0:=rfl
 rw [hq]at d2 d3
 obtain⟨q1,q2,q3⟩:=d3 (by simp [nM])
 simp only [List.map_nil]at d1 d2 q1 q2 q3
 have hn0:(nd0 st).1.1=st:=rfl
 have hn2:(nd0 st).2= []:=rfl
 rw [hn0,hn2]at d1 q2
 rw [hn0]at d2 q1 q3
 have ha0:Mn sz st rs=((0:Int),false,(nM (enL T n L) (apL T n L) st 0).map (fun e=>e.1.1),(nM (enL T n L) (apL T n L) st 0).map (fun e=>e.2),yV st [] [],sz,st,rs):=by
  unfold Mn;rw [d2,q1,q2];rfl
 obtain⟨r1,j,y,r2,K',k1,k2,k3,k4⟩:=ajx hK RX hr sz st q3
 obtain rfl:=ahA hg hng k1 k2
 have l1:leN st.length 1048576=true:=iJ (by omega)
 refine⟨?_,fun h=> ?_,?_⟩
 ·simp only [Co,Mo,ha0,r2,k3]
 ·rw [k3]at k4
  have:=k4 h
  simp only [JD,JF,Mo,PV,PW,ha0,r2]
  exact this
 ·simp only [Fw,ha0,r1,d1,l1,allT,cond_true]
end
set_option maxHeartbeats 1000000
theorem agM(T:Nat)(n:Int)(xs:al1)(x:Int×Int×Int)(v:al4):XD T n (xs++ [x]) v=apE (XD T n xs v) (eK T n x):=by
 simp only [XD,List.foldl_append,List.foldl_cons,List.foldl_nil]
theorem adL(T:Nat)(n:Int)(x:Int×Int×Int): ∀ (xs:al1) (v:al4),ac2 T n (xs++ [x]) v=(ac2 T n xs v&&hoB (XD T n xs v) (gK T n x))
 | [],v=>by simp only [List.nil_append,ac2,XD,List.foldl_nil,Bool.and_true,Bool.true_and]
 |y::xs,v=>by
  simp only [List.cons_append,ac2,adL T n x xs,Bool.and_assoc]
  rfl
theorem ahn(n:Int): ∀ (es:al1) (s:al4×al4) (m:Nat),m≤es.length→(aaC n es s)[m]? =some (ZG n (es.take m) s).1
 | [],s,m,h=>by
  have:m=0:=by simpa using h
  subst this;rfl
 |e::es,s,0,_=>rfl
 |e::es,s,m + 1,h=>by
  simp only [w3]at h
  simp only [aaC,List.getElem?_cons_succ,List.take_succ_cons]
  exact ahn n es _ m (by omega)
theorem ab2(n:Int): ∀ (l:al2) (q:Nat) (j:Int),l.length=q + 1→0≤j→(∀ m p,l[m]? =some p→Uc n p=decide (m < q))→acO n l j (-1)=j + q
 | [],q,j,h,_,_=>by simp at h
 |p::l,0,j,h,h0,hp=>by
  simp only [w3]at h
  have:l= []:=List.length_eq_zero_iff.1 (by omega)
  subst this
  have:=hp 0 p rfl
  simp only [acO,afB,this]
  simp [ltI]
 |p::l,q + 1,j,h,h0,hp=>by
  simp only [w3]at h
  have h1:=hp 0 p rfl
  have h2:Uc n p=true:=by rw [h1];simp
  have h3:afB n j p (-1)= -1:=by simp only [afB,h2,Bool.not_true,w6,cond_false]
  simp only [acO,h3]
  rw [ab2 n l q (j + 1) (by omega) (by omega) (fun m p' hm=>by
   have:=hp (m + 1) p' (by rw [List.getElem?_cons_succ];exact hm)
   rw [this]
   rw [Bool.eq_iff_iff,decide_eq_true_iff,decide_eq_true_iff];omega)]
  omega
def unB(n:Int)(T:Nat)(v:al4):Bool:= !Lm n (v.take T)
theorem akV{n d:Int}{ps:al4}(h:isR n d ps=true):aeZ n ps.length d.toNat (rv0 n ps) d:=by
 obtain⟨hT,hd⟩:=LO.1 h
 obtain⟨h1,h2,h3⟩:=gB.1 hT
 refine⟨hT,rfl,by simp only [rv0,List.length_replicate];omega,fun x hx=> ?_,by omega⟩
 simp only [rv0,List.mem_replicate]at hx
 omega
theorem aiA{n d:Int}{s:Bool}{ps:al4}(h:isR n d ps=true):KndOk ps.length d.toNat n (kL ps.length n.toNat d.toNat s):=by
 obtain⟨hT,hd⟩:=LO.1 h
 obtain⟨h1,h2,h3⟩:=gB.1 hT
 have:=Se (s:=s) h
 exact⟨by omega,by omega,by omega,by omega,by omega,fun x hx=>agl hx⟩
theorem ajV{n d:Int}{ps:al4}(h:isR n d ps=true):vOk ps.length n (stM n d ps):=by
 obtain⟨hT,hd⟩:=LO.1 h
 obtain⟨h1,h2,h3⟩:=gB.1 hT
 refine⟨VZ n d ps,fun x hx=> ?_⟩
 simp only [stM,stV,List.mem_append,List.mem_replicate,List.mem_singleton]at hx
 rcases hx with hx | hx | hx
 ·have:=h3 x hx;omega
 ·omega
 ·omega
theorem afw{n d:Int}{s:Bool}{ps:al4}{M:List NdE}(h:SrOk (enL ps.length n (kL ps.length n.toNat d.toNat s)) (apL ps.length n (kL ps.length n.toNat d.toNat s)) (stM n d ps) M): ∀ (i:Nat) (e:NdE),M[i]? =some e→
  inK (kL ps.length n.toNat d.toNat s).length e.2=true∧ac2 ps.length n (e.2.map (atK (kL ps.length n.toNat d.toNat s))) (stM n d ps)=true∧XD ps.length n (e.2.map (atK (kL ps.length n.toNat d.toNat s))) (stM n d ps)=e.1.1∧
   ∀ m,m < e.2.length→ ∃ j p,j < i∧M[j]? =some p∧p.2=e.2.take m:=by
 refine h.ind (Q:=fun(i:Nat) (e:NdE)=>inK (kL ps.length n.toNat d.toNat s).length e.2=true∧ac2 ps.length n (e.2.map (atK (kL ps.length n.toNat d.toNat s))) (stM n d ps)=true∧XD ps.length n (e.2.map (atK (kL ps.length n.toNat d.toNat s))) (stM n d ps)=e.1.1∧
   ∀ m,m < e.2.length→ ∃ j p,j < i∧M[j]? =some p∧p.2=e.2.take m) ⟨rfl,rfl,rfl,fun m hm=>by simp [nd0]at hm⟩ (fun i j p r hji hp hQ hr _=> ?_)
 obtain⟨q1,q2,q3,q4⟩:=hQ
 obtain⟨r1,r2⟩:=aby hr
 refine⟨?_,?_,?_,fun m hm=> ?_⟩
 ·simp only [mkN,inK,List.all_append,List.all_cons,List.all_nil,Bool.and_true]
  rw [show (p.2.all fun b=>inR b 0 (((kL ps.length n.toNat d.toNat s).length:Int) - 1))=true from q1,Bool.true_and]
  exact sC.2 (by omega)
 ·simp only [mkN,List.map_append,List.map_cons,List.map_nil]
  rw [adL,q2,q3,r2];rfl
 ·simp only [mkN,List.map_append,List.map_cons,List.map_nil]
  rw [agM,q3];rfl
 ·simp only [mkN,q9,w3,w4]at hm
  rcases Nat.lt_or_ge m p.2.length with h1 | h1
  ·obtain⟨j',p',a1,a2,a3⟩:=q4 m h1
   refine⟨j',p',by omega,a2,?_⟩
   rw [a3];simp only [mkN]
   rw [List.take_append_of_le_length (by omega)]
  ·have:m=p.2.length:=by omega
   subst this
   exact⟨j,p,hji,hp,by simp [mkN]⟩
section
variable{n d:Int}{s:Bool}{ps:al4}(hR:isR n d ps=true)
include hR
theorem aiE{tr:al4}(BV:inK (kL ps.length n.toNat d.toNat s).length tr=true): ∀ x∈tr.map (atK (kL ps.length n.toNat d.toNat s)),kOk ps.length n.toNat d.toNat x:=by
 intro x hx
 obtain⟨b,hb,rfl⟩:=List.mem_map.1 hx
 have hb2:=sC.1 (List.all_eq_true.1 BV _ hb)
 exact(aiA hR).ofB (by omega)
theorem ai4{tr:al4}(BV:inK (kL ps.length n.toNat d.toNat s).length tr=true)(ho:ac2 ps.length n (tr.map (atK (kL ps.length n.toNat d.toNat s))) (stM n d ps)=true):
  (∀ e∈evW (kL ps.length n.toNat d.toNat s) tr,Qs n ps e=true)∧Xh n (evW (kL ps.length n.toNat d.toNat s) tr) (rv0 n ps)=true∧
  ∃ k,XD ps.length n (tr.map (atK (kL ps.length n.toNat d.toNat s))) (stM n d ps)=stV (ZG n (evW (kL ps.length n.toNat d.toNat s) tr) (rv0 n ps)) k∧aeZ n ps.length d.toNat (ZG n (evW (kL ps.length n.toNat d.toNat s) tr) (rv0 n ps)) k:=by
 obtain⟨e1,e2,k,e3,e4⟩:=afA (tr.map (atK (kL ps.length n.toNat d.toNat s))) (rv0 n ps) d (akV hR) (aiE hR BV) ho
 have hev:(tr.map (atK (kL ps.length n.toNat d.toNat s))).map evK=evW (kL ps.length n.toNat d.toNat s) tr:=by simp only [evW,List.map_map];rfl
 rw [hev]at e1 e2 e3 e4
 exact⟨e1,e2,k,e3,e4⟩
theorem acH{M:List NdE}(h:SrOk (enL ps.length n (kL ps.length n.toNat d.toNat s)) (apL ps.length n (kL ps.length n.toNat d.toNat s)) (stM n d ps) M){i:Nat}{e:NdE}(he:M[i]? =some e):
  e.1.1.take ps.length=(ZG n (evW (kL ps.length n.toNat d.toNat s) e.2) (rv0 n ps)).1∧isT n (e.1.1.take ps.length)=true∧ps.length≤e.1.1.length:=by
 obtain⟨q1,q2,q3,_⟩:=afw h i e he
 obtain⟨_,_,k,e3,e4⟩:=ai4 hR q1 q2
 obtain⟨g1,g2,_⟩:=e4
 have:e.1.1.take ps.length=(ZG n (evW (kL ps.length n.toNat d.toNat s) e.2) (rv0 n ps)).1:=by
  rw [← q3,e3,stV,List.take_append_of_le_length (by omega),List.take_of_length_le (by omega)]
 rw [this]
 refine⟨rfl,g1,?_⟩
 rw [← q3,e3,ajW,g2];omega
theorem ad0{M:List NdE}(h:SrOk (enL ps.length n (kL ps.length n.toNat d.toNat s)) (apL ps.length n (kL ps.length n.toNat d.toNat s)) (stM n d ps) M){i:Nat}{e:NdE}(he:M[i]? =some e)(hu:unB n ps.length e.1.1=true)
  (hf: ∀ j p,j < i→M[j]? =some p→unB n ps.length p.1.1=false) (hl:e.2.length≤200):
  OD n d s ps e.2=0∧evE n d s ps e.2=evW (kL ps.length n.toNat d.toNat s) e.2∧Jh n ps (evW (kL ps.length n.toNat d.toNat s) e.2)=0∧rvF n ps (evW (kL ps.length n.toNat d.toNat s) e.2)=(e.2.length:Int):=by
 obtain⟨hT,hd⟩:=LO.1 hR
 obtain⟨q1,q2,q3,q4⟩:=afw h i e he
 obtain⟨t1,t2,k,t3,t4⟩:=ai4 hR q1 q2
 have jw:(evW (kL ps.length n.toNat d.toNat s) e.2).length=e.2.length:=by simp only [evW,List.length_map]
 have hc:OD n d s ps e.2=0:=by simp only [OD,hR,iJ hl,q1,cond_true]
 have hpre:PJ n ps (evW (kL ps.length n.toNat d.toNat s) e.2)=0:=by
  have a1:leN (evW (kL ps.length n.toNat d.toNat s) e.2).length 200=true:=iJ (by rw [jw];exact hl)
  have a2:(evW (kL ps.length n.toNat d.toNat s) e.2).all (Qs n ps)=true:=List.all_eq_true.2 t1
  simp only [PJ,hT,a1,a2,cond_true]
 have hcode:Jh n ps (evW (kL ps.length n.toNat d.toNat s) e.2)=0:=by simp only [Jh,hpre,t2,show eqI 0 0=true from rfl,cond_true]
 have hg:PI n ps (evW (kL ps.length n.toNat d.toNat s) e.2)=true:=by simp only [PI,hcode,show eqI 0 0=true from rfl]
 refine⟨hc,by simp only [evE,hc,show eqI 0 0=true from rfl,cond_true],hcode,?_⟩
 simp only [rvF,hg,cond_true]
 rw [ab2 n _ e.2.length 0 (by rw [QP,jw]) (Int.le_refl _) (fun m p hm=> ?_)]
 ·omega
 ·have hml:m < e.2.length + 1:=by
   have:=(w7.1 hm).1
   rw [QP,jw]at this
   exact this
  have hev: ∀ m,(evW (kL ps.length n.toNat d.toNat s) e.2).take m=evW (kL ps.length n.toNat d.toNat s) (e.2.take m):=fun m=>by simp only [evW,List.map_take]
  rw [ahn n _ _ m (by rw [jw];omega),hev,Option.some.injEq]at hm
  rcases Nat.lt_or_ge m e.2.length with h1 | h1
  ·obtain⟨j,p',a1,a2,a3⟩:=q4 m h1
   obtain⟨b1,b2,_⟩:=acH hR h a2
   have hsf:=hf j p' a1 a2
   rw [← a3]at hm
   rw [b1]at b2
   rw [unB,b1]at hsf
   rw [← hm,Uc,b2]
   simpa [h1] using hsf
  ·have:m=e.2.length:=by omega
   subst this
   rw [List.take_length]at hm
   obtain⟨b1,b2,_⟩:=acH hR h he
   rw [b1]at b2
   rw [unB,b1]at hu
   rw [← hm,Uc,b2]
   simpa using hu
end
def rp(a b:Int)(c:al4):Bool:= !cO a b c
def rq(a:Int)(b:al4):Bool:=allT [cP a b]
def rm:al6
 | [.one ⟨true,[.val (.int .i64 a),.val (.int .i64 b),.val (.bool _x2)]⟩,.one ⟨false,[.ptr 0 0]⟩],[.box 94 [.ref 1,.ref 2,.ref 3],.row false 2 (.int .i64) c,.row false 2 (.int .i64) d,.row false 70 (.pair .str (.pair (.sl 125 (.pair (.int .i64) (.pair (.int .i64) .bool))) (.sl 129 (.pair (.int .i64) (.int .i64))))) e]=>some ⟨al8 (.val (.bool (rp a b c))),[.box 94 [.ref 1,.ref 2,.ref 3],ama c,ama d,amc e],[],[rq a c]⟩
 |_,_=>none
def ct:PF prog:=PF.ofG prog (T3z [ae]) [] aS 94 f94 func94 (fun c _=>LOk.nil c) rm (by
 intro _ _ _ h;unfold rm at h;split at h<;>cases h;kernel_rfl)
abbrev cE:=Int×Int×List (Int×(Int×Bool))×List Int×List Int×List (al5×((List (Int×(Int×Bool)))×(List (Int×Int))))
section
variable (a b:Int)(c:agb)(d:al4)
def qY:Int×Int×Bool:=Option.getD c[w8 a]? ((0:Int),(0:Int),false)
def xU:Bool:=ltI a b
def HQ:Bool:=leI 0 a
def HR:Bool:=ltI a (↑c.length:Int)
def HS:Bool:=ltN a.toNat c.length
def HT:Bool:=rq ((qY a c).1) d
def HU:Bool:=rp ((qY a c).1) (((qY a c).2).1) d
def HV:Int:=IntKind.wrap .i64 (a + (1:Int))
end
def GM:cE→List (Nat×SV)
 |(a,b,_,_,_,_)=> [(8,(al9 a)),(7,(al9 b)),(1,(al8 (.clo 94 [0]))),(0,(al8 (.ref 1)))]
def GI:cE→List (Nat×Entry)
 |(_,_,a,b,c,d)=> [(0,(.box 94 [.ref 2,.ref 3,.ref 4])),(1,(amd a)),(2,(ama b)),(3,(ama c)),(4,(amc d))]
def GY:Nat→cE→List (Nat×SV)
 |0,(a,_,_,_,_,_)=> [(4,(al9 a))]
 |_,_=>[]
def xh:cE→LT cE
 |(a,b,c,d,e,f)=> .ite (xU a b) (.need [HQ a,HR a c,HS a c,HT a c d] (.ite (HU a c d) (.ext 0 [(0,0),(1,1),(2,2),(3,3),(4,4)]) (.nrm ((HV a),b,c,d,e,f) [(0,0),(1,1),(2,2),(3,3),(4,4)]))) (.ext 1 [(0,0),(1,1),(2,2),(3,3),(4,4)])
def qW(s:St):Option cE:=do
 let some ⟨none,.one ⟨false,[.val (.int .i64 a)]⟩⟩:=s.look 8|none
 let some ⟨none,.one ⟨false,[.val (.int .i64 b)]⟩⟩:=s.look 7|none
 let some ⟨none,.one ⟨false,[.clo 94 [1]]⟩⟩:=s.look 1|none
 let some ⟨none,.one ⟨false,[.ref 0]⟩⟩:=s.look 0|none
 let some (.box 94 [.ref 2,.ref 3,.ref 4]):=s.ent 1|none
 let some (.row false 125 (.pair (.int .i64) (.pair (.int .i64) .bool)) c):=s.ent 0|none
 let some (.row false 2 (.int .i64) d):=s.ent 2|none
 let some (.row false 2 (.int .i64) e):=s.ent 3|none
 let some (.row false 70 (.pair .str (.pair (.sl 125 (.pair (.int .i64) (.pair (.int .i64) .bool))) (.sl 129 (.pair (.int .i64) (.int .i64))))) f):=s.ent 4|none
 some (a,b,c,d,e,f)
def bM:Lp cE where
 h:=⟨[9,10,5,11,12,13,14,15,16,17,4,18,8],[0,1,2,3,4],[],[]⟩
 JL:=GM
 JE:=GI
 XL:=GY
 XE:=fun _=>GI
 q:=fun j=>match j with | 0=> .ret | _=> .exit 0
 tags:= [0,1]
 lt:=xh
 fuel:=fun(a,b,c,d,e,f)=>a.natAbs + b.natAbs + c.length + d.length + e.length + f.length
 fix:=fun(_,b,c,d,e,f) (a,_,_,_,_,_)=>(a,b,c,d,e,f)
 σ:= [(0,1),(1,0),(2,2),(3,3),(4,4)]
 rd:=qW
theorem FT:LoopOk prog (fun k=>Nat.blt k Tryz.f110.ntmps) bM.F (aI f110 0):=by
 refine Lp.ok (tbl:= (T3z [ct])) (lf:= []) aS bM (by kernel_rfl) (LOk.nil _) (fun _=>rfl) (fun j _=>by unfold bM;match j with | 0=>rfl | _ + 1=>rfl) ?_ ?_ ?_ ?_ (fun _=>rfl) ?_
 ·intro _;kernel_rfl
 ·intro _;kernel_rfl
 ·intro s x h
  have h:qW s=some x:=h
  unfold qW at h
  repeat' split at h
  all_goals cases h
  constructor<;>repeat(first|refine aa ‹_› rfl ?_|refine ab rfl ‹_› rfl ?_|rfl)
 ·intro _;kernel_rfl
 ·intro _ _;exact(And.intro (And.intro trivial rfl) trivial)
section
variable (a:al0)(b c:al4)(d:aeT)
def jJ:Int×Int×al0×al4×al4×aeT:=((0:Int),(↑a.length:Int),a,b,c,d)
def tx:Int:=bif Nat.beq ((Lp.res bM (jJ a b c d)).1) 0 then ((Lp.res bM (jJ a b c d)).2).1else(-1:Int)
def tz:Bool:=allT [Lp.fin bM (jJ a b c d)]
end
def zj:al6
 | [.one ⟨false,[.ref 0]⟩,.one ⟨false,[.clo 94 [1]]⟩],[.row false 125 (.pair (.int .i64) (.pair (.int .i64) .bool)) a,.box 94 [.ref 2,.ref 3,.ref 4],.row false 2 (.int .i64) b,.row false 2 (.int .i64) c,.row false 70 (.pair .str (.pair (.sl 125 (.pair (.int .i64) (.pair (.int .i64) .bool))) (.sl 129 (.pair (.int .i64) (.int .i64))))) d]=>some ⟨al9 (tx a b c d),[amd a,.box 94 [.ref 2,.ref 3,.ref 4],ama b,ama c,amc d],[],[tz a b c d]⟩
 |_,_=>none
def tn:PF prog:=PF.ofG prog (T3z [ct]) [bM.F] aS 110 f110 func110 (LOk.fnT (l:= [aI f110 0]) (by kernel_rfl) (.cons FT (.nil _))) zj (by
 intro _ _ _ h;unfold zj at h;split at h<;>cases h;kernel_rfl)
def rO(a:al0)(b c:al4)(d:aeT):Bool:=leI 0 (tx a b c d)
def rP(a:al0)(b c:al4)(d:aeT):Bool:=allT [tz a b c d]
def xL:al6
 | [.one ⟨false,[.ref 0]⟩,.one ⟨false,[.clo 94 [1]]⟩],[.row false 125 (.pair (.int .i64) (.pair (.int .i64) .bool)) a,.box 94 [.ref 2,.ref 3,.ref 4],.row false 2 (.int .i64) b,.row false 2 (.int .i64) c,.row false 70 (.pair .str (.pair (.sl 125 (.pair (.int .i64) (.pair (.int .i64) .bool))) (.sl 129 (.pair (.int .i64) (.int .i64))))) d]=>some ⟨al8 (.val (.bool (rO a b c d))),[amd a,.box 94 [.ref 2,.ref 3,.ref 4],ama b,ama c,amc d],[],[rP a b c d]⟩
 |_,_=>none
def rE:PF prog:=PF.ofG prog (T3z [tn]) [] aS 93 f93 func93 (fun c _=>LOk.nil c) xL (by
 intro _ _ _ h;unfold xL at h;split at h<;>cases h;kernel_rfl)
section
variable (a b:al4)(c:aeT)(d:al0)
def oa:Bool:=leI (↑d.length:Int) 24
def dr:Bool:=bif oa d then !rO d a b c else false
def jO:Bool:=allT [!(oa d&&true)||rP d a b c]
end
def vt:al6
 | [.one ⟨true,[.ref 0,.ref 1,.ref 2]⟩,.one ⟨false,[.ref 3]⟩],[.row false 2 (.int .i64) a,.row false 2 (.int .i64) b,.row false 70 (.pair (.str) (.pair (.sl 125 (.pair (.int .i64) (.pair (.int .i64) (.bool)))) (.sl 129 (.pair (.int .i64) (.int .i64))))) c,.row false 125 (.pair (.int .i64) (.pair (.int .i64) (.bool))) d]=>some ⟨al8 (.val (.bool (dr a b c d))),[ama a,ama b,aml c,amd d],[],[jO a b c d]⟩
 |_,_=>none
def oA:PF prog:=PF.ofG prog (T3z [rE]) [] aS 69 f69 func69 (fun c _=>LOk.nil c) vt (by
 intro _ _ _ h;unfold vt at h;split at h<;>cases h;kernel_rfl)
section
variable (a b:al4)(c:aeT)(d:al0)
def Iu:Int:=bif !xg a b c then(1:Int)else bif !dr a b c d then(2:Int)else bif !gp a b c then(3:Int)else(0:Int)
def Iv:afG:=bif !xg a b c then []else bif !dr a b c d then []else bif !gp a b c then []else ky a b c
def Iw:Bool:=allT [He a b c,!xg a b c||jO a b c d,!xg a b c||(!dr a b c d||kz a b c)]
end
def Ow:al6
 | [.one ⟨true,[.ref 0,.ref 1,.ref 2]⟩,.one ⟨false,[.ref 3]⟩],[.row false 2 (.int .i64) a,.row false 2 (.int .i64) b,.row false 70 (.pair (.str) (.pair (.sl 125 (.pair (.int .i64) (.pair (.int .i64) (.bool)))) (.sl 129 (.pair (.int .i64) (.int .i64))))) c,.row false 125 (.pair (.int .i64) (.pair (.int .i64) (.bool))) d]=>some ⟨.tup [⟨false,[.ref 4]⟩,⟨false,[al7 (Iu a b c d)]⟩],[ama a,ama b,aml c,amd d],[amo (Iv a b c d)],[Iw a b c d]⟩
 |_,_=>none
def II:PF prog:=PF.ofG prog (T3z [Pv,oA,pN]) [] aS 45 f45 func45 (fun c _=>LOk.nil c) Ow (by
 intro _ _ _ h;unfold Ow at h;split at h<;>cases h;kernel_rfl)
section
variable (a b:Int)(c:Bool)(d:al4)
def mO:Bool:=Fc a b d !=0
def yp:al4:=bif isR a b d then szM d.length a b.toNat else []
def yq:al4:=bif isR a b d then stM a b d else []
def yt:aeT:=bif isR a b d then List.map (ruK d.length a) (kL d.length a.toNat b.toNat c)else []
def qF:Int:=bif mO a b d then Fc a b d else Iu (yp a b d) (yq a b d) (yt a b c d) []
def nY:afG:=bif mO a b d then []else Iv (yp a b d) (yq a b d) (yt a b c d) []
def zr:Bool:=allT [mO a b d||Iw (yp a b d) (yq a b d) (yt a b c d) []]
end
def Pb:al6
 | [.one ⟨true,[.val (.int .i64 a),.ref 0]⟩,.one ⟨false,[.val (.int .i64 b)]⟩,.one ⟨false,[.val (.bool c)]⟩],[.row false 2 (.int .i64) d]=>some ⟨.tup [⟨false,[.ref 1]⟩,⟨false,[al7 (qF a b c d)]⟩],[ama d],[amo (nY a b c d)],[zr a b c d]⟩
 |_,_=>none
def Ks:PF prog:=PF.ofG prog [MY,PF.lend MY,PF.fz MY,PF.nilD 125 (.pair (.int .i64) (.pair (.int .i64) (.bool))) II,PF.lend (PF.nilD 125 (.pair (.int .i64) (.pair (.int .i64) (.bool))) II),PF.fz (PF.nilD 125 (.pair (.int .i64) (.pair (.int .i64) (.bool))) II)] [] aS 23 f23 func23 (fun c _=>LOk.nil c) Pb (by
 intro _ _ _ h;unfold Pb at h;split at h<;>cases h;kernel_rfl)
def li(a:Int)(b c:al4):Bool:= !Lm a (eo b c)
def lj(a:Int)(b c:al4):Bool:=allT [ng b c,isT a (eo b c)]
def rn:al6
 | [.one ⟨true,[.val (.int .i64 a),.ref 0]⟩,.one ⟨false,[.ref 1]⟩],[.row false 2 (.int .i64) b,.row false 2 (.int .i64) c]=>some ⟨al8 (.val (.bool (li a b c))),[ama b,ama c],[],[lj a b c]⟩
 |_,_=>none
def lk:PF prog:=PF.ofG prog (T3z [bq,nj]) [] aS 25 f25 func25 (fun c _=>LOk.nil c) rn (by
 intro _ _ _ h;unfold rn at h;split at h<;>cases h;kernel_rfl)
def yQ(a:al4)(b:Int)(c:al4):Bool:=li b c a
def yR(a:al4)(b:Int)(c:al4):Bool:=allT [lj b c a]
def Lu:al6
 | [.one ⟨true,[.ref 0,.val (.int .i64 _x0),.val (.int .i64 _x1),.val (.int .i64 _x2)]⟩,.one ⟨false,[.ptr 1 0]⟩],[.row false 2 (.int .i64) a,.box 58 [.bnd 25 [(0,some (.int .i64 b)),(2,none)]],.row false 2 (.int .i64) c]=>some ⟨al8 (.val (.bool (yQ a b c))),[ama a,.box 58 [.bnd 25 [(0,some (.int .i64 b)),(2,none)]],ama c],[],[yR a b c]⟩
 |_,_=>none
def rz:PF prog:=PF.ofG prog (T3z [lk]) [] aS 47 f47 func47 (fun c _=>LOk.nil c) Lu (by
 intro _ _ _ h;unfold Lu at h;split at h<;>cases h;kernel_rfl)
abbrev db:=Int×Int×Int×List ((List Int)×(Int×(Int×Int)))×List Int
section
variable (a b c:Int)(d:afG)(e:al4)
def fS:al4:=(Option.getD d[w8 a]? (sW aa9)).1
def og:Bool:=ltI a b
def tA:Bool:=leI 0 a
def tB:Bool:=ltI a (↑d.length:Int)
def tC:Bool:=ltN a.toNat d.length
def tD:Bool:=yR (fS a d) c e
def tE:Bool:=yQ (fS a d) c e
def tF:Int:=IntKind.wrap .i64 (a + (1:Int))
end
def Jv:db→List (Nat×SV)
 |(a,b,_,_,_)=> [(8,(al9 a)),(7,(al9 b)),(1,(al8 (.clo 47 [0]))),(0,(al8 (.ref 1)))]
def Ju:db→List (Nat×Entry)
 |(_,_,a,b,c)=> [(0,(.box 58 [.bnd 25 [(0,some (.int .i64 a)),(2,none)]])),(1,(.row false 100 aa9 b)),(2,(ama c))]
def JA:Nat→db→List (Nat×SV)
 |0,(a,_,_,_,_)=> [(4,(al9 a))]
 |_,_=>[]
def nB:db→LT db
 |(a,b,c,d,e)=> .ite (og a b) (.need [tA a,tB a d,tC a d,tD a c d e] (.ite (tE a c d e) (.ext 0 [(0,0),(1,1),(2,2)]) (.nrm ((tF a),b,c,d,e) [(0,0),(1,1),(2,2)]))) (.ext 1 [(0,0),(1,1),(2,2)])
def sS(s:St):Option db:=do
 let some ⟨none,.one ⟨false,[.val (.int .i64 a)]⟩⟩:=s.look 8|none
 let some ⟨none,.one ⟨false,[.val (.int .i64 b)]⟩⟩:=s.look 7|none
 let some ⟨none,.one ⟨false,[.clo 47 [1]]⟩⟩:=s.look 1|none
 let some ⟨none,.one ⟨false,[.ref 0]⟩⟩:=s.look 0|none
 let some (.box 58 [.bnd 25 [(0,some (.int .i64 c)),(2,none)]]):=s.ent 1|none
 let some (.row false 100 (.pair (.sl 2 (.int .i64)) (.pair (.int .i64) (.pair (.int .i64) (.int .i64)))) d):=s.ent 0|none
 let some (.row false 2 (.int .i64) e):=s.ent 2|none
 some (a,b,c,d,e)
def bi:Lp db where
 h:=⟨[9,10,5,11,12,13,14,15,16,17,4,18,8],[0,1,2],[],[]⟩
 JL:=Jv
 JE:=Ju
 XL:=JA
 XE:=fun _=>Ju
 q:=fun j=>match j with | 0=> .ret | _=> .exit 0
 tags:= [0,1]
 lt:=nB
 fuel:=fun(a,b,c,d,e)=>a.natAbs + b.natAbs + c.natAbs + d.length + e.length
 fix:=fun(_,b,c,d,e) (a,_,_,_,_)=>(a,b,c,d,e)
 σ:= [(0,1),(1,0),(2,2)]
 rd:=sS
theorem HN:LoopOk prog (fun k=>Nat.blt k Tryz.f46.ntmps) bi.F (aI f46 0):=by
 refine Lp.ok (tbl:= (T3z [rz])) (lf:= []) aS bi (by kernel_rfl) (LOk.nil _) (fun _=>rfl) (fun j _=>by unfold bi;match j with | 0=>rfl | _ + 1=>rfl) ?_ ?_ ?_ ?_ (fun _=>rfl) ?_
 ·intro _;kernel_rfl
 ·intro _;kernel_rfl
 ·intro s x h
  have h:sS s=some x:=h
  unfold sS at h
  repeat' split at h
  all_goals cases h
  constructor<;>repeat(first|refine aa ‹_› rfl ?_|refine ab rfl ‹_› rfl ?_|rfl)
 ·intro _;kernel_rfl
 ·intro _ _;exact(And.intro (And.intro trivial rfl) trivial)
section
variable (a:af7)(b:Int)(c:al4)
def lO:Int×Int×Int×af7×al4:=((0:Int),(↑a.length:Int),b,a,c)
def uX:Bool:=Nat.beq ((Lp.res bi (lO a b c)).1) 0
def vP:Int:=bif uX a b c then ((Lp.res bi (lO a b c)).2).1else(-1:Int)
def Mw:Int:=bif uX a b c then b else b
def vQ:Bool:=allT [Lp.fin bi (lO a b c)]
end
def Cp:al6
 | [.one ⟨false,[.ref 0]⟩,.one ⟨false,[.clo 47 [1]]⟩],[.row false 100 (.pair (.sl 2 (.int .i64)) (.pair (.int .i64) (.pair (.int .i64) (.int .i64)))) a,.box 58 [.bnd 25 [(0,some (.int .i64 b)),(2,none)]],.row false 2 (.int .i64) c]=>some ⟨al9 (vP a b c),[ams a,.box 58 [.bnd 25 [(0,some (.int .i64 (Mw a b c))),(2,none)]],ama c],[],[vQ a b c]⟩
 |_,_=>none
def vO:PF prog:=PF.ofG prog (T3z [rz]) [bi.F] aS 46 f46 func46 (LOk.fnT (l:= [aI f46 0]) (by kernel_rfl) (.cons HN (.nil _))) Cp (by
 intro _ _ _ h;unfold Cp at h;split at h<;>cases h;kernel_rfl)
def Dm(a:af7)(b:Int)(c:al4):Int:=vP a b c
def LF(a:af7)(b:Int)(c:al4):Bool:=allT [vQ a b c]
def Ut:al6
 | [.one ⟨false,[.ref 0]⟩,.one ⟨false,[.bnd 25 [(0,some (.int .i64 b)),(1,none)]]⟩],[.row false 100 (.pair (.sl 2 (.int .i64)) (.pair (.int .i64) (.pair (.int .i64) (.int .i64)))) a,.row false 2 (.int .i64) c]=>some ⟨al9 (Dm a b c),[ams a,ama c],[],[LF a b c]⟩
 |_,_=>none
def Pw:PF prog:=PF.ofG prog (T3z [vO]) [] aS 24 f24 func24 (fun c _=>LOk.nil c) Ut (by
 intro _ _ _ h;unfold Ut at h;split at h<;>cases h;kernel_rfl)
section
variable (a b:Int)(c:Bool)(d:al4)
def bB:Bool:=qF a b c d !=0
def gT:Bool:=ltI (Dm (nY a b c d) a d) 0
def impl_FirstUnsafeTrace_0:Int:=bif bB a b c d then qF a b c d else bif gT a b c d then(4:Int)else(0:Int)
def impl_FirstUnsafeTrace_1:al4:=bif bB a b c d then []else bif gT a b c d then []else LL (Dm (nY a b c d) a d) (nY a b c d)
def ek:Bool:=allT [zr a b c d,bB a b c d||LF (nY a b c d) a d,bB a b c d||(gT a b c d||LM (Dm (nY a b c d) a d) (nY a b c d))]
end
def La:al6
 | [.one ⟨true,[.val (.int .i64 a),.ref 0]⟩,.one ⟨false,[.val (.int .i64 b)]⟩,.one ⟨false,[.val (.bool c)]⟩],[.row false 2 (.int .i64) d]=>some ⟨.tup [⟨false,[.ref 1]⟩,⟨false,[al7 (impl_FirstUnsafeTrace_0 a b c d)]⟩],[ama d],[amb (impl_FirstUnsafeTrace_1 a b c d)],[ek a b c d]⟩
 |_,_=>none
def Dq:PF prog:=PF.ofG prog (T3z [Ks,Pw,Px]) [] aS 12 f12 func12 (fun c _=>LOk.nil c) La (by
 intro _ _ _ h;unfold La at h;split at h<;>cases h;kernel_rfl)
section
variable (a b:Int)(c:Bool)(d:al4)
def LD:Bool:=impl_FirstUnsafeTrace_0 a b c d !=0
def Ay:Int:=bif LD a b c d then impl_FirstUnsafeTrace_0 a b c d else OD a b c d (impl_FirstUnsafeTrace_1 a b c d)
def sH:ag5:=bif LD a b c d then []else evE a b c d (impl_FirstUnsafeTrace_1 a b c d)
def Az:Bool:=allT [ek a b c d]
end
def My:al6
 | [.one ⟨true,[.val (.int .i64 a),.ref 0]⟩,.one ⟨false,[.val (.int .i64 b)]⟩,.one ⟨false,[.val (.bool c)]⟩],[.row false 2 (.int .i64) d]=>some ⟨.tup [⟨false,[.ref 1]⟩,⟨false,[al7 (Ay a b c d)]⟩],[ama d],[amj (sH a b c d)],[Az a b c d]⟩
 |_,_=>none
def FU:PF prog:=PF.ofG prog (T3z [Dq,Hj]) [] aS 6 f6 func6 (fun c _=>LOk.nil c) My (by
 intro _ _ _ h;unfold My at h;split at h<;>cases h;kernel_rfl)
set_option maxHeartbeats 1000000
theorem akN(l:al4)(hl:l.length≤100000):tb l=l.reverse∧tc l=true:=by
 have hw0:IntKind.i64.wrap ((l.length:Int) - 1)=(l.length:Int) - 1:=aB (by omega) (by omega)
 have key:=cU.invM
  (fun k x=> ∃ (i:Nat) (l':al4),x=((i:Int),(l.length:Int) - 1 - i,l')∧l'.length=l.length∧2 * i≤l.length∧i + k=l.length∧ ∀ q,q < l.length→l'[q]? =if q < i∨l.length - i≤q then l[l.length - 1 - q]? else l[q]?)
  (fun _ x=>x.2.2=l.reverse) (fun k x hx=> ?_) (fun x hx=> ?_) l.length ((0:Int),(l.length:Int) - 1,l) (by omega) ⟨0,l,by simp,rfl,by omega,by omega,fun q hq=>by simp;omega⟩
 ·obtain⟨k1,j,y,k2,k3⟩:=key
  have ha0:sF l=((0:Int),(l.length:Int) - 1,l):=by unfold sF;rw [hw0]
  simp only [tb,tc,ha0,k1,k2,k3,allT,cond_true,and_self]
 ·obtain⟨i,l',rfl,hl',h2,hk,hq⟩:=hx
  rcases Nat.lt_or_ge (2 * i + 1) l.length with gm | hge
  ·obtain⟨jn,hj⟩: ∃ jn:Nat,jn=l.length - 1 - i:=⟨_,rfl⟩
   have hjI:(l.length:Int) - 1 - i=(jn:Int):=by omega
   have Yk:i < jn:=by omega
   have hjl:jn < l.length:=by omega
   have hil:i < l.length:=by omega
   rw [hjI]
   have h0:ltI (i:Int) (jn:Int)=true:=cK (by omega)
   have h1:leI 0 (jn:Int)=true:=cw (by omega)
   have h3:ltI (jn:Int) (l'.length:Int)=true:=cK (by omega)
   have h4:ltN jn l'.length=true:=ip (by omega)
   have h5:leI 0 (i:Int)=true:=cw (by omega)
   have h6:ltI (i:Int) (l'.length:Int)=true:=cK (by omega)
   have h7:ltN i l'.length=true:=ip (by omega)
   have hw:IntKind.i64.wrap ((i:Int) + 1)=((i + 1:Nat):Int):=jv hil (by omega)
   have hw2:IntKind.i64.wrap ((jn:Int) - 1)=(jn:Int) - 1:=aB (by omega) (by omega)
   refine .inr ⟨(((i + 1:Nat):Int),(jn:Int) - 1,(l'.set i (l'[jn]?.getD 0)).set jn (l'[i]?.getD 0)),?_,i + 1,(l'.set i (l'[jn]?.getD 0)).set jn (l'[i]?.getD 0),?_,?_,by omega,by omega,fun q hq'=> ?_⟩
   ·simp only [qa,qq,vR,Cs,Ct,vS,vT,vU,Cu,Cv,Cw,BB,BC,pU,cU,LT.out,allT,hw,hw2,h0,h1,h3,h4,h5,h6,h7,List.length_set,q8,cond_true]
   ·have:(l.length:Int) - 1 - ((i + 1:Nat):Int)=(jn:Int) - 1:=by omega
    rw [this]
   ·simp only [List.length_set,hl']
   ·have e1:=hq jn hjl
    have e2:=hq i hil
    rw [if_neg (by omega)]at e1 e2
    simp only [List.getElem?_set,List.length_set,hl',e1,e2]
    by_cases c1:jn=q
    ·subst c1
     simp only [if_true,hjl]
     rw [if_pos (by omega),show l.length - 1 - jn=i by omega,List.getElem?_eq_getElem hil];rfl
    ·rw [if_neg c1]
     by_cases c2:i=q
     ·subst c2
      simp only [if_true,hil]
      rw [if_pos (by omega),show l.length - 1 - i=jn by omega,List.getElem?_eq_getElem hjl];rfl
     ·rw [if_neg c2,hq q hq']
      by_cases c3:q < i∨l.length - i≤q
      ·rw [if_pos c3,if_pos (by omega)]
      ·rw [if_neg c3,if_neg (by omega)]
  ·have h0:ltI (i:Int) ((l.length:Int) - 1 - i)=false:=nA (by omega)
   refine .inl ⟨0,?_,?_⟩
   ·simp only [cU,pU,qq,LT.out,h0,cond_false]
   ·refine List.ext_getElem? fun q=> ?_
    rcases Nat.lt_or_ge q l.length with c | c
    ·rw [hq q c,List.getElem?_reverse c]
     by_cases c3:q < i∨l.length - i≤q
     ·rw [if_pos c3]
     ·rw [if_neg c3];congr 1;omega
    ·have e1:l'[q]? =none:=List.getElem?_eq_none (by omega)
     have e2:l.reverse[q]? =none:=List.getElem?_eq_none (by rw [List.length_reverse];omega)
     exact e1.trans e2.symm
 ·obtain⟨i,l',rfl,hl',h2,hk,hq⟩:=hx
  have h0:ltI (i:Int) ((l.length:Int) - 1 - i)=false:=nA (by omega)
  refine⟨0,?_,?_⟩
  ·simp only [cU,pU,qq,LT.out,h0,cond_false]
  ·have:l.length=0:=by omega
   have h1:=List.length_eq_zero_iff.1 this
   have h2:=List.length_eq_zero_iff.1 (hl'.trans this)
   rw [h1];exact h2
theorem afz{E:al4→al4}{A:Int→al4→al4}{st:al4}{M:List NdE}(h:SrOk E A st M): ∀ (i:Nat) (e:NdE),M[i]? =some e→ ∀ acc:al4,acc.length + e.2.length≤10000→
  Ky mi.lt (e.2.length + 1) ((i:Int),M.map (fun e=>e.1),acc)=some (0,((0:Int),M.map (fun e=>e.1),acc++e.2.reverse)):=by
 have ha: ∀ (i:Nat) (e:NdE),M[i]? =some e→zN (i:Int) (M.map fun e=>e.1)=e.1.2:=fun i e he=>by
  unfold zN;rw [q8,List.getElem?_map,he];rfl
 have hd:=h.hd
 refine h.ind (Q:=fun(i:Nat) (e:NdE)=> ∀ acc:al4,acc.length + e.2.length≤10000→Ky mi.lt (e.2.length + 1) ((i:Int),M.map (fun e=>e.1),acc)=some (0,((0:Int),M.map (fun e=>e.1),acc++e.2.reverse)))
  (fun acc hacc=> ?_) (fun i j p r hji hp hQ hr he acc hacc=> ?_)
 ·have hM:0 < M.length:=(w7.1 hd).1
  have h2:ltI 0 (M.length:Int)=true:=cK (by omega)
  have h3:ltN 0 M.length=true:=ip hM
  have ha0:=ha 0 _ hd
  have hn:(nd0 st).1.2=(-1,0,0):=rfl
  rw [hn]at ha0
  simp only [show ((0:Nat):Int)=0 from rfl]at ha0 ⊢
  rw [PH (j:=0) _ (by simp only [mi,Ko,Bt,Bu,Bv,LN,ha0,LT.out,allT,List.length_map,h2,h3,show leI 0 0=true from rfl,show leI 0 (-1)=false from rfl,show w8 0=0 from rfl,cond_true,cond_false])]
  simp [nd0]
 ·have hi:i < M.length:=(w7.1 he).1
  have h1:leI 0 (i:Int)=true:=cw (by omega)
  have h2:ltI (i:Int) (M.length:Int)=true:=cK (by omega)
  have h3:ltN i M.length=true:=ip hi
  have ha0:=ha i _ he
  have hn:(mkN A p j r).1.2=((j:Int),r,p.1.2.2.2 + 1):=rfl
  rw [hn]at ha0
  have h4:leI 0 (j:Int)=true:=cw (by omega)
  have jw:(mkN A p j r).2.length=p.2.length + 1:=by simp [mkN]
  rw [jw]at hacc ⊢
  have l1:leN (acc.length + (0 + 1)) 9223372036854775807=true:=iJ (by omega)
  have l2:leN ((acc.length + (0 + 1)) * 8) 140737488355328=true:=iJ (by omega)
  rw [VU (y:=((j:Int),M.map (fun e=>e.1),acc++ [r])) _ (by simp only [mi,Ko,Bt,Bu,Bv,LN,QI,QJ,QK,QL,Ec,ha0,LT.out,allT,List.length_map,w3,w4,h1,h2,h3,h4,l1,l2,q8,cond_true])]
  rw [hQ (acc++ [r]) (by rw [q9,w3,w4];omega)]
  simp [mkN]
theorem agN{E:al4→al4}{A:Int→al4→al4}{st:al4}{M:List NdE}(h:SrOk E A st M){i:Nat}{e:NdE}(he:M[i]? =some e)(hl:e.2.length≤10000):
  LL (i:Int) (M.map fun e=>e.1)=e.2∧LM (i:Int) (M.map fun e=>e.1)=true:=by
 have h1:=afz h i e he [] (by simpa using hl)
 obtain⟨k1,k2⟩:=mi.run h1 (aef (by omega))
 rw [List.nil_append]at k2
 have ha1:JH (i:Int) (M.map fun e=>e.1)=e.2.reverse:=by simp only [JH,JG,k2]
 obtain⟨r1,r2⟩:=akN e.2.reverse (by rw [List.length_reverse];omega)
 simp only [LL,LM,ha1,r1,r2,JG,k1,allT,List.reverse_reverse,cond_true,and_self]
theorem ai6{n:Int}{ps v:al4}(h1:isT n (v.take ps.length)=true)(h2:ps.length≤v.length):yQ v n ps=unB n ps.length v∧yR v n ps=true:=by
 have e:eo ps v=v.take ps.length:=by
  simp only [eo,dP,q8,show w8 0=0 from rfl,List.drop_zero]
 obtain⟨_,t2,_⟩:=gB.1 h1
 have g1:leI 0 (ps.length:Int)=true:=cw (by omega)
 have g2:leI (ps.length:Int) (v.length:Int)=true:=cw (by omega)
 have g3:leN 1 (v.take ps.length).length=true:=iJ (by omega)
 have g4:leN (v.take ps.length).length 1048576=true:=iJ (by omega)
 simp only [yQ,yR,li,lj,ng,dP,e,unB,h1,g1,g2,g3,g4,allT,q8,show w8 0=0 from rfl,List.drop_zero,Bool.and_self,cond_true,and_self]
theorem aky{n:Int}{ps:al4}{M:List NdE}(hl:M.length≤100000)(hv: ∀ (i:Nat) (e:NdE),M[i]? =some e→isT n (e.1.1.take ps.length)=true∧ps.length≤e.1.1.length){q:Nat}(hq:q≤M.length)
  (hf: ∀ j p,j < q→M[j]? =some p→unB n ps.length p.1.1=false) (hu: ∀ p,M[q]? =some p→unB n ps.length p.1.1=true):
  Dm (M.map fun e=>e.1) n ps=(bif ltN q M.length then(q:Int)else -1)∧LF (M.map fun e=>e.1) n ps=true:=by
 have key:=bi.iterM (fun i=>((i:Int),(M.length:Int),n,M.map (fun e=>e.1),ps)) (bif ltN q M.length then 0 else 1) q (by omega) (fun i hi=> ?_) ?_
 ·obtain⟨k1,k2⟩:=key
  simp only [show ((0:Nat):Int)=0 from rfl]at k1 k2
  have ha0:lO (M.map fun e=>e.1) n ps=((0:Int),(M.length:Int),n,M.map (fun e=>e.1),ps):=by
   unfold lO;rw [List.length_map]
  simp only [Dm,LF,vP,vQ,uX,ha0,k1,k2,allT,cond_true,and_true]
  cases ltN q M.length <;> rfl
 ·have hiM:i < M.length:=by omega
  have hp:M[i]? =some M[i]:=List.getElem?_eq_getElem hiM
  obtain⟨v1,v2⟩:=hv i _ hp
  have hs:=hf i _ hi hp
  obtain⟨u1,u2⟩:=ai6 v1 v2
  have ha0:fS (i:Int) (M.map fun e=>e.1)=M[i].1.1:=by
   unfold fS;rw [q8,List.getElem?_map,hp];rfl
  have hw:IntKind.i64.wrap ((i:Int) + 1)=((i + 1:Nat):Int):=jv hiM (by omega)
  have h3:ltI (i:Int) (M.length:Int)=true:=cK (by omega)
  have h4:leI 0 (i:Int)=true:=cw (by omega)
  have h5:ltN i M.length=true:=ip hiM
  simp only [bi,nB,og,tA,tB,tC,tD,tE,tF,ha0,u1,u2,hs,LT.out,allT,hw,h3,h4,h5,List.length_map,q8,cond_true,cond_false]
 ·cases hh:ltN q M.length with
  |true=>
   have hiM:=Zm.1 hh
   have hp:M[q]? =some M[q]:=List.getElem?_eq_getElem hiM
   obtain⟨v1,v2⟩:=hv q _ hp
   have hs:=hu _ hp
   obtain⟨u1,u2⟩:=ai6 v1 v2
   have ha0:fS (q:Int) (M.map fun e=>e.1)=M[q].1.1:=by
    unfold fS;rw [q8,List.getElem?_map,hp];rfl
   have h3:ltI (q:Int) (M.length:Int)=true:=cK (by omega)
   have h4:leI 0 (q:Int)=true:=cw (by omega)
   simp only [bi,nB,og,tA,tB,tC,tD,tE,tF,ha0,u1,u2,hs,LT.out,allT,h3,h4,hh,List.length_map,q8,cond_true,cond_false]
  |false=>
   have:=Zn.1 hh
   have h3:ltI (q:Int) (M.length:Int)=false:=nA (by omega)
   simp only [bi,nB,og,LT.out,List.length_map,h3,cond_false]
theorem ah1(sz st:al4)(rs:List RuE):dr sz st rs []=true∧jO sz st rs []=true:=by
 have key:=bM.iterM (fun _=>jJ [] sz st rs) 1 0 (by omega) (fun i hi=>by omega) (by
  simp only [jJ,bM,xh,xU,LT.out];rfl)
 obtain⟨k1,k2⟩:=key
 simp only [dr,jO,oa,rO,rP,tx,tz,k1,k2,allT]
 exact⟨rfl,rfl⟩
def ah4(c:Int):al6
 | [.one ⟨true,[.val (.int .i64 a),.ref 0]⟩,.one ⟨false,[.val (.int .i64 b)]⟩],[.row false 2 (.int .i64) d]=>some ⟨al9 c,[ama d],[],[eqI (rf a b d) c]⟩
 |_,_=>none
def Oq(c:Int):PF prog:=PF.alt zT (ah4 c) (by
 intro args es o h dq;unfold ah4 at h;split at h
 ·rename_i a b d
  cases h
  have hc:=QC.1 (zR dq)
  exact uJ rfl (fun _ h=>by cases h) (by simp only [hc] <;> rfl) rfl rfl
 ·cases h)
def ah3(b:Bool):al6
 | [.one ⟨true,[.ref 0,.ref 1,.ref 2]⟩],[.row false 2 (.int .i64) a,.row false 2 (.int .i64) c,.row false 70 (.pair (.str) (.pair (.sl 125 (.pair (.int .i64) (.pair (.int .i64) (.bool)))) (.sl 129 (.pair (.int .i64) (.int .i64))))) d]=>some ⟨al8 (.ptr 3 0),[ama a,ama c,aml d],[.box 79 [.ref 4,.ref 5,.ref 6,.val (.bool b)],ame (JD a c d),ame (JF a c d),amk (RH a c d)],[(Co a c d==b),Fw a c d]⟩
 |_,_=>none
def Oo(b:Bool):PF prog:=PF.alt ac0 (ah3 b) (by
 intro args es o h dq;unfold ah3 at h;split at h
 ·rename_i a c d
  cases h
  have hc:Co a c d=b:=by simpa using zR dq
  exact uJ rfl (pM (dq _ (by simp))) rfl rfl (by simp only [hc] <;> rfl)
 ·cases h)
section
variable (a b:Int)(c:Bool)(d:al4)
def Jm:al2:=JD (ri a b d) (rj a b d) (rk a b c d)
def yN:al2:=JF (ri a b d) (rj a b d) (rk a b c d)
def CN:al2:=RH (ri a b d) (rj a b d) (rk a b c d)
def CO:Bool:=allT [eqI (rf a b d) 0,Fu a b c d,Co (ri a b d) (rj a b d) (rk a b c d)==false,Fw (ri a b d) (rj a b d) (rk a b c d)]
end
def Oz:al6
 | [.one ⟨true,[.val (.int .i64 a),.ref 0]⟩,.one ⟨false,[.val (.int .i64 b)]⟩,.one ⟨false,[.val (.bool c)]⟩],[.row false 2 (.int .i64) d]=>some ⟨.tup [⟨false,[.ptr 1 0]⟩,⟨false,[al7 0]⟩],[ama d],[.box 79 [.ref 2,.ref 3,.ref 4,.val (.bool false)],ame (Jm a b c d),ame (yN a b c d),amk (CN a b c d)],[CO a b c d]⟩
 |_,_=>none
def vi:PF prog:=PF.ofG prog [PF.pick prog 0,Oq 0,PF.lend (Oq 0),PF.fz (Oq 0),Oo false,PF.lend (Oo false),PF.fz (Oo false),mT,PF.lend (mT),PF.fz (mT)] [] aS 32 f32 func32 (fun c _=>LOk.nil c) Oz (by
 intro _ _ _ h;unfold Oz at h;split at h<;>cases h;kernel_rfl)
def Jn(a b:Int)(c:al4):Bool:=allT [eqI (rf a b c) 1]
def OA:al6
 | [.one ⟨true,[.val (.int .i64 a),.ref 0]⟩,.one ⟨false,[.val (.int .i64 b)]⟩,.one ⟨false,[.val (.bool _x2)]⟩],[.row false 2 (.int .i64) c]=>some ⟨.tup [⟨false,[.val (.pointer none)]⟩,⟨false,[al7 1]⟩],[ama c],[],[Jn a b c]⟩
 |_,_=>none
def IJ:PF prog:=PF.ofG prog [PF.pick prog 0,Oq 1,PF.lend (Oq 1),PF.fz (Oq 1),Oo false,PF.lend (Oo false),PF.fz (Oo false),mT,PF.lend (mT),PF.fz (mT)] [] aS 32 f32 func32 (fun c _=>LOk.nil c) OA (by
 intro _ _ _ h;unfold OA at h;split at h<;>cases h;kernel_rfl)
def Jo(a b:Int)(c:al4):Bool:=allT [eqI (rf a b c) 2]
def OB:al6
 | [.one ⟨true,[.val (.int .i64 a),.ref 0]⟩,.one ⟨false,[.val (.int .i64 b)]⟩,.one ⟨false,[.val (.bool _x2)]⟩],[.row false 2 (.int .i64) c]=>some ⟨.tup [⟨false,[.val (.pointer none)]⟩,⟨false,[al7 2]⟩],[ama c],[],[Jo a b c]⟩
 |_,_=>none
def IK:PF prog:=PF.ofG prog [PF.pick prog 0,Oq 2,PF.lend (Oq 2),PF.fz (Oq 2),Oo false,PF.lend (Oo false),PF.fz (Oo false),mT,PF.lend (mT),PF.fz (mT)] [] aS 32 f32 func32 (fun c _=>LOk.nil c) OB (by
 intro _ _ _ h;unfold OB at h;split at h<;>cases h;kernel_rfl)
def Jp(a b:Int)(c:Bool)(d:al4):Bool:=allT [eqI (rf a b d) 0,Fu a b c d,Co (ri a b d) (rj a b d) (rk a b c d)==true,Fw (ri a b d) (rj a b d) (rk a b c d)]
def OC:al6
 | [.one ⟨true,[.val (.int .i64 a),.ref 0]⟩,.one ⟨false,[.val (.int .i64 b)]⟩,.one ⟨false,[.val (.bool c)]⟩],[.row false 2 (.int .i64) d]=>some ⟨.tup [⟨false,[.val (.pointer none)]⟩,⟨false,[al7 3]⟩],[ama d],[],[Jp a b c d]⟩
 |_,_=>none
def IL:PF prog:=PF.ofG prog [PF.pick prog 0,Oq 0,PF.lend (Oq 0),PF.fz (Oq 0),Oo true,PF.lend (Oo true),PF.fz (Oo true),mT,PF.lend (mT),PF.fz (mT)] [] aS 32 f32 func32 (fun c _=>LOk.nil c) OC (by
 intro _ _ _ h;unfold OC at h;split at h<;>cases h;kernel_rfl)
abbrev eZ:=Int×Bool×Int×List (List Int)×List (List Int)×List (List Int)×List Int
section
variable (a b:Int)(c d:al2)(e:al4)
def cM:al4:=Option.getD c[w8 a]? (sW afH)
def gJ:al4:=Option.getD d[w8 a]? (sW afH)
def nO:Bool:=ltI a (↑c.length:Int)
def xl:Bool:=leI 0 a
def xm:Bool:=ltN a.toNat c.length
def xo:Bool:=Gs e (cM a c)
def xt:Bool:= !!Uc b (qc e (cM a c))||leI 0 a
def xu:Bool:= !!Uc b (qc e (cM a c))||ltI a (↑d.length:Int)
def xw:Bool:= !!Uc b (qc e (cM a c))||ltN a.toNat d.length
def xx:Bool:= !!Uc b (qc e (cM a c))||leN (List.length (gJ a d)) 1048576
def xy:Bool:= !Uc b (qc e (cM a c))
def xz:al4:=gJ a d
def wA:Int:=IntKind.wrap .i64 (a + (1:Int))
end
def MD:eZ→List (Nat×SV)
 |(a,_,_,_,_,_,_)=> [(10,(al9 a)),(8,(al8 (.ptr 0 0))),(3,(al8 (.ptr 1 0)))]
def MC:eZ→List (Nat×Entry)
 |(_,a,b,c,d,e,f)=> [(0,(.box 79 [.ref 2,.ref 3,.ref 4,.val (.bool a)])),(1,(.box 26 [al7 b,.ref 5])),(2,(ame c)),(3,(ame d)),(4,(amk e)),(5,(ama f))]
def MF:Nat→eZ→List (Nat×SV)
 |0,(_,_,_,_,_,_,_)=> [(6,(al8 (.ref 6))),(7,(al9 0))]
 |_,_=>[]
def ME:Nat→eZ→List (Nat×Entry)
 |0,(a,b,c,d,e,f,g)=> [(0,(.box 79 [.ref 2,.ref 3,.ref 4,.val (.bool b)])),(1,(.box 26 [al7 c,.ref 5])),(2,(ame d)),(3,(ame e)),(4,(amk f)),(5,(ama g)),(6,(amb (xz a e)))]
 |_,(_,b,c,d,e,f,g)=> [(0,(.box 79 [.ref 2,.ref 3,.ref 4,.val (.bool b)])),(1,(.box 26 [al7 c,.ref 5])),(2,(ame d)),(3,(ame e)),(4,(amk f)),(5,(ama g))]
def rv:eZ→LT eZ
 |(a,b,c,d,e,f,g)=> .ite (nO a d) (.need [xl a,nO a d,xm a d,xo a d g] (.need [xt a c d g,xu a c d e g,xw a c d e g,xx a c d e g] (.ite (xy a c d g) (.ext 0 [(0,0),(1,1),(2,2),(3,3),(4,4),(5,5),(6,1664)]) (.nrm ((wA a),b,c,d,e,f,g) [(0,0),(1,1),(2,2),(3,3),(4,4),(5,5)])))) (.ext 1 [(0,0),(1,1),(2,2),(3,3),(4,4),(5,5)])
def wz(s:St):Option eZ:=do
 let some ⟨none,.one ⟨false,[.val (.int .i64 a)]⟩⟩:=s.look 10|none
 let some ⟨none,.one ⟨false,[.ptr 512 0]⟩⟩:=s.look 8|none
 let some ⟨none,.one ⟨false,[.ptr 128 0]⟩⟩:=s.look 3|none
 let some (.box 79 [.ref 513,.ref 514,.ref 515,.val (.bool b)]):=s.ent 512|none
 let some (.box 26 [.val (.int .i64 c),.ref 0]):=s.ent 128|none
 let some (.row true 24 (.sl 2 (.int .i64)) d):=s.ent 513|none
 let some (.row true 24 (.sl 2 (.int .i64)) e):=s.ent 514|none
 let some (.row false 24 (.sl 2 (.int .i64)) f):=s.ent 515|none
 let some (.row false 2 (.int .i64) g):=s.ent 0|none
 some (a,b,c,d,e,f,g)
def bm:Lp eZ where
 h:=⟨[21,22,23,24,25,26,27,30,31,32,33,34,35,36,37,38,39,40,41,42,43,44,45,46,47,48,6,7,28,29,10],[0,1,2,3,4,5],[],[6]⟩
 JL:=MD
 JE:=MC
 XL:=MF
 XE:=ME
 q:=fun j=>match j with | 0=> .ret | _=> .exit 0
 tags:= [0,1]
 lt:=rv
 fuel:=fun(a,_,c,d,e,f,g)=>a.natAbs + c.natAbs + d.length + e.length + f.length + g.length
 fix:=fun(_,b,c,d,e,f,g) (a,_,_,_,_,_,_)=>(a,b,c,d,e,f,g)
 σ:= [(0,512),(1,128),(2,513),(3,514),(4,515),(5,0)]
 rd:=wz
theorem LQ:LoopOk prog (fun k=>Nat.blt k Tryz.f14.ntmps) bm.F (aI f14 0):=by
 refine Lp.ok (tbl:= (T3z [vi,dd,fv,aF])) (lf:= []) aS bm (by kernel_rfl) (LOk.nil _) (fun _=>rfl) (fun j _=>by unfold bm;match j with | 0=>rfl | _ + 1=>rfl) ?_ ?_ ?_ ?_ (fun _=>rfl) ?_
 ·intro _;kernel_rfl
 ·intro _;kernel_rfl
 ·intro s x h
  have h:wz s=some x:=h
  unfold wz at h
  repeat' split at h
  all_goals cases h
  constructor<;>repeat(first|refine aa ‹_› rfl ?_|refine ab rfl ‹_› rfl ?_|rfl)
 ·intro _;kernel_rfl
 ·intro _ _;exact(And.intro (And.intro trivial rfl) trivial)
section
variable (a b:Int)(c:Bool)(d:al4)
def qb:Int×Bool×Int×al2×al2×al2×al4:=((0:Int),false,a,Jm a b c d,yN a b c d,CN a b c d,d)
def mD:Bool:=Nat.beq ((Lp.res bm (qb a b c d)).1) 0
def ku:Int:=bif(0:Int)!=0 then(0:Int)else bif mD a b c d then(0:Int)else(4:Int)
def kv:al4:=bif(0:Int)!=0 then []else bif mD a b c d then xz (((Lp.res bm (qb a b c d)).2).1) (yN a b c d)else []
def ra:Bool:=allT [CO a b c d,(0:Int)!=0||Lp.fin bm (qb a b c d)]
end
def GA:al6
 | [.one ⟨true,[.val (.int .i64 a),.ref 0]⟩,.one ⟨false,[.val (.int .i64 b)]⟩,.one ⟨false,[.val (.bool c)]⟩],[.row false 2 (.int .i64) d]=>some ⟨.tup [⟨false,[.ref 1]⟩,⟨false,[al7 (ku a b c d)]⟩],[ama d],[amb (kv a b c d)],[ra a b c d]⟩
 |_,_=>none
def Pz:PF prog:=PF.ofG prog (T3z [vi,dd,fv,aF]) [bm.F] aS 14 f14 func14 (LOk.fnT (l:= [aI f14 0]) (by kernel_rfl) (.cons LQ (.nil _))) GA (by
 intro _ _ _ h;unfold GA at h;split at h<;>cases h;kernel_rfl)
def PK:al4:= []
def uY(a b:Int)(c:al4):Bool:=allT [Jn a b c]
def GB:al6
 | [.one ⟨true,[.val (.int .i64 a),.ref 0]⟩,.one ⟨false,[.val (.int .i64 b)]⟩,.one ⟨false,[.val (.bool _x2)]⟩],[.row false 2 (.int .i64) c]=>some ⟨.tup [⟨false,[.ref 1]⟩,⟨false,[al7 1]⟩],[ama c],[amb (PK)],[uY a b c]⟩
 |_,_=>none
def PA:PF prog:=PF.ofG prog [PF.pick prog 0,IJ,PF.lend IJ,PF.fz IJ,dd,PF.lend dd,PF.fz dd,fv,PF.lend fv,PF.fz fv,aF,PF.lend aF,PF.fz aF] [] aS 14 f14 func14 (fun c _=>LOk.nil c) GB (by
 intro _ _ _ h;unfold GB at h;split at h<;>cases h;kernel_rfl)
def PL:al4:= []
def uZ(a b:Int)(c:al4):Bool:=allT [Jo a b c]
def GC:al6
 | [.one ⟨true,[.val (.int .i64 a),.ref 0]⟩,.one ⟨false,[.val (.int .i64 b)]⟩,.one ⟨false,[.val (.bool _x2)]⟩],[.row false 2 (.int .i64) c]=>some ⟨.tup [⟨false,[.ref 1]⟩,⟨false,[al7 2]⟩],[ama c],[amb (PL)],[uZ a b c]⟩
 |_,_=>none
def PB:PF prog:=PF.ofG prog [PF.pick prog 0,IK,PF.lend IK,PF.fz IK,dd,PF.lend dd,PF.fz dd,fv,PF.lend fv,PF.fz fv,aF,PF.lend aF,PF.fz aF] [] aS 14 f14 func14 (fun c _=>LOk.nil c) GC (by
 intro _ _ _ h;unfold GC at h;split at h<;>cases h;kernel_rfl)
def PM:al4:= []
def va(a b:Int)(c:Bool)(d:al4):Bool:=allT [Jp a b c d]
def GD:al6
 | [.one ⟨true,[.val (.int .i64 a),.ref 0]⟩,.one ⟨false,[.val (.int .i64 b)]⟩,.one ⟨false,[.val (.bool c)]⟩],[.row false 2 (.int .i64) d]=>some ⟨.tup [⟨false,[.ref 1]⟩,⟨false,[al7 3]⟩],[ama d],[amb (PM)],[va a b c d]⟩
 |_,_=>none
def PC:PF prog:=PF.ofG prog [PF.pick prog 0,IL,PF.lend IL,PF.fz IL,dd,PF.lend dd,PF.fz dd,fv,PF.lend fv,PF.fz fv,aF,PF.lend aF,PF.fz aF] [] aS 14 f14 func14 (fun c _=>LOk.nil c) GD (by
 intro _ _ _ h;unfold GD at h;split at h<;>cases h;kernel_rfl)
set_option maxHeartbeats 1000000
theorem ai7{n:Int}{ps v:al4}(h1:isT n (v.take ps.length)=true)(h2:ps.length≤v.length):Uc n (qc ps v)= !unB n ps.length v∧Gs ps v=true:=by
 have e:qc ps v=v.take ps.length:=by
  simp only [qc,Ev,q8,show w8 0=0 from rfl,List.drop_zero]
 obtain⟨_,t2,_⟩:=gB.1 h1
 have g1:leI 0 (ps.length:Int)=true:=cw (by omega)
 have g2:leI (ps.length:Int) (v.length:Int)=true:=cw (by omega)
 have g4:leN (v.take ps.length).length 1048576=true:=iJ (by omega)
 simp only [e,Uc,unB,h1,Gs,Ev,g1,g2,g4,allT,q8,show w8 0=0 from rfl,List.drop_zero,Bool.not_not,Bool.true_and,cond_true,and_self]
theorem akw{n:Int}{ps:al4}{M:List NdE}(kn:al2)(hl:M.length≤100000)(hv: ∀ (i:Nat) (e:NdE),M[i]? =some e→isT n (e.1.1.take ps.length)=true∧ps.length≤e.1.1.length∧e.2.length≤10000){q:Nat}(hq:q≤M.length)
  (hf: ∀ j p,j < q→M[j]? =some p→unB n ps.length p.1.1=false) (hu: ∀ p,M[q]? =some p→unB n ps.length p.1.1=true):
  bm.fin ((0:Int),false,n,M.map (fun e=>e.1.1),M.map (fun e=>e.2),kn,ps)=true∧
  bm.res ((0:Int),false,n,M.map (fun e=>e.1.1),M.map (fun e=>e.2),kn,ps)=(bif ltN q M.length then 0 else 1,((q:Int),false,n,M.map (fun e=>e.1.1),M.map (fun e=>e.2),kn,ps)):=by
 have key:=bm.iterM (fun i=>((i:Int),false,n,M.map (fun e=>e.1.1),M.map (fun e=>e.2),kn,ps)) (bif ltN q M.length then 0 else 1) q (by omega) (fun i hi=> ?_) ?_
 ·exact key
 ·have hiM:i < M.length:=by omega
  have hp:M[i]? =some M[i]:=List.getElem?_eq_getElem hiM
  obtain⟨v1,v2,v3⟩:=hv i _ hp
  have hs:=hf i _ hi hp
  obtain⟨u1,u2⟩:=ai7 v1 v2
  rw [hs]at u1
  have ha0:cM (i:Int) (M.map fun e=>e.1.1)=M[i].1.1:=by
   unfold cM;rw [q8,List.getElem?_map,hp];rfl
  have ha1:gJ (i:Int) (M.map fun e=>e.2)=M[i].2:=by
   unfold gJ;rw [q8,List.getElem?_map,hp];rfl
  have hw:IntKind.i64.wrap ((i:Int) + 1)=((i + 1:Nat):Int):=jv hiM (by omega)
  have h3:ltI (i:Int) (M.length:Int)=true:=cK (by omega)
  have h4:leI 0 (i:Int)=true:=cw (by omega)
  have h5:ltN i M.length=true:=ip hiM
  have l1:leN M[i].2.length 1048576=true:=iJ (by omega)
  simp only [bm,rv,nO,xl,xm,xo,xt,xu,xw,xx,xy,wA,ha0,ha1,u1,u2,l1,LT.out,allT,hw,h3,h4,h5,List.length_map,q8,Bool.not_true,Bool.not_false,w5,cond_true,cond_false]
 ·cases hh:ltN q M.length with
  |true=>
   have hiM:=Zm.1 hh
   have hp:M[q]? =some M[q]:=List.getElem?_eq_getElem hiM
   obtain⟨v1,v2,v3⟩:=hv q _ hp
   have hs:=hu _ hp
   obtain⟨u1,u2⟩:=ai7 v1 v2
   rw [hs]at u1
   have ha0:cM (q:Int) (M.map fun e=>e.1.1)=M[q].1.1:=by
    unfold cM;rw [q8,List.getElem?_map,hp];rfl
   have ha1:gJ (q:Int) (M.map fun e=>e.2)=M[q].2:=by
    unfold gJ;rw [q8,List.getElem?_map,hp];rfl
   have h3:ltI (q:Int) (M.length:Int)=true:=cK (by omega)
   have h4:leI 0 (q:Int)=true:=cw (by omega)
   have l1:leN M[q].2.length 1048576=true:=iJ (by omega)
   simp only [bm,rv,nO,xl,xm,xo,xt,xu,xw,xx,xy,wA,ha0,ha1,u1,u2,l1,LT.out,allT,h3,h4,hh,List.length_map,q8,Bool.not_true,Bool.not_false,w5,cond_true,cond_false]
  |false=>
   have:=Zn.1 hh
   have h3:ltI (q:Int) (M.length:Int)=false:=nA (by omega)
   simp only [bm,rv,nO,LT.out,List.length_map,h3,cond_false]
theorem ais(f:NdE→Bool)(M:List NdE): ∃ q:Nat,q≤M.length∧(∀ (j:Nat) (p:NdE),j < q→M[j]? =some p→f p=false)∧(∀ p,M[q]? =some p→f p=true):=by
 have key: ∀ m:Nat,(∀ (j:Nat) (p:NdE),j < m→M[j]? =some p→f p=false)∨ ∃ q:Nat,q < m∧(∀ (j:Nat) (p:NdE),j < q→M[j]? =some p→f p=false)∧ ∃ p,M[q]? =some p∧f p=true:=by
  intro m
  induction m with
  |zero=>exact .inl fun j p hj=>by omega
  |succ m ih=>
   rcases ih with ih | ⟨q,h1,h2,h3⟩
   ·cases hm:M[m]? with
    |none=>
     refine .inl fun j p hj hp=> ?_
     rcases Nat.lt_or_ge j m with h | h
     ·exact ih j p h hp
     ·rw [show j=m by omega,hm]at hp;cases hp
    |some p=>
     cases hf:f p with
     |true=>exact .inr ⟨m,by omega,ih,p,hm,hf⟩
     |false=>
      refine .inl fun j p' hj hp=> ?_
      rcases Nat.lt_or_ge j m with h | h
      ·exact ih j p' h hp
      ·rw [show j=m by omega,hm]at hp;cases hp;exact hf
   ·exact .inr ⟨q,by omega,h2,h3⟩
 rcases key M.length with h | ⟨q,h1,h2,p,h3,h4⟩
 ·exact⟨M.length,Nat.le_refl _,h,fun p hp=>by rw [List.getElem?_eq_none (Nat.le_refl _)]at hp;cases hp⟩
 ·exact⟨q,by omega,h2,fun p' hp=>by rw [h3]at hp;cases hp;exact h4⟩
inductive FuOk (n d:Int) (s:Bool) (ps:al4):Prop where
 |no (h:impl_FirstUnsafeTrace_0 n d s ps≠0)
 |yes (M:List NdE) (i:Nat) (e:NdE) (hR:isR n d ps=true) (hM:SrOk (enL ps.length n (kL ps.length n.toNat d.toNat s)) (apL ps.length n (kL ps.length n.toNat d.toNat s)) (stM n d ps) M) (he:M[i]? =some e) (hu:unB n ps.length e.1.1=true)
   (hf: ∀ j p,j < i→M[j]? =some p→unB n ps.length p.1.1=false) (h0:impl_FirstUnsafeTrace_0 n d s ps=0) (h1:impl_FirstUnsafeTrace_1 n d s ps=e.2)
theorem akb(n d:Int)(s:Bool)(ps:al4):ek n d s ps=true∧
  ((ra n d s ps=true∧ku n d s ps=impl_FirstUnsafeTrace_0 n d s ps∧kv n d s ps=impl_FirstUnsafeTrace_1 n d s ps)∨
   (impl_FirstUnsafeTrace_1 n d s ps= []∧((uY n d ps=true∧impl_FirstUnsafeTrace_0 n d s ps=1)∨(uZ n d ps=true∧impl_FirstUnsafeTrace_0 n d s ps=2)∨(va n d s ps=true∧impl_FirstUnsafeTrace_0 n d s ps=3))))∧
  FuOk n d s ps:=by
 cases hR:isR n d ps with
 |false=>
  have hc:Fc n d ps≠0:=fun h=>by rw [DW.1 h]at hR;cases hR
  have hb:(Fc n d ps !=0)=true:=by simpa using hc
  have e0:impl_FirstUnsafeTrace_0 n d s ps=Fc n d ps:=by
   simp only [impl_FirstUnsafeTrace_0,bB,qF,mO,hb,cond_true]
  have e1:impl_FirstUnsafeTrace_1 n d s ps= []:=by
   simp only [impl_FirstUnsafeTrace_1,bB,qF,mO,hb,cond_true]
  have e2:ek n d s ps=true:=by
   simp only [ek,bB,qF,zr,mO,hb,allT,cond_true,Bool.true_or]
  refine⟨e2,.inr ⟨e1,?_⟩,.no (by rw [e0];exact hc)⟩
  have h12:Fc n d ps=1∨Fc n d ps=2:=by
   unfold Fc at hc ⊢
   cases h1:isT n ps with
   |false=>exact .inl rfl
   |true=>
    cases h2:inR d 0 2 with
    |false=>exact .inr rfl
    |true=>rw [h1,h2]at hc;exact absurd rfl hc
  rcases h12 with h | h
  ·exact .inl ⟨by simp only [uY,Jn,SZ,h,allT];rfl,by rw [e0,h]⟩
  ·exact .inr (.inl ⟨by simp only [uZ,Jo,SZ,h,allT];rfl,by rw [e0,h]⟩)
 |true=>
  obtain⟨hT,hd⟩:=LO.1 hR
  obtain⟨t1,t2,t3⟩:=gB.1 hT
  have hK:=aiA (s:=s) hR
  have RX:=ajV hR
  have hc:=DW.2 hR
  obtain⟨s1,s2,s3⟩:=ahT n d s ps hR
  obtain⟨v1,v2⟩:=agz n d s ps hR
  obtain⟨n1,n2⟩:=ah1 (szM ps.length n d.toNat) (stM n d ps) ((kL ps.length n.toNat d.toNat s).map (ruK ps.length n))
  obtain⟨K,hK4,hg,hng⟩:=ajY (E:=enL ps.length n (kL ps.length n.toNat d.toNat s)) (A:=apL ps.length n (kL ps.length n.toNat d.toNat s)) (stM n d ps)
  obtain⟨a,b,c⟩:=af2 hK RX (akO ps.length n _) (szM ps.length n d.toNat) hK4 hg hng
  obtain⟨r0,r1,r2⟩:=akQ hK RX (akP ps.length n _) (ri n d ps) hg hng
  have hM:=adQ (E:=enL ps.length n (kL ps.length n.toNat d.toNat s)) (A:=apL ps.length n (kL ps.length n.toNat d.toNat s)) (stM n d ps) K
  have hl:=afP hg (Nat.le_refl _)
  have hb:(Fc n d ps !=0)=false:=by rw [hc];rfl
  have a1:yp n d ps=szM ps.length n d.toNat:=by simp only [yp,hR,cond_true]
  have a2:yq n d ps=stM n d ps:=by simp only [yq,hR,cond_true]
  have a3:yt n d s ps=(kL ps.length n.toNat d.toNat s).map (ruK ps.length n):=by simp only [yt,hR,cond_true]
  generalize nM (enL ps.length n (kL ps.length n.toNat d.toNat s)) (apL ps.length n (kL ps.length n.toNat d.toNat s)) (stM n d ps) K=M at a b r0 r1 hM hl
  have c0:qF n d s ps=bif ltN K M.length then 3 else 0:=by
   simp only [qF,mO,hb,a1,a2,a3,Iu,v1,n1,a,Bool.not_true,Bool.not_not,cond_false]
  have c1:nY n d s ps=bif ltN K M.length then []else M.map fun e=>e.1:=by
   simp only [nY,mO,hb,a1,a2,a3,Iv,v1,n1,a,b,Bool.not_true,Bool.not_not,cond_false]
   cases ltN K M.length <;> rfl
  have c2:zr n d s ps=true:=by
   simp only [zr,mO,hb,a1,a2,a3,Iw,v1,v2,n1,n2,c,Bool.not_true,w5,allT,cond_true]
  have hcS:rf n d ps=0:=by rw [SZ,hc]
  rw [← s1,← s2]at r0 r1 r2
  cases hov:ltN K M.length with
  |true=>
   rw [hov]at c0 c1 r0
   simp only [cond_true]at c0 c1
   have hbb:((3:Int)!=0)=true:=rfl
   have e0:impl_FirstUnsafeTrace_0 n d s ps=3:=by simp only [impl_FirstUnsafeTrace_0,bB,c0,hbb,cond_true]
   have e1:impl_FirstUnsafeTrace_1 n d s ps= []:=by simp only [impl_FirstUnsafeTrace_1,bB,c0,hbb,cond_true]
   have e2:ek n d s ps=true:=by simp only [ek,bB,c0,c2,hbb,Bool.true_or,allT,cond_true]
   refine⟨e2,.inr ⟨e1,.inr (.inr ⟨?_,e0⟩)⟩,.no (by rw [e0];decide)⟩
   simp only [va,Jp,hcS,s3,r0,r2,allT,show eqI 0 0=true from rfl,beq_self_eq_true,cond_true]
  |false=>
   rw [hov]at c0 c1 r0
   simp only [cond_false]at c0 c1
   obtain⟨r3,r4⟩:=r1 hov
   have hv: ∀ (i:Nat) (e:NdE),M[i]? =some e→isT n (e.1.1.take ps.length)=true∧ps.length≤e.1.1.length∧e.2.length≤10000:=fun i e he=>by
    obtain⟨_,b2,b3⟩:=acH hR hM he
    obtain⟨_,_,b4⟩:=aaE hK RX hM i e he
    have:=(w7.1 he).1
    exact⟨b2,b3,by omega⟩
   obtain⟨q,hq,hf,hu⟩:=ais (fun e=>unB n ps.length e.1.1) M
   obtain⟨i0,i1⟩:=aky (n:=n) (ps:=ps) (by omega:M.length≤100000) (fun i e he=>⟨(hv i e he).1,(hv i e he).2.1⟩) hq hf hu
   obtain⟨f0,f1⟩:=akw (CN n d s ps) (by omega:M.length≤100000) hv hq hf hu
   have hbb:((0:Int)!=0)=false:=rfl
   have ha0:qb n d s ps=((0:Int),false,n,M.map (fun e=>e.1.1),M.map (fun e=>e.2),CN n d s ps,ps):=by
    simp only [qb,Jm,yN,r3,r4]
   have hs3:CO n d s ps=true:=by
    simp only [CO,hcS,s3,r0,r2,allT,show eqI 0 0=true from rfl,beq_self_eq_true,cond_true]
   have z2:ra n d s ps=true:=by
    simp only [ra,hs3,ha0,f0,allT,w5,cond_true]
   cases hqq:ltN q M.length with
   |true=>
    have gm:=Zm.1 hqq
    have he:M[q]? =some M[q]:=List.getElem?_eq_getElem gm
    rw [hqq]at i0 f1
    simp only [cond_true]at i0 f1
    have hneg:ltI (q:Int) 0=false:=nA (by omega)
    obtain⟨w0,w1⟩:=agN hM he (hv q _ he).2.2
    have e0:impl_FirstUnsafeTrace_0 n d s ps=0:=by simp only [impl_FirstUnsafeTrace_0,bB,gT,c0,c1,i0,hbb,hneg,cond_false]
    have e1:impl_FirstUnsafeTrace_1 n d s ps=M[q].2:=by simp only [impl_FirstUnsafeTrace_1,bB,gT,c0,c1,i0,hbb,hneg,w0,cond_false]
    have e2:ek n d s ps=true:=by simp only [ek,bB,gT,c0,c1,c2,i0,i1,hbb,hneg,w1,w5,allT,cond_true]
    have za:mD n d s ps=true:=by simp only [mD,ha0,f1];rfl
    have z0:ku n d s ps=0:=by simp only [ku,za,hbb,cond_true,cond_false]
    have z1:kv n d s ps=M[q].2:=by
     simp only [kv,za,hbb,ha0,f1,cond_true,cond_false,xz,yN,r4]
     unfold gJ;rw [q8,List.getElem?_map,he];rfl
    exact⟨e2,.inl ⟨z2,by rw [z0,e0],by rw [z1,e1]⟩,.yes M q M[q] hR hM he (hu _ he) hf e0 e1⟩
   |false=>
    rw [hqq]at i0 f1
    simp only [cond_false]at i0 f1
    have hneg:ltI (-1) 0=true:=rfl
    have e0:impl_FirstUnsafeTrace_0 n d s ps=4:=by simp only [impl_FirstUnsafeTrace_0,bB,gT,c0,c1,i0,hbb,hneg,cond_true,cond_false]
    have e1:impl_FirstUnsafeTrace_1 n d s ps= []:=by simp only [impl_FirstUnsafeTrace_1,bB,gT,c0,c1,i0,hbb,hneg,cond_true,cond_false]
    have e2:ek n d s ps=true:=by simp only [ek,bB,gT,c0,c1,c2,i0,i1,hbb,hneg,w5,Bool.true_or,allT,cond_true]
    have za:mD n d s ps=false:=by simp only [mD,ha0,f1];rfl
    have z0:ku n d s ps=4:=by simp only [ku,za,hbb,cond_false]
    have z1:kv n d s ps= []:=by simp only [kv,za,hbb,cond_false]
    exact⟨e2,.inl ⟨z2,by rw [z0,e0],by rw [z1,e1]⟩,.no (by rw [e0];decide)⟩
def Ld:al6
 | [.one ⟨true,[.val (.int .i64 a),.ref 0]⟩,.one ⟨false,[.val (.int .i64 b)]⟩,.one ⟨false,[.val (.bool c)]⟩],[.row false 2 (.int .i64) d]=>some ⟨.tup [⟨false,[.ref 1]⟩,⟨false,[al7 (impl_FirstUnsafeTrace_0 a b c d)]⟩],[ama d],[amb (impl_FirstUnsafeTrace_1 a b c d)],[]⟩
 |_,_=>none
def ajg(q:Int→Int→Bool→al4→Bool):al6
 | [.one ⟨true,[.val (.int .i64 a),.ref 0]⟩,.one ⟨false,[.val (.int .i64 b)]⟩,.one ⟨false,[.val (.bool c)]⟩],[.row false 2 (.int .i64) d]=>some ⟨.tup [⟨false,[.ref 1]⟩,⟨false,[al7 (impl_FirstUnsafeTrace_0 a b c d)]⟩],[ama d],[amb (impl_FirstUnsafeTrace_1 a b c d)],[q a b c d]⟩
 |_,_=>none
def akH:PF prog:=PF.or PA PB rfl
  (ajg fun n d s ps=>(impl_FirstUnsafeTrace_1 n d s ps== [])&&((uY n d ps&&eqI (impl_FirstUnsafeTrace_0 n d s ps) 1)||(uZ n d ps&&eqI (impl_FirstUnsafeTrace_0 n d s ps) 2))) (by
 intro args es o h dq;unfold ajg at h;split at h
 ·rename_i a b c e
  cases h
  have hh:=zR dq
  simp only [Bool.and_eq_true,Bool.or_eq_true,QC,beq_iff_eq]at hh
  obtain⟨h1,⟨h2,h3⟩ | ⟨h2,h3⟩⟩:=hh
  ·exact .inl (uJ rfl (pM h2) (by simp only [h3] <;> rfl) rfl (by simp only [h1] <;> rfl))
  ·exact .inr (uJ rfl (pM h2) (by simp only [h3] <;> rfl) rfl (by simp only [h1] <;> rfl))
 ·cases h)
def akG:PF prog:=PF.or Pz PC rfl
  (ajg fun n d s ps=>(ra n d s ps&&eqI (ku n d s ps) (impl_FirstUnsafeTrace_0 n d s ps)&&(kv n d s ps==impl_FirstUnsafeTrace_1 n d s ps))||
   ((impl_FirstUnsafeTrace_1 n d s ps== [])&&(va n d s ps&&eqI (impl_FirstUnsafeTrace_0 n d s ps) 3))) (by
 intro args es o h dq;unfold ajg at h;split at h
 ·rename_i a b c e
  cases h
  have hh:=zR dq
  simp only [Bool.and_eq_true,Bool.or_eq_true,QC,beq_iff_eq]at hh
  rcases hh with⟨⟨h1,h2⟩,h3⟩ | ⟨h1,h2,h3⟩
  ·exact .inl (uJ rfl (pM h1) (by simp only [h2] <;> rfl) rfl (by simp only [h3] <;> rfl))
  ·exact .inr (uJ rfl (pM h2) (by simp only [h3] <;> rfl) rfl (by simp only [h1] <;> rfl))
 ·cases h)
def Dp:PF prog:=PF.or akG akH rfl Ld (by
 intro args es o h dq;unfold Ld at h;split at h
 ·rename_i a b c d
  cases h
  obtain⟨_,h | ⟨h1,h | h | h⟩,_⟩:=akb a b c d
  ·exact .inl (uJ rfl (pM (by simp [h.1,h.2.1,h.2.2])) rfl rfl rfl)
  ·exact .inr (uJ rfl (pM (by simp [h1,h.1,h.2])) rfl rfl rfl)
  ·exact .inr (uJ rfl (pM (by simp [h1,h.1,h.2])) rfl rfl rfl)
  ·exact .inl (uJ rfl (pM (by simp [h1,h.1,h.2])) rfl rfl rfl)
 ·cases h)
section
variable (a b:Int)(c:Bool)(d:al4)
def sd:Bool:=impl_FirstUnsafeTrace_0 a b c d !=0
def pR:Int:=bif sd a b c d then impl_FirstUnsafeTrace_0 a b c d else OD a b c d (impl_FirstUnsafeTrace_1 a b c d)
def eC:ag5:=bif sd a b c d then []else evE a b c d (impl_FirstUnsafeTrace_1 a b c d)
end
def Mz:al6
 | [.one ⟨true,[.val (.int .i64 a),.ref 0]⟩,.one ⟨false,[.val (.int .i64 b)]⟩,.one ⟨false,[.val (.bool c)]⟩],[.row false 2 (.int .i64) d]=>some ⟨.tup [⟨false,[.ref 1]⟩,⟨false,[al7 (pR a b c d)]⟩],[ama d],[amj (eC a b c d)],[]⟩
 |_,_=>none
def FW:PF prog:=PF.ofG prog (T3z [Dp,Hk]) [] aS 7 f7 func7 (fun c _=>LOk.nil c) Mz (by
 intro _ _ _ h;unfold Mz at h;split at h<;>cases h;kernel_rfl)
section
variable (a:al4)
def nR:Bool:=Ay (bo a) (bT a) (bU a) (bp a)!=pR (bo a) (bT a) (bU a) (bp a)
def vW:al1:=bif !nR a&&true then sH (bo a) (bT a) (bU a) (bp a)else sH (bo a) (bT a) (bU a) (bp a)
def sO:Bool:=bif Km a then true else bif bif nR a then true else !Ed (sH (bo a) (bT a) (bU a) (bp a)) (eC (bo a) (bT a) (bU a) (bp a))then false else bif Ay (bo a) (bT a) (bU a) (bp a)!=0 then true else bif Jh (bo a) (bp a) (vW a)==0 then rvF (bo a) (bp a) (vW a)==(↑(List.length (bif !nR a&&true then eC (bo a) (bT a) (bU a) (bp a)else eC (bo a) (bT a) (bU a) (bp a))):Int)else false
def sP:Bool:=allT [Km a||wa a,Km a||Az (bo a) (bT a) (bU a) (bp a),Km a||(!(!nR a&&true)||Ee (sH (bo a) (bT a) (bU a) (bp a)) (eC (bo a) (bT a) (bU a) (bp a)))]
end
def Js:al6
 | [.one ⟨false,[.ref 0]⟩],[.row false 5 (.int .u8) a]=>some ⟨al8 (.val (.bool (sO a))),[ami a],[],[sP a]⟩
 |_,_=>none
def RE:PF prog:=PF.ofG prog (T3z [Ys,AV,FU,FW,Kt,Kr]) [] aS 3 f3 func3 (fun c _=>LOk.nil c) Js (by
 intro _ _ _ h;unfold Js at h;split at h<;>cases h;kernel_rfl)
set_option maxHeartbeats 1000000
theorem akU{c:al4}(hb: ∀ (i:Nat) (x:Int),c[i]? =some x→0≤x∧x≤255)(h:Km c=false):mE 0 0 c=true:=by
 have:=Gf.1 h
 refine VY.2 ⟨by omega,by omega,by omega,fun x hx=> ?_⟩
 obtain⟨i,hi⟩:=List.getElem?_of_mem hx
 exact hb i x hi
theorem ajl(n d:Int)(s:Bool)(ps tr:al4):(evE n d s ps tr).length≤500:=by
 simp only [evE]
 cases h:eqI (OD n d s ps tr) 0 with
 |false=>simp
 |true=>
  have h:=QC.1 h
  simp only [cond_true,evW,List.length_map]
  cases hr:isR n d ps with
  |false=>
   simp only [OD,hr,cond_false]at h
   rw [DW.1 h]at hr;cases hr
  |true=>
   simp only [OD,hr,cond_true]at h
   cases hl:leN tr.length 200 with
   |true=>have:=uk.1 hl;omega
   |false=>rw [hl]at h;simp at h
theorem Xb(c:al4)(hb: ∀ (i:Nat) (x:Int),c[i]? =some x→0≤x∧x≤255):
  sO c=true∧sP c=true:=by
 cases hbig:Km c with
 |true=>simp [sO,sP,allT,hbig]
 |false=>
  have hsrc:=akU hb hbig
  have hd4:wa c=true:=by
   simp only [wa,allT,hsrc,(ZM 0 (frS c) c (ag2 c hsrc).2).1,cond_true]
  generalize hN:bo c=n
  generalize hD:bT c=d
  generalize hS:bU c=s
  generalize hP:bp c=ps
  obtain⟨u2,_,hfu⟩:=akb n d s ps
  have e0:Ay n d s ps=pR n d s ps:=rfl
  have e1:sH n d s ps=eC n d s ps:=rfl
  have e2:Az n d s ps=true:=by simp only [Az,u2,allT,cond_true]
  have hel:(eC n d s ps).length≤500:=by
   simp only [eC]
   cases sd n d s ps with
   |true=>simp
   |false=>exact ajl n d s ps _
  obtain⟨k1,k2⟩:=ahI (eC n d s ps) hel
  have a0:nR c=false:=by simp only [nR,hN,hD,hS,hP,e0,bne_self_eq_false]
  have a1:vW c=eC n d s ps:=by simp only [vW,a0,hN,hD,hS,hP,e1,w6]
  refine⟨?_,by simp only [sP,allT,hbig,hd4,e2,a0,hN,hD,hS,hP,e1,k2,w5,Bool.false_or,cond_true]⟩
  simp only [sO,hbig,a0,a1,hN,hD,hS,hP,e0,e1,k1,Bool.not_true,w6,cond_false]
  cases hc:(pR n d s ps !=0)with
  |true=>rfl
  |false=>
   simp only [cond_false]
   have hc0:pR n d s ps=0:=by simpa using hc
   rcases hfu with h | ⟨M,i,e,hR,hM,he,hu,hf,h0,h1⟩
   ·have hb:(impl_FirstUnsafeTrace_0 n d s ps !=0)=true:=by simpa using h
    simp only [pR,sd,hb,cond_true]at hc0
    exact absurd hc0 h
   ·have hb:sd n d s ps=false:=by simp only [sd,h0];rfl
    simp only [pR,hb,h1,cond_false]at hc0
    have hl:e.2.length≤200:=by
     simp only [OD,hR,cond_true]at hc0
     cases hl:leN e.2.length 200 with
     |true=>exact uk.1 hl
     |false=>rw [hl]at hc0;simp at hc0
    obtain⟨g1,g2,g3,g4⟩:=ad0 hR hM he hu hf hl
    have e5:eC n d s ps=evW (kL ps.length n.toNat d.toNat s) e.2:=by
     simp only [eC,hb,h1,cond_false,g2]
    rw [e5,g3,g4]
    have jw:(evW (kL ps.length n.toNat d.toNat s) e.2).length=e.2.length:=by simp only [evW,List.length_map]
    rw [jw]
    simp
theorem akB(c:al4)(w:wfD (.sl 5 (.int .u8)) c):sO c=true∧sP c=true:=
 Xb c fun _ _ hx=>alA (w.2 _ (List.mem_of_getElem? hx))
end Go.SX
