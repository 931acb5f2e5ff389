/- What functions of the program come to, and what that says in plain words: part 4. -/
import Derived.Test.YtbbfgoobcjlooaaGreatDoorMc
import Derived.Test.YtbbfgoobcjlooaaGreatDoorTXh
import Derived.Test.YtbbfgoobcjlooaaGreatDoorProg
import Derived.Test.YtbbfgoobcjlooaaGreatDoorTXi
set_option linter.unusedSimpArgs false
set_option linter.unusedVariables false
namespace Go.SX
open Go.Proofs Go.Proofs.Tryz
set_option maxRecDepth 100000
structure ScH (ins vs os:List ByteArray) (inp:List Int) (ls:List LN):Prop where
 hi:bitsB ins.length inp=true
 hL:ls.all lineB=true
 hm:ls.all (madeB vs os)=true
 hu:ls.all (fun l=>l.2.all (usedB ins vs))=true
 hn:ls.length≤40
 h1:ins.length≤20
 h2:vs.length≤20
 h3:os.length≤20
theorem anf: ∀ (ls:List LN),ls.all lineB=true→(blL ls).length≤40 * ls.length
 | [],_=>by simp [blL]
 |l::r,h=>by
  simp only [List.all_cons,Bool.and_eq_true]at h
  have h1:=anf r h.2
  have h2:=(ZP h.1).2.1
  have h3:(blT l.2).length≤l.2.length:=List.length_filter_le ..
  have h4:blL (l::r)=blT l.2++blL r:=rfl
  rw [h4,List.length_append,List.length_cons]
  omega
theorem ScH.bl{ins vs os:List ByteArray}{inp:List Int}{ls:List LN}(h:ScH ins vs os inp ls):(blL ls).length≤1600:=by
 have:=anf ls h.hL
 have:=h.hn
 omega
theorem ScH.line{ins vs os:List ByteArray}{inp:List Int}{ls:List LN}(h:ScH ins vs os inp ls){i:Nat}{a:SS4}{l:LN}(hl:ls[i]? =some l)(hI:ScAt vs os ls i a):
  LineH ins vs inp a.1 (blL (ls.take i)) (blL (ls.drop (i + 1))) l.2:=by
 have hm:=List.mem_of_getElem? hl
 obtain⟨q1,q2,q3⟩:=ZP (List.all_eq_true.1 h.hL l hm)
 have h1:=h.h1
 have h2:=h.h2
 have hb:=h.bl
 rw [(ZF hl).1]at hb
 exact⟨h.hi,hI.hx,⟨1,q3⟩,List.all_eq_true.1 h.hu l hm,q2,by omega,dx (by omega),dx (by omega)⟩
theorem alE{ins vs os:List ByteArray}{inp:List Int}{ls:List LN}(h:ScH ins vs os inp ls){i:Nat}{a:SS4}{l:LN}(hl:ls[i]? =some l)(hI:ScAt vs os ls i a)(u v:ByteArray):
  (jU u v (a.2.2.2:Int) l.2 ins vs os ls a.1 a.2.2.1 inp a.2.1=u∧
  jV u v (a.2.2.2:Int) l.2 ins vs os ls a.1 a.2.2.1 inp a.2.1=v∧
  jW u v (a.2.2.2:Int) l.2 ins vs os ls a.1 a.2.2.1 inp a.2.1=((scS ins vs os inp l a).2.2.2:Int))∧
  jX l.1 u v (a.2.2.2:Int) l.2 ins vs os ls a.1 a.2.2.1 inp a.2.1=(scS ins vs os inp l a).1∧
  jY u v (a.2.2.2:Int) l.2 ins vs os ls a.1 a.2.2.1 inp a.2.1=(scS ins vs os inp l a).2.2.1∧
  jZ l.1 u v (a.2.2.2:Int) l.2 ins vs os ls a.1 a.2.2.1 inp a.2.1=(scS ins vs os inp l a).2.1∧
  fH l.1 u v (a.2.2.2:Int) l.2 ins vs os ls a.1 a.2.2.1 inp a.2.1=true:=by
 obtain⟨w1,w2⟩:=anB (h.line hl hI) u v os ls a.2.1 a.2.2.1 a.2.2.2 (afe hl hI)
 have hm:=List.mem_of_getElem? hl
 obtain⟨g1,g2,g3⟩:=Vd (ins:=ins) (inp:=inp) h.hi (List.all_eq_true.1 h.hL l hm) hl hI
 have hmd:(mu vs l.1||mu os l.1)=true:=List.all_eq_true.1 h.hm l hm
 have h2:=h.h2
 have h3:=h.h3
 have hx:=(ir.1 hI.hx).2
 have ho:=(ir.1 hI.ho).2
 rw [show acx ins vs inp a.1 l.2 ([],a.2.2.1,a.2.2.2)=lnV ins vs inp l a from rfl]at w2
 have e5:fj u v (a.2.2.2:Int) l.2 ins vs os ls a.1 a.2.2.1 inp a.2.1=(lnV ins vs inp l a).1:=by
  simp only [fj,cC,bI,w2]
 have e6:jr u v (a.2.2.2:Int) l.2 ins vs os ls a.1 a.2.2.1 inp a.2.1=atZ (lnV ins vs inp l a).1 0:=by
  simp only [jr,e5];rfl
 have e7:jt u v (a.2.2.2:Int) l.2 ins vs os ls a.1 a.2.2.1 inp a.2.1=true:=by
  simp only [jt,e5,g1];rfl
 have e8:ju u v (a.2.2.2:Int) l.2 ins vs os ls a.1 a.2.2.1 inp a.2.1=true:=by
  simp only [ju,e5,g1];rfl
 have z0:leI (0:Int) 0=true:=rfl
 refine⟨⟨?_,?_,?_⟩,?_,?_,?_,?_⟩
 ·simp only [jU,dw,cC,bI,w2]
 ·simp only [jV,fh,dw,cC,bI,w2]
 ·simp only [jW,jq,fh,dw,cC,bI,w2,scS]
 ·simp only [jX,e6,Qf,scS]
  cases hv:mu vs l.1 with
  |true=>simp only [cond_true,PD hv,Int.toNat_natCast]
  |false=>rfl
 ·simp only [jY,jq,fh,dw,cC,bI,w2,scS]
 ·simp only [jZ,e6,Qf,scS]
  cases hv:mu vs l.1 with
  |true=>rfl
  |false=>
   have ho':mu os l.1=true:=by simpa [hv] using hmd
   simp only [cond_false,PD ho',Int.toNat_natCast]
 ·have l1:leN vs.length 9223372036854775807=true:=dx (by omega)
  have l2:leN os.length 9223372036854775807=true:=dx (by omega)
  have hf:Lp.fin al (bI u v (a.2.2.2:Int) l.2 ins vs os ls a.1 a.2.2.1 inp a.2.1)=true:=w1
  cases hv:mu vs l.1 with
  |true=>
   have hp:=VY hv
   have k1:ltI (Qx vs l.1:Int) (a.1.length:Int)=true:=eQ (by omega)
   have k2:ltN (Qx vs l.1) a.1.length=true:=ib (by omega)
   simp only [fH,hf,Qf,hv,PD hv,OK.1,e7,e8,z0,l1,k1,k2,allT,Int.toNat_natCast,Bool.or_true,Bool.true_or,cond_true]
  |false=>
   have ho':mu os l.1=true:=by simpa [hv] using hmd
   have hp:=VY ho'
   have k1:ltI (Qx os l.1:Int) (a.2.1.length:Int)=true:=eQ (by omega)
   have k2:ltN (Qx os l.1) a.2.1.length=true:=ib (by omega)
   simp only [fH,hf,Qf,hv,ho',PD ho',OK.1,e7,e8,z0,l1,l2,k1,k2,allT,Int.toNat_natCast,Bool.or_true,Bool.true_or,Bool.not_false,cond_true]
theorem anC{ins vs os:List ByteArray}{inp:List Int}{ls:List LN}(h:ScH ins vs os inp ls){i:Nat}{a:SS4}{l:LN}(hl:ls[i]? =some l)(hI:ScAt vs os ls i a)(u v:ByteArray):
  Ej u v (a.2.2.2:Int) ins vs os ls a.1 a.2.2.1 inp l.2=atZ (lnV ins vs inp l a).1 0∧
  Ek u v (a.2.2.2:Int) ins vs os ls a.1 a.2.2.1 inp l.2=a.1∧
  El u v (a.2.2.2:Int) ins vs os ls a.1 a.2.2.1 inp l.2=(scS ins vs os inp l a).2.2.1∧
  Em u v (a.2.2.2:Int) ins vs os ls a.1 a.2.2.1 inp l.2=true:=by
 obtain⟨w1,w2⟩:=anD (h.line hl hI) u v os ls a.2.2.1 a.2.2.2 (afe hl hI)
 have hm:=List.mem_of_getElem? hl
 obtain⟨g1,g2,g3⟩:=Vd (ins:=ins) (inp:=inp) h.hi (List.all_eq_true.1 h.hL l hm) hl hI
 rw [show acx ins vs inp a.1 l.2 ([],a.2.2.1,a.2.2.2)=lnV ins vs inp l a from rfl]at w2
 have e2:xj u v (a.2.2.2:Int) ins vs os ls a.1 a.2.2.1 inp l.2=(lnV ins vs inp l a).1:=by
  simp only [xj,xh,tE,w2]
 have z0:leI (0:Int) 0=true:=rfl
 have k1:ltI 0 ((lnV ins vs inp l a).1.length:Int)=true:=by rw [g1];rfl
 have k2:ltN (Int.toNat 0) (lnV ins vs inp l a).1.length=true:=by rw [g1];rfl
 have hf:Lp.fin aY (tE u v (a.2.2.2:Int) ins vs os ls a.1 a.2.2.1 inp l.2)=true:=w1
 refine⟨?_,?_,?_,?_⟩
 ·simp only [Ej,e2];rfl
 ·simp only [Ek,CP,xh,tE,w2]
 ·simp only [El,CP,xh,tE,w2,scS]
 ·simp only [Em,hf,e2,z0,k1,k2,allT,cond_true]
def alh(n:Nat)(t:TM):Nat:=bif leI 7 t.1 then n + 1 else n
theorem aio: ∀ (ts:List TM) (n:Nat),ts.foldl alh n=n + (blT ts).length
 | [],n=>by simp [blT]
 |t::r,n=>by
  rw [List.foldl_cons,aio r]
  simp only [alh,blT,List.filter_cons]
  cases leI 7 t.1 <;> simp <;> omega
theorem aoN(u v:ByteArray)(ins vs os:List ByteArray)(ls:List LN){i k:Nat}{l:LN}(hl:ls[i]? =some l)(hn:l.2.length≤40)(hk:k≤2000):
  ft.fin ((0:Int),(i:Int),(k:Int),u,v,ins,vs,os,ls)=true∧
  ft.res ((0:Int),(i:Int),(k:Int),u,v,ins,vs,os,ls)=(0,((l.2.length:Int),(i:Int),((k + (blT l.2).length:Nat):Int),u,v,ins,vs,os,ls)):=by
 have fa:=(List.getElem?_eq_some_iff.1 hl).1
 have n0:leI 0 (i:Int)=true:=cw (by omega)
 have n1:ltI (i:Int) (ls.length:Int)=true:=eQ (by omega)
 have n2:ltN i ls.length=true:=ib fa
 have jS: ∀ d:LN,Option.getD ls[i]? d=l:=fun d=>by rw [hl];rfl
 have g0:xk (i:Int) ls=l.2:=by simp only [xk,Int.toNat_natCast];exact congrArg Prod.snd (jS _)
 have jT:=ft.along2 (fun j (a:Nat)=>((j:Int),(i:Int),(a:Int),u,v,ins,vs,os,ls)) (fun x=>x.2.2.1.toNat)
  (fun(t:TM) a=> .inr (alh a t)) 0 (fun j a=>a≤k + j) l.2 k (by omega) (by omega) (fun j t a hb hI=> ?_) (fun a hI=> ?_)
 ·rw [JS (g:=alh) (fun b a=>rfl),aio]at jT
  simpa using jT
 ·have hjt:=(List.getElem?_eq_some_iff.1 hb).1
  have hw:IntKind.i64.wrap ((j:Int) + 1)=((j + 1:Nat):Int):=by rw [aT (by omega) (by omega)];omega
  have hw2:IntKind.i64.wrap ((a:Int) + 1)=((a + 1:Nat):Int):=by rw [aT (by omega) (by omega)];omega
  have l0:leI 0 (j:Int)=true:=cw (by omega)
  have l1:ltI (j:Int) (l.2.length:Int)=true:=eQ (by omega)
  have l2:ltN j l.2.length=true:=ib hjt
  have c7:JQ (j:Int) (i:Int) (a:Int) ls=((alh a t:Nat):Int):=by
   simp only [JQ,g0,Int.toNat_natCast,hb,Option.getD_some,hw2,alh]
   cases leI 7 t.1 <;> rfl
  refine⟨?_,?_,?_,fun a' hf=> ?_⟩
  ·simp only [ft,wY,Eo,Ep,Er,vo,Qa,Qb,LT.nds,allT,g0,n0,n1,n2,l0,l1,l2,Int.toNat_natCast,cond_true,Bool.and_self]
  ·simp only [ft,wY,vo,Qc,LT.each,c7,g0,l1,hw,Int.toNat_natCast,Bool.and_true,and_self]
  ·simp only [ft,wY,vo,LT.fn,c7,g0,l1,Int.toNat_natCast,cond_true]
  ·simp only [Sum.inr.injEq]at hf
   subst hf
   simp only [alh]
   cases leI 7 t.1 <;> simp <;> omega
 ·have cq:ltI (l.2.length:Int) (l.2.length:Int)=false:=Na (by omega)
  simp [ft,wY,Eo,Ep,Er,vo,LT.out,g0,n0,n1,n2,cq,allT]
theorem ajb(ins vs os:List ByteArray)(inp:List Int): ∀ (ls:List LN) (a:SS4),ls.foldl (fun a l=>scS ins vs os inp l a) a=alW ins vs os inp ls a
 | [],a=>rfl
 |l::r,a=>by rw [List.foldl_cons,ajb ins vs os inp r];rfl
theorem anW{ins vs os:List ByteArray}{inp xs:List Int}{ss:List BS3}{ls:List LN}(h:ScH ins vs os inp ls)(hs:JR vs.length (blL ls) xs ss=true)(u v:ByteArray):
  iy.fin ((0:Int),(0:Int),u,v,inp,List.replicate os.length 0,ins,vs,os,ls,xs,ss)=true∧
  iy.res ((0:Int),(0:Int),u,v,inp,List.replicate os.length 0,ins,vs,os,ls,xs,ss)=
   (0,((ls.length:Int),((scE ins vs os ls inp xs ss).2.2.2:Int),u,v,inp,(scE ins vs os ls inp xs ss).2.1,ins,vs,os,ls,(scE ins vs os ls inp xs ss).1,(scE ins vs os ls inp xs ss).2.2.1)):=by
 obtain⟨s1,s2,s3⟩:=Pz.1 hs
 have h0:ScAt vs os ls 0 (xs,List.replicate os.length 0,ss,0):=⟨s2,ir.2 ⟨fun z hz=> .inl (List.eq_of_mem_replicate hz),by simp⟩,s1,s3,by simp [blL]⟩
 have hn:=h.hn
 have h2:=h.h2
 have h3:=h.h3
 have jT:=iy.along2 (fun i (a:SS4)=>((i:Int),(a.2.2.2:Int),u,v,inp,a.2.1,ins,vs,os,ls,a.1,a.2.2.1)) (fun x=>(x.2.2.2.2.2.2.2.2.2.2.1,x.2.2.2.2.2.1,x.2.2.2.2.2.2.2.2.2.2.2,x.2.1.toNat))
  (fun(l:LN) a=> .inr (scS ins vs os inp l a)) 0 (fun i a=>ScAt vs os ls i a) ls (xs,List.replicate os.length 0,ss,0) h0 (by omega) (fun i l a hb hI=> ?_) (fun a hI=> ?_)
 ·rw [JS (g:=fun a l=>scS ins vs os inp l a) (fun b a=>rfl),ajb]at jT
  simpa [scE] using jT
 ·have fa:=(List.getElem?_eq_some_iff.1 hb).1
  have hm:=List.mem_of_getElem? hb
  have hL:=List.all_eq_true.1 h.hL l hm
  have hw:IntKind.i64.wrap ((i:Int) + 1)=((i + 1:Nat):Int):=by rw [aT (by omega) (by omega)];omega
  obtain⟨g1,g2,g3⟩:=Vd (ins:=ins) (inp:=inp) h.hi hL hb hI
  obtain⟨r0,r1,r2,r3⟩:=anC h hb hI u v
  have hbl:=h.bl
  have hsp:=(ZF hb).2
  have hspl:=(ZF hb).1
  have hk1:=hI.hk
  have hk2:=g3.hk
  have hkk:a.2.2.2≤2000:=by
   rw [hspl,List.length_append,List.length_append]at hbl
   omega
  obtain⟨c1,c2⟩:=aoN u v ins vs os ls hb (ZP hL).2.1 hkk
  have hknew:a.2.2.2 + (blT l.2).length=(scS ins vs os inp l a).2.2.2:=by omega
  have hmd:(mu vs l.1||mu os l.1)=true:=List.all_eq_true.1 h.hm l hm
  have hx:=(ir.1 hI.hx).2
  have ho:=(ir.1 hI.ho).2
  have q0:MR (i:Int) ls=true:=eQ (by omega)
  have q1:MS (i:Int) ls=true:=ib (by simpa using fa)
  have jS: ∀ d:LN,Option.getD ls[i]? d=l:=fun d=>by rw [hb];rfl
  have q2:rL (i:Int) ls=l:=by simp only [rL,Int.toNat_natCast];exact jS _
  have q3:dm (i:Int) vs ls=iI vs l.1:=by simp only [dm,q2]
  have q5:xR (i:Int) os ls=iI os l.1:=by simp only [xR,q2]
  have q4:xQ (i:Int) (a.2.2.2:Int) u v inp ins vs os ls a.1 a.2.2.1=a.1:=by simp only [xQ,q2,r1]
  have q7:Ha (i:Int) (a.2.2.2:Int) u v inp ins vs os ls a.1 a.2.2.1=atZ (lnV ins vs inp l a).1 0:=by simp only [Ha,q2,r0]
  have p1:Ou (i:Int)=true:=cw (by omega)
  have p3:Ow (i:Int) (a.2.2.2:Int) u v inp ins vs os ls a.1 a.2.2.1=true:=by simp only [Ow,q2,r3]
  have p4:TB vs=true:=dx (by omega)
  have p15:SJ (i:Int) (a.2.2.2:Int) u v ins vs os ls=true:=c1
  have p16:SK (i:Int)=((i + 1:Nat):Int):=hw
  have p17:MN (i:Int) (a.2.2.2:Int) u v ins vs os ls=((scS ins vs os inp l a).2.2.2:Int):=by
   simp only [MN,MT,c2,hknew]
  have p20:MQ (i:Int) (a.2.2.2:Int) u v inp ins vs os ls a.1 a.2.2.1=(scS ins vs os inp l a).2.2.1:=by simp only [MQ,q2,r2]
  have p18:MO (i:Int) (a.2.2.2:Int) u v inp a.2.1 ins vs os ls a.1 a.2.2.1=(scS ins vs os inp l a).2.1:=by
   simp only [MO,q3,q5,q7,Qf,scS]
   cases hv:mu vs l.1 with
   |true=>rfl
   |false=>
    have ho':mu os l.1=true:=by simpa [hv] using hmd
    simp only [cond_false,PD ho',Int.toNat_natCast]
  have p19:MP (i:Int) (a.2.2.2:Int) u v inp ins vs os ls a.1 a.2.2.1=(scS ins vs os inp l a).1:=by
   simp only [MP,q3,q4,q7,Qf,scS]
   cases hv:mu vs l.1 with
   |true=>simp only [cond_true,PD hv,Int.toNat_natCast]
   |false=>rfl
  have pm:Ox (i:Int) vs ls=true∧Oy (i:Int) (a.2.2.2:Int) u v inp ins vs os ls a.1 a.2.2.1=true∧Oz (i:Int) (a.2.2.2:Int) u v inp ins vs os ls a.1 a.2.2.1=true∧
    OA (i:Int) vs ls=true∧OB (i:Int) vs ls=true∧MI (i:Int) vs ls=true∧MJ (i:Int) vs os ls=true∧
    MK (i:Int) vs os ls=true∧ML (i:Int) a.2.1 vs os ls=true∧MM (i:Int) a.2.1 vs os ls=true:=by
   simp only [Ox,Oy,Oz,OA,OB,MI,MJ,MK,ML,MM,q0,q1,q3,q4,q5,Qf]
   have m1:leI 0 (i:Int)=true:=p1
   have m2:leN os.length 9223372036854775807=true:=dx (by omega)
   cases hv:mu vs l.1 with
   |true=>
    have hp:=VY hv
    have k1:ltI (Qx vs l.1:Int) (a.1.length:Int)=true:=eQ (by omega)
    have k2:ltN (Qx vs l.1) a.1.length=true:=ib (by omega)
    simp only [PD hv,OK.1,k1,k2,Int.toNat_natCast,Bool.or_true,Bool.true_or,and_self]
   |false=>
    have ho':mu os l.1=true:=by simpa [hv] using hmd
    have hp:=VY ho'
    have k1:ltI (Qx os l.1:Int) (a.2.1.length:Int)=true:=eQ (by omega)
    have k2:ltN (Qx os l.1) a.2.1.length=true:=ib (by omega)
    simp only [ho',PD ho',OK.1,k1,k2,m1,m2,Int.toNat_natCast,Bool.or_true,Bool.true_or,Bool.not_false,and_self]
  obtain⟨m5,m6,m7,m8,m9,m10,m11,m12,m13,m14⟩:=pm
  have p0:En (i:Int) ls=true:=q0
  have p2:Ov (i:Int) ls=true:=q1
  refine⟨?_,?_,?_,fun a' hf=> ?_⟩
  ·simp only [iy,BZ,LT.nds,allT,p0,p1,p2,p3,p4,m5,m6,m7,m8,m9,m10,m11,m12,m13,m14,p15,cond_true,Bool.and_self]
  ·simp only [iy,BZ,LT.each,p0,p16,p17,p18,p19,p20,Int.toNat_natCast,Bool.and_true,and_self]
  ·simp only [iy,BZ,LT.fn,p0,p17,p18,p19,p20,Int.toNat_natCast,cond_true]
  ·simp only [Sum.inr.injEq]at hf
   subst hf;exact g3
 ·have cq:En (ls.length:Int) ls=false:=Na (by omega)
  simp [iy,BZ,LT.out,cq]
theorem anV{ins vs os:List ByteArray}{inp xs:List Int}{ss:List BS3}{ls:List LN}(h:ScH ins vs os inp ls)(hs:JR vs.length (blL ls) xs ss=true)(u v:ByteArray):
  aF.fin ((0:Int),(ls.length:Int),ls,u,v,(0:Int),ins,vs,os,xs,ss,inp,List.replicate os.length 0)=true∧
  aF.res ((0:Int),(ls.length:Int),ls,u,v,(0:Int),ins,vs,os,xs,ss,inp,List.replicate os.length 0)=
   (0,((ls.length:Int),(ls.length:Int),ls,u,v,((scE ins vs os ls inp xs ss).2.2.2:Int),ins,vs,os,(scE ins vs os ls inp xs ss).1,(scE ins vs os ls inp xs ss).2.2.1,inp,(scE ins vs os ls inp xs ss).2.1)):=by
 obtain⟨s1,s2,s3⟩:=Pz.1 hs
 have h0:ScAt vs os ls 0 (xs,List.replicate os.length 0,ss,0):=⟨s2,ir.2 ⟨fun z hz=> .inl (List.eq_of_mem_replicate hz),by simp⟩,s1,s3,by simp [blL]⟩
 have hn:=h.hn
 have jT:=aF.along2 (fun i (a:SS4)=>((i:Int),(ls.length:Int),ls,u,v,(a.2.2.2:Int),ins,vs,os,a.1,a.2.2.1,inp,a.2.1)) (fun x=>(x.2.2.2.2.2.2.2.2.2.1,x.2.2.2.2.2.2.2.2.2.2.2.2,x.2.2.2.2.2.2.2.2.2.2.1,x.2.2.2.2.2.1.toNat))
  (fun(l:LN) a=> .inr (scS ins vs os inp l a)) 0 (fun i a=>ScAt vs os ls i a) ls (xs,List.replicate os.length 0,ss,0) h0 (by omega) (fun i l a hb hI=> ?_) (fun a hI=> ?_)
 ·rw [JS (g:=fun a l=>scS ins vs os inp l a) (fun b a=>rfl),ajb]at jT
  simpa [scE] using jT
 ·have fa:=(List.getElem?_eq_some_iff.1 hb).1
  have hm:=List.mem_of_getElem? hb
  have hw:IntKind.i64.wrap ((i:Int) + 1)=((i + 1:Nat):Int):=by rw [aT (by omega) (by omega)];omega
  obtain⟨g1,g2,g3⟩:=Vd (ins:=ins) (inp:=inp) h.hi (List.all_eq_true.1 h.hL l hm) hb hI
  obtain⟨⟨r0,r1,r2⟩,r3,r4,r5,r6⟩:=alE h hb hI u v
  have jS: ∀ d:LN,Option.getD ls[i]? d=l:=fun d=>by rw [hb];rfl
  have q0:aM (i:Int) ls=l:=by simp only [aM,Int.toNat_natCast];exact jS _
  have p0:ltI (i:Int) (ls.length:Int)=true:=eQ (by omega)
  have p1:leI 0 (i:Int)=true:=cw (by omega)
  have p3:ltN i ls.length=true:=ib fa
  refine⟨?_,?_,?_,fun a' hf=> ?_⟩
  ·simp only [ge,gf,gg,gh,gi,gj,gk,gm,gn,gp,fF,fG,fL,aF,LT.nds,allT,q0,r0,r1,r2,r3,r4,r5,r6,p0,p1,p3,Int.toNat_natCast,cond_true,Bool.and_self]
  ·simp only [ge,gf,gg,gh,gi,gj,gk,gm,gn,gp,fF,fG,fL,aF,LT.each,q0,r0,r1,r2,r3,r4,r5,p0,hw,Int.toNat_natCast,Bool.and_true,and_self]
  ·simp only [ge,gf,gg,gh,gi,gj,gk,gm,gn,gp,fF,fG,fL,aF,LT.fn,q0,r2,r3,r4,r5,p0,Int.toNat_natCast,cond_true]
  ·simp only [Sum.inr.injEq]at hf
   subst hf;exact g3
 ·have cq:ltI (ls.length:Int) (ls.length:Int)=false:=Na (by omega)
  simp [ge,gf,gg,gh,gi,gj,gk,gm,gn,gp,fF,fG,fL,aF,LT.out,cq]
theorem aj9: ∀ (ts:List TM) (n e:Int),htT ts n=some e→adv (blT ts)=true
 | [],n,e,_=>rfl
 |t::r,n,e,h=>by
  simp only [htT]at h
  cases hc:(termB t.1 t.2.1 t.2.2&&leI (takesK t.1) n)with
  |false=>rw [hc]at h;cases h
  |true=>
   rw [hc,cond_true]at h
   simp only [Bool.and_eq_true]at hc
   have h1:=aj9 r _ e h
   cases h7:leI 7 t.1 with
   |false=>simpa only [blT,List.filter_cons,h7,Bool.false_eq_true,if_false] using h1
   |true=>
    simp only [blT,List.filter_cons,h7,if_true,adv,List.all_cons,Bool.and_eq_true]
    exact⟨SN hc.1 h7,h1⟩
theorem ajO: ∀ (ls:List LN),ls.all lineB=true→adv (blL ls)=true
 | [],_=>rfl
 |l::r,h=>by
  simp only [List.all_cons,Bool.and_eq_true]at h
  have h1:=ajO r h.2
  have h2:=aj9 _ _ _ (ZP h.1).2.2
  have h4:blL (l::r)=blT l.2++blL r:=rfl
  simp only [adv]at h1 h2
  simp only [h4,adv,List.all_append,h1,h2,Bool.and_self]
theorem ZY{nm:ByteArray}{ins vs os:List ByteArray}{g:ByteArray}{ls:List LN}(h:Cp nm ins vs os g ls=true):
  (g.toList== []||Vb ins vs g)=true∧ls.all lineB=true∧ls.all (madeB vs os)=true∧ls.all (fun l=>l.2.all (usedB ins vs))=true∧ls.length≤40∧ins.length≤20∧vs.length≤20∧os.length≤20:=by
 simp only [Cp,afV,am2,aeR,Bool.and_eq_true,GA]at h
 obtain⟨⟨_,⟨_,i1⟩,⟨_,i2⟩,⟨_,i3⟩,_,hL,hn⟩,_,hg,hm,_,_,hu⟩:=h
 exact⟨hg,hL,hm,hu,by omega,by omega,by omega,by omega⟩
theorem ajt{nm:ByteArray}{ins vs os:List ByteArray}{g:ByteArray}{ls:List LN}{inp:List Int}(h:Cp nm ins vs os g ls=true)(hi:bitsB ins.length inp=true):ScH ins vs os inp ls:=by
 obtain⟨_,hL,hm,hu,hn,h1,h2,h3⟩:=ZY h
 exact⟨hi,hL,hm,hu,hn,h1,h2,h3⟩
def scG(nm:ByteArray)(ins vs os:List ByteArray)(g:ByteArray)(ls:List LN)(xs:List Int)(ss:List BS3)(inp:List Int):Bool:=Cp nm ins vs os g ls&&(JR vs.length (blL ls) xs ss&&bitsB ins.length inp)
theorem ad6{nm:ByteArray}{ins vs os:List ByteArray}{g:ByteArray}{ls:List LN}{xs:List Int}{ss:List BS3}{inp:List Int}:
  scG nm ins vs os g ls xs ss inp=true↔Cp nm ins vs os g ls=true∧JR vs.length (blL ls) xs ss=true∧bitsB ins.length inp=true:=by
 simp only [scG,Bool.and_eq_true]
theorem akP(nm:ByteArray)(ins vs os:List ByteArray)(g:ByteArray)(ls:List LN)(xs:List Int)(ss:List BS3)(inp:List Int)(h:scG nm ins vs os g ls xs ss inp=true):
  Oo nm g ins vs os ls xs ss inp=scO ins vs os g ls inp xs ss∧Oq nm g ins vs os ls xs ss inp=scV ins vs os ls inp xs ss∧
  Or nm g ins vs os ls xs ss inp=scB ins vs os ls inp xs ss∧Ot nm g ins vs os ls xs ss inp=true:=by
 obtain⟨h1,h2,h3⟩:=ad6.1 h
 obtain⟨hg,_⟩:=ZY h1
 have hS:=ajt h1 h3
 obtain⟨w1,w2⟩:=anW hS h2 nm g
 have hE:=alV (os:=os) h3 hS.hL h2
 obtain⟨s1,s2,s3⟩:=Pz.1 h2
 have hb:=hS.bl
 have b1:=hS.h1
 have b2:=hS.h2
 have b3:=hS.h3
 have hx2:=(ir.1 s2).2
 have a1:LW os=List.replicate os.length 0:=by simp only [LW,Int.toNat_natCast]
 have a0:Df g= !(g.toList== []):=by simp only [Df,Nd]
 have e3:LX nm g ins vs os ls xs ss inp=((scE ins vs os ls inp xs ss).2.1,ins,vs,os,ls,(scE ins vs os ls inp xs ss).1,(scE ins vs os ls inp xs ss).2.2.1):=by
  simp only [LX,Hq,a1,w2]
 have e5:Dg nm g ins vs os ls xs ss inp=(scE ins vs os ls inp xs ss).1:=by simp only [Dg,LY,e3]
 have e8:Ma nm g ins vs os ls xs ss inp=(scE ins vs os ls inp xs ss).2.2.1:=by simp only [Ma,LY,e3]
 have e7:LZ nm g ins vs os ls xs ss inp=(scE ins vs os ls inp xs ss).1:=by simp only [LZ,e5];exact Bool.cond_self _ _
 have e9:Mb nm g ins vs os ls xs ss inp=(scE ins vs os ls inp xs ss).2.2.1:=by simp only [Mb,e8];exact Bool.cond_self _ _
 have hv:(g.toList== [])=false→rU g ins vs (scE ins vs os ls inp xs ss).1 inp=nmV ins vs inp (scE ins vs os ls inp xs ss).1 g∧rV g ins vs (scE ins vs os ls inp xs ss).1 inp=true:=fun hgg=>by
  rw [hgg,Bool.false_or]at hg
  have q1:=(ir.1 h3).2
  have q2:=(ir.1 hE.hx).2
  exact aeh g ins vs inp _ hg (dx (by omega)) (dx (by omega)) (by omega) (by omega)
 have e6:tT nm g ins vs os ls xs ss inp=(!(g.toList== [])&&nmV ins vs inp (scE ins vs os ls inp xs ss).1 g==0):=by
  simp only [tT,a0,e5]
  cases hgg:g.toList== []with
  |true=>rfl
  |false=>simp only [Bool.not_false,cond_true,(hv hgg).1,Bool.true_and]
 refine⟨?_,?_,?_,?_⟩
 ·simp only [Oo,e6,e3,a1,scO]
 ·simp only [Oq,e7,scV];exact Bool.cond_self _ _
 ·simp only [Or,e9,scB];exact Bool.cond_self _ _
 ·have f1:Lp.fin iy (Hq nm g ins vs os ls xs ss inp)=true:=by simp only [Hq,a1];exact w1
  have f0:PH xs ss=true:=by
   simp only [PH,allT,dx (show xs.length≤1048576 by omega),dx (show 0 + ss.length≤9223372036854775807 by omega),dx (show (0 + ss.length) * 24≤140737488355328 by omega),cond_true]
  have f2:leI 0 (os.length:Int)=true:=cw (by omega)
  have f3:leI (os.length:Int) (os.length:Int)=true:=cw (by omega)
  have f4:leI (((8:Nat):Int) * (os.length:Int)) 281474976710656=true:=cw (by omega)
  have f5:leI (os.length:Int) 9223372036854775807=true:=cw (by omega)
  have f6:Px os=true:=f3
  have f7:Py os=true:=f4
  simp only [Ot,f0,f1,f2,f5,f6,f7,a0,e5,allT,Bool.or_true,cond_true,Bool.and_true]
  cases hgg:g.toList== []with
  |true=>rfl
  |false=>simp only [(hv hgg).2];rfl
theorem ake(nm:ByteArray)(ins vs os:List ByteArray)(g:ByteArray)(ls:List LN)(xs:List Int)(ss:List BS3)(inp:List Int)(h:scG nm ins vs os g ls xs ss inp=true):
  lU nm g ins vs os ls xs ss inp=scO ins vs os g ls inp xs ss∧lV nm g ins vs os ls xs ss inp=scV ins vs os ls inp xs ss∧
  lW nm g ins vs os ls xs ss inp=scB ins vs os ls inp xs ss∧lX nm g ins vs os ls xs ss inp=true:=by
 obtain⟨h1,h2,h3⟩:=ad6.1 h
 obtain⟨hg,_⟩:=ZY h1
 have hS:=ajt h1 h3
 obtain⟨w1,w2⟩:=anV hS h2 nm g
 have hE:=alV (os:=os) h3 hS.hL h2
 obtain⟨s1,s2,s3⟩:=Pz.1 h2
 have hb:=hS.bl
 have b1:=hS.h1
 have b2:=hS.h2
 have b3:=hS.h3
 have hx2:=(ir.1 s2).2
 have a1:ic nm g ins vs os ls xs ss inp=((0:Int),(ls.length:Int),ls,nm,g,(0:Int),ins,vs,os,xs,ss,inp,List.replicate os.length 0):=by
  simp only [ic,Int.toNat_natCast]
 have a0:di g= !(g.toList== []):=by simp only [di];rw [Nd]
 have e2:lk nm g ins vs os ls xs ss inp=((scE ins vs os ls inp xs ss).1,(scE ins vs os ls inp xs ss).2.2.1,inp,(scE ins vs os ls inp xs ss).2.1):=by
  simp only [lk,a1,w2]
 have e3:ey nm g ins vs os ls xs ss inp=(scE ins vs os ls inp xs ss).1:=by simp only [ey,e2]
 have e6:lm nm g ins vs os ls xs ss inp=(scE ins vs os ls inp xs ss).2.1:=by
  simp only [lm,qs,ll,e2,oG]
  rw [Bool.cond_self,Bool.cond_self]
 have e7:ln nm g ins vs os ls xs ss inp=(scE ins vs os ls inp xs ss).2.2.1:=by
  simp only [ln,ll,e2]
 have hv:(g.toList== [])=false→jw g ins vs (scE ins vs os ls inp xs ss).1 inp=nmV ins vs inp (scE ins vs os ls inp xs ss).1 g∧jx g ins vs (scE ins vs os ls inp xs ss).1 inp=true:=fun hgg=>by
  rw [hgg,Bool.false_or]at hg
  have q1:=(ir.1 h3).2
  have q2:=(ir.1 hE.hx).2
  rw [(aiR _ _ _ _ _).1,(aiR _ _ _ _ _).2]
  exact aeh g ins vs inp _ hg (dx (by omega)) (dx (by omega)) (by omega) (by omega)
 have hol:(scE ins vs os ls inp xs ss).2.1.length=os.length:=by have:=(ir.1 hE.ho).2;omega
 refine⟨?_,?_,?_,?_⟩
 ·simp only [lU,a0,e3,e6,Vl,hol,scO]
  cases hgg:g.toList== []with
  |true=>rfl
  |false=>simp only [Bool.not_false,cond_true,(hv hgg).1,Bool.true_and];rfl
 ·simp only [lV,e3,oE,scV]
  rw [Bool.cond_self,Bool.cond_self]
 ·simp only [lW,e7,oF,scB]
  rw [Bool.cond_self,Bool.cond_self]
 ·have f1:Lp.fin aF (ic nm g ins vs os ls xs ss inp)=true:=by rw [a1];exact w1
  have f0:lg xs ss=true:=by
   simp only [lg,allT,dx (show xs.length≤1048576 by omega),dx (show ss.length≤1048576 by omega),cond_true]
  have f2:leI 0 (os.length:Int)=true:=cw (by omega)
  have f3:leI (os.length:Int) (os.length:Int)=true:=cw (by omega)
  have f4:leI (((8:Nat):Int) * (os.length:Int)) 281474976710656=true:=cw (by omega)
  have f5:leI (os.length:Int) 9223372036854775807=true:=cw (by omega)
  simp only [lX,f0,f1,f2,f3,f4,f5,a0,e3,allT,Bool.or_true,cond_true,Bool.and_true]
  cases hgg:g.toList== []with
  |true=>rfl
  |false=>simp only [(hv hgg).2];rfl
def zX(y1:List (Int×(ByteArray×Int)))(y3:List (Int×(Int×Int)))(b:Nat):(Unit)→Nat ⊕ (Unit)
 |_=>(bif(!cU ((Option.getD y1[b]? ((0:Int),ByteArray.empty,(0:Int))).1) ((Option.getD y1[b]? ((0:Int),ByteArray.empty,(0:Int))).2.2) ((Option.getD y3[b]? ((0:Int),(0:Int),(0:Int))).1) (((Option.getD y3[b]? ((0:Int),(0:Int),(0:Int))).2).1) ((Option.getD y3[b]? ((0:Int),(0:Int),(0:Int))).2.2))then(.inl 0)else(.inr ()))
def pt(y1:List (Int×(ByteArray×Int)))(y2:List Int)(y3:List (Int×(Int×Int)))(i:Nat):(Unit)→lM
 |_=>((i:Int),y1,y2,y3)
def JC:lM→Unit
 |(_,_,_,_)=>()
theorem aaU(y1:List (Int×(ByteArray×Int)))(y2:List Int)(y3:List (Int×(Int×Int))) (hn:y1.length≤9223372036854775807) (he:y3.length=y1.length):
  dB.fin ((0:Int),y1,y2,y3)=true∧dB.res ((0:Int),y1,y2,y3)=((aq (zX y1 y3) 1 (List.range y1.length) 0 ()).1,(pt y1 y2 y3) (aq (zX y1 y3) 1 (List.range y1.length) 0 ()).2.1 (aq (zX y1 y3) 1 (List.range y1.length) 0 ()).2.2):=by
 have jT:=dB.along (pt y1 y2 y3) JC (zX y1 y3) 1 (fun _ _=>True) (List.range y1.length) () (by trivial) (by simp only [dB,pt,List.length_range];omega) (fun i b a hb hI=> ?_) (fun a hI=> ?_)
 ·exact jT
 ·obtain⟨⟩:=a
  obtain⟨rfl,fa⟩:=oJ hb
  have hw:IntKind.i64.wrap ((b:Int) + 1)=((b + 1:Nat):Int):=by rw [aT (by omega) (by omega)];omega
  have cq:ltI (b:Int) (y1.length:Int)=true:=eQ (by omega)
  have xl:leI (0:Int) (b:Int)=true:=cw (by omega)
  have iU:ltN b y1.length=true:=ib (by omega)
  refine⟨?_,?_,?_,?_⟩
  ·simp [vn,rK,wx,wy,AR,AU,AV,AW,AX,yJ,dB,LT.nds,allT,pt,cq,xl,iU,he]
  ·simp [vn,rK,wx,wy,AR,AU,AV,AW,AX,yJ,dB,LT.each,pt,JC,hw,he]
  ·simp only [vn,rK,wx,wy,AR,AU,AV,AW,AX,yJ,dB,LT.fn,pt,JC,zX,Int.toNat_natCast,cq,cond_true]
  ·exact fun _ _=>trivial
 ·obtain⟨⟩:=a
  simp [vn,rK,wx,wy,AR,AU,AV,AW,AX,yJ,dB,LT.out,pt,List.length_range]
theorem amf: ∀ (ls:List LN),(∀ l∈ls,l.2.length≤1048576)→(blL ls).length≤1048576 * ls.length
 | [],_=>by simp [blL]
 |l::r,h=>by
  have h1:=amf r (fun x hx=>h x (by simp [hx]))
  have h2:=h l (by simp)
  have h3:(blT l.2).length≤l.2.length:=List.length_filter_le ..
  have h4:blL (l::r)=blT l.2++blL r:=rfl
  rw [h4,List.length_append,List.length_cons]
  omega
theorem anE{ls:List LN}(h:WK ls=true):(blL ls).length≤1099511627776:=by
 obtain⟨hn,hA⟩:=MZ.1 h
 have:=amf ls (fun l hl=>(Nh.1 (hA l hl).2).1)
 omega
theorem alY(vs:List ByteArray)(ls:List LN)(xs:List Int)(ss:List BS3)(h:(WK ls&&leN xs.length 9223372036854775807)=true):
  Bl vs ls xs ss=JR vs.length (blL ls) xs ss∧FS vs ls xs ss=true:=by
 simp only [Bool.and_eq_true]at h
 have hn:=anE h.1
 generalize hbs:blL ls=bs at hn
 by_cases hl:ss.length=bs.length
 ·obtain⟨w1,w2⟩:=aaU bs xs ss (by omega) hl
  rw [iS (P:=fun k=> !possAt bs ss k) (j:=0) (fun k=>rfl),aiV (g:=possAt bs ss) (h:=possAt bs ss) _ (fun k _=>rfl)]at w2
  have a0:zS ls ss=false:=by simp [zS,hbs,hl]
  have a2:IE ls xs ss=((0:Int),bs,xs,ss):=by simp only [IE,hbs]
  have w1':Lp.fin dB ((0:Int),bs,xs,ss)=true:=w1
  simp only [pt]at w2
  simp only [Bl,FS,ID,a0,a2,w1,w2,h.1,h.2,allT,JR,hl]
  cases bitsB (vs.length:Int) xs <;> cases (List.range bs.length).all (possAt bs ss) <;> simp [Nat.beq,w1']
 ·have hl2: ¬ ((ss.length:Int)=(bs.length:Int)):=by omega
  have a0:zS ls ss=true:=by simp [zS,hbs,hl2]
  have e:((ss.length:Int)==(bs.length:Int))=false:=by simpa using hl2
  simp [Bl,FS,ID,a0,allT,JR,e,h.1]
def Wb(nm:ByteArray)(ins vs os:List ByteArray)(g:ByteArray)(ls:List LN)(xs:List Int)(ss:List BS3)(inps:List (List Int)):Int:=bif !Cp nm ins vs os g ls then 1 else bif !JR vs.length (blL ls) xs ss|| !inps.all (fun l=>bitsB ins.length l)then 2 else 0
theorem am1{nm:ByteArray}{ins vs os:List ByteArray}{g:ByteArray}{ls:List LN}{xs:List Int}{ss:List BS3}{inps:List (List Int)}(h:(Wb nm ins vs os g ls xs ss inps !=0)=false):
  Cp nm ins vs os g ls=true∧JR vs.length (blL ls) xs ss=true∧inps.all (fun l=>bitsB ins.length l)=true:=by
 simp only [Wb]at h
 revert h
 cases Cp nm ins vs os g ls <;> cases JR vs.length (blL ls) xs ss <;> cases inps.all (fun l=>bitsB ins.length l) <;> simp
def cdG(nm:ByteArray)(ins vs os:List ByteArray)(g:ByteArray)(ls:List LN)(xs:List Int)(inps:List (List Int)):Bool:=prOk nm ins vs os g ls&&(leN xs.length 9223372036854775807&&(leN inps.length 1048576&&inps.all fun l=>leN l.length 9223372036854775807))
theorem ai1{nm:ByteArray}{ins vs os:List ByteArray}{g:ByteArray}{ls:List LN}{xs:List Int}{inps:List (List Int)}:
  cdG nm ins vs os g ls xs inps=true↔prOk nm ins vs os g ls=true∧leN xs.length 9223372036854775807=true∧inps.length≤1048576∧ ∀ l∈inps,leN l.length 9223372036854775807=true:=by
 simp only [cdG,Bool.and_eq_true,fQ,List.all_eq_true]
theorem akN(nm:ByteArray)(ins vs os:List ByteArray)(g:ByteArray)(ls:List LN)(xs:List Int)(ss:List BS3)(inp:List Int)(h:cdG nm ins vs os g ls xs [inp]=true):
  JP nm g ins vs os ls xs ss inp=Wb nm ins vs os g ls xs ss [inp]∧On nm g ins vs os ls xs ss inp=true:=by
 obtain⟨h1,h2,h3,h4⟩:=ai1.1 h
 obtain⟨m1,m2⟩:=alY vs ls xs ss (by rw [(Sr.1 h1).2.2.2.2.2.2,h2];rfl)
 have h5:=h4 inp (by simp)
 simp only [JP,On,m1,m2,h1,h5,Wb,allT,List.all_cons,List.all_nil,Bool.and_true,Bool.or_true,cond_true,and_true]
 cases JR vs.length (blL ls) xs ss <;> rfl
def eP(y5:List ByteArray)(b:List Int):(Unit)→Nat ⊕ (Unit)
 |_=>(bif(zt b y5)then(.inl 0)else(.inr ()))
def cu(y2 y3:ByteArray)(y4:List (List Int))(y5 y6 y7:List ByteArray)(y8:List (ByteArray×(List (Int×(ByteArray×Int)))))(i:Nat):(Unit)→bu
 |_=>((i:Int),(↑y4.length:Int),y2,y3,y4,y5,y6,y7,y8)
def qv:bu→Unit
 |(_,_,_,_,_,_,_,_,_)=>()
theorem IJ(y2 y3:ByteArray)(y4:List (List Int))(y5 y6 y7:List ByteArray)(y8:List (ByteArray×(List (Int×(ByteArray×Int))))) (hn:y4.length≤9223372036854775807) (hA: ∀ l∈y4,leN l.length 9223372036854775807=true):
  aw.fin ((0:Int),(↑y4.length:Int),y2,y3,y4,y5,y6,y7,y8)=true∧aw.res ((0:Int),(↑y4.length:Int),y2,y3,y4,y5,y6,y7,y8)=((aq (eP y5) 1 y4 0 ()).1,(cu y2 y3 y4 y5 y6 y7 y8) (aq (eP y5) 1 y4 0 ()).2.1 (aq (eP y5) 1 y4 0 ()).2.2):=by
 have jT:=aw.along (cu y2 y3 y4 y5 y6 y7 y8) qv (eP y5) 1 (fun _ _=>True) y4 () (by trivial) (by simp only [aw,cu];omega) (fun i b a hb hI=> ?_) (fun a hI=> ?_)
 ·exact jT
 ·obtain⟨⟩:=a
  have fa:=(List.getElem?_eq_some_iff.1 hb).1
  have jS: ∀ d,Option.getD y4[i]? d=b:=fun d=>by rw [hb];rfl
  have hw:=wM fa hn
  have cq:ltI (i:Int) (y4.length:Int)=true:=eQ (by omega)
  have xl:leI (0:Int) (i:Int)=true:=cw (by omega)
  have iU:ltN i y4.length=true:=ib fa
  refine⟨?_,?_,?_,?_⟩
  ·have hg2:ct (i:Int) y4=b:=by simp only [ct,Int.toNat_natCast];exact jS _
   have h4:iB (i:Int) y4=true:=by simp only [iB,FD,hg2,hA b (List.mem_of_getElem? hb),allT,cond_true]
   simp only [iA,ma,mb,mc,ie,aw,LT.nds,allT,cu,h4,cq,xl,iU,Int.toNat_natCast,cond_true,Bool.and_self]
   cases iC (i:Int) y4 y5 <;> simp [LT.nds]
  ·simp [ct,iA,ma,mb,mc,iB,iC,qQ,ie,aw,LT.each,cu,qv,hw]
  ·have hg2:ct (i:Int) y4=b:=by simp only [ct,Int.toNat_natCast];exact jS _
   simp only [iA,iC,ie,aw,LT.fn,cu,qv,eP,cq,hg2,cond_true]
  ·exact fun _ _=>trivial
 ·obtain⟨⟩:=a
  simp [ct,iA,ma,mb,mc,iB,iC,qQ,ie,aw,LT.out,cu]
theorem akc(nm:ByteArray)(ins vs os:List ByteArray)(g:ByteArray)(ls:List LN)(xs:List Int)(ss:List BS3)(inps:List (List Int))(h:cdG nm ins vs os g ls xs inps=true):
  Lv nm g ins vs os ls xs ss inps=Wb nm ins vs os g ls xs ss inps∧Lw nm g ins vs os ls xs ss inps=true:=by
 obtain⟨h1,h2,h3,h4⟩:=ai1.1 h
 obtain⟨w1,w2⟩:=IJ nm g inps ins vs os ls (by omega) h4
 rw [iS (P:=fun l=> !bitsB ins.length l) (j:=0) (fun l=>by simp only [eP,zt]),Tj]at w2
 have hlk:=(Sr.1 h1).2.2.2.2.2.2
 have hbl:=anE hlk
 have c0:lY inps nm g ins vs os ls= !inps.all (fun l=>bitsB ins.length l):=by
  simp only [lY,tb,jI,nz,w2,cu]
  cases (inps.all fun l=>bitsB ins.length l) <;> simp [Nat.beq,OK.1,OK.2]
 have c3:lZ inps nm g ins vs os ls=true:=by
  simp only [lZ,tc,jI,w1,allT,cond_true]
 have k:Cp nm ins vs os g ls=true→adv (blL ls)=true:=fun hs=>ajO ls (ZY hs).2.1
 have hbl2:leN (blL ls).length 9223372036854775807=true:=dx (by omega)
 refine⟨?_,?_⟩
 ·simp only [Lv,c0,Wb]
  cases JR vs.length (blL ls) xs ss <;> rfl
 ·simp only [Lw,h1,c3,h2,hlk,hbl2,allT,Bool.or_true,cond_true]
  cases hs:Cp nm ins vs os g ls with
  |false=>rfl
  |true=>rw [k hs];rfl
def rnO(nm:ByteArray)(ins vs os:List ByteArray)(g:ByteArray)(ls:List LN)(xs:List Int)(ss:List BS3)(inp:List Int):List Int:=bif Wb nm ins vs os g ls xs ss [inp]!=0 then []else scO ins vs os g ls inp xs ss
def rnV(nm:ByteArray)(ins vs os:List ByteArray)(g:ByteArray)(ls:List LN)(xs:List Int)(ss:List BS3)(inp:List Int):List Int:=bif Wb nm ins vs os g ls xs ss [inp]!=0 then []else scV ins vs os ls inp xs ss
def rnB(nm:ByteArray)(ins vs os:List ByteArray)(g:ByteArray)(ls:List LN)(xs:List Int)(ss:List BS3)(inp:List Int):List BS3:=bif Wb nm ins vs os g ls xs ss [inp]!=0 then []else scB ins vs os ls inp xs ss
theorem aju{nm:ByteArray}{ins vs os:List ByteArray}{g:ByteArray}{ls:List LN}{xs:List Int}{ss:List BS3}{inp:List Int}(h:(Wb nm ins vs os g ls xs ss [inp]!=0)=false):scG nm ins vs os g ls xs ss inp=true:=by
 obtain⟨h1,h2,h3⟩:=am1 h
 exact ad6.2 ⟨h1,h2,by simpa using h3⟩
theorem ahQ{z:Int}(h:(z !=0)=false):z=0:=by simpa using h
theorem alZ(nm:ByteArray)(ins vs os:List ByteArray)(g:ByteArray)(ls:List LN)(xs:List Int)(ss:List BS3)(inp:List Int)(h:cdG nm ins vs os g ls xs [inp]=true):
  Sw nm g ins vs os ls xs ss inp=Wb nm ins vs os g ls xs ss [inp]∧Sx nm g ins vs os ls xs ss inp=rnO nm ins vs os g ls xs ss inp∧
  Sy nm g ins vs os ls xs ss inp=rnV nm ins vs os g ls xs ss inp∧Sz nm g ins vs os ls xs ss inp=rnB nm ins vs os g ls xs ss inp∧SA nm g ins vs os ls xs ss inp=true:=by
 obtain⟨c0,c1⟩:=akN nm ins vs os g ls xs ss inp h
 simp only [Sw,Sx,Sy,Sz,SA,De,c0,c1,rnO,rnV,rnB,allT]
 cases hz:(Wb nm ins vs os g ls xs ss [inp]!=0)with
 |true=>exact⟨rfl,rfl,rfl,rfl,rfl⟩
 |false=>
  obtain⟨s0,s1,s2,s3⟩:=akP nm ins vs os g ls xs ss inp (aju hz)
  simp only [cond_false,cond_true,s0,s1,s2,s3,Bool.or_true,and_self,ahQ hz]
theorem aly(nm:ByteArray)(ins vs os:List ByteArray)(g:ByteArray)(ls:List LN)(xs:List Int)(ss:List BS3)(inp:List Int)(h:cdG nm ins vs os g ls xs [inp]=true):
  RE nm g ins vs os ls xs ss inp=Wb nm ins vs os g ls xs ss [inp]∧RF nm g ins vs os ls xs ss inp=rnO nm ins vs os g ls xs ss inp∧
  RG nm g ins vs os ls xs ss inp=rnV nm ins vs os g ls xs ss inp∧RH nm g ins vs os ls xs ss inp=rnB nm ins vs os g ls xs ss inp∧RI nm g ins vs os ls xs ss inp=true:=by
 obtain⟨c0,c1⟩:=akc nm ins vs os g ls xs ss [inp] h
 simp only [RE,RF,RG,RH,RI,Qg,CW,c0,c1,rnO,rnV,rnB,allT]
 cases hz:(Wb nm ins vs os g ls xs ss [inp]!=0)with
 |true=>exact⟨rfl,rfl,rfl,rfl,rfl⟩
 |false=>
  obtain⟨s0,s1,s2,s3⟩:=ake nm ins vs os g ls xs ss inp (aju hz)
  simp only [cond_false,cond_true,s0,s1,s2,s3,Bool.or_true,and_self,ahQ hz]
def Yv:List SV→List Entry→Option Out
 | [.one ⟨true,[.val (.string x0),.ref 0,.ref 1,.ref 2,.val (.string x1),.ref 3]⟩,.one ⟨true,[.ref 4,.ref 5]⟩,.one ⟨false,[.ref 6]⟩],[.row false 9 (.str) x2,.row false 9 (.str) x3,.row false 9 (.str) x4,.row false 204 (.pair (.str) (.sl 178 (.pair (.int .i64) (.pair (.str) (.int .i64))))) x5,.row false 2 (.int .i64) x6,.row false 172 (.pair (.int .i64) (.pair (.int .i64) (.int .i64))) x7,.row false 2 (.int .i64) x8]=>some ⟨.tup [⟨false,[.ref 7]⟩,⟨true,[.ref 8,.ref 9]⟩,⟨false,[.val (.int .i64 (Wb x0 x2 x3 x4 x1 x5 x6 x7 [x8]))]⟩],[.row false 9 agS x2,.row false 9 agS x3,.row false 9 agS x4,.row false 204 (CTy.pair CTy.str (CTy.sl (178:TypeId) aeH)) x5,.row false 2 afY x6,.row false 172 aaK x7,.row false 2 afY x8],[.row true 2 afY (rnO x0 x2 x3 x4 x1 x5 x6 x7 x8),.row true 2 afY (rnV x0 x2 x3 x4 x1 x5 x6 x7 x8),.row true 172 aaK (rnB x0 x2 x3 x4 x1 x5 x6 x7 x8)],[cdG x0 x2 x3 x4 x1 x5 x6 [x8]]⟩
 |_,_=>none
def Sh:PF prog:=PF.alt ahk Yv (by
 intro args es o h da;unfold Yv at h;split at h
 ·rename_i x0 x1 x2 x3 x4 x5 x6 x7 x8
  cases h
  have da:=pb da
  have hh:=alZ x0 x2 x3 x4 x1 x5 x6 x7 x8 da
  obtain⟨e0,e1,e2,e3,en⟩:=hh
  exact tU rfl (pc en) (by simp only [e0] <;> rfl) rfl (by simp only [e1,e2,e3] <;> rfl)
 ·cases h)
def Yp:List SV→List Entry→Option Out
 | [.one ⟨true,[.val (.string x0),.ref 0,.ref 1,.ref 2,.val (.string x1),.ref 3]⟩,.one ⟨true,[.ref 4,.ref 5]⟩,.one ⟨false,[.ref 6]⟩],[.row false 9 (.str) x2,.row false 9 (.str) x3,.row false 9 (.str) x4,.row false 204 (.pair (.str) (.sl 178 (.pair (.int .i64) (.pair (.str) (.int .i64))))) x5,.row false 2 (.int .i64) x6,.row false 172 (.pair (.int .i64) (.pair (.int .i64) (.int .i64))) x7,.row false 2 (.int .i64) x8]=>some ⟨.tup [⟨false,[.ref 7]⟩,⟨true,[.ref 8,.ref 9]⟩,⟨false,[.val (.int .i64 (Wb x0 x2 x3 x4 x1 x5 x6 x7 [x8]))]⟩],[.row false 9 agS x2,.row false 9 agS x3,.row false 9 agS x4,.row false 204 (CTy.pair CTy.str (CTy.sl (178:TypeId) aeH)) x5,.row false 2 afY x6,.row false 172 aaK x7,.row false 2 afY x8],[.row true 2 afY (rnO x0 x2 x3 x4 x1 x5 x6 x7 x8),.row true 2 afY (rnV x0 x2 x3 x4 x1 x5 x6 x7 x8),.row true 172 aaK (rnB x0 x2 x3 x4 x1 x5 x6 x7 x8)],[cdG x0 x2 x3 x4 x1 x5 x6 [x8]]⟩
 |_,_=>none
def Sc:PF prog:=PF.alt ahe Yp (by
 intro args es o h da;unfold Yp at h;split at h
 ·rename_i x0 x1 x2 x3 x4 x5 x6 x7 x8
  cases h
  have da:=pb da
  have hh:=aly x0 x2 x3 x4 x1 x5 x6 x7 x8 da
  obtain⟨e0,e1,e2,e3,en⟩:=hh
  exact tU rfl (pc en) (by simp only [e0] <;> rfl) rfl (by simp only [e1,e2,e3] <;> rfl)
 ·cases h)
theorem anS(nm:ByteArray)(ins vs os:List ByteArray)(g:ByteArray)(ls:List LN)(xs:List Int)(ss:List BS3)(inp:List Int):
  (∀ z∈rnO nm ins vs os g ls xs ss inp,z=0∨z=1)∧(rnO nm ins vs os g ls xs ss inp).length≤20:=by
 simp only [rnO]
 cases hz:(Wb nm ins vs os g ls xs ss [inp]!=0)with
 |true=>exact⟨fun z hz=>(List.not_mem_nil hz).elim,by simp⟩
 |false=>
  obtain⟨h1,h2,h3⟩:=ad6.1 (aju hz)
  have hS:=ajt h1 h3
  obtain⟨b1,b2⟩:=ir.1 (amw (os:=os) (g:=g) h3 hS.hL h2).2
  have:=hS.h3
  exact⟨b1,by simp only [cond_false];omega⟩
def wI(x0:Int)(x1:List Int)(x2:List (Int×Int×Int)):Int:=bif ltI (szV x0 x1) (0:Int)then(-1:Int)else bif ltI (szL (szV x0 x1) x2.length) (0:Int)then(-1:Int)else szL (szV x0 x1) x2.length
def LD(x0:Int)(x1:List Int)(x2:List (Int×Int×Int)):Bool:=allT [leN x1.length (9223372036854775807:Nat)&&(leI (-1:Int) x0&&leI x0 (1048576:Int)),ltI (szV x0 x1) (0:Int)||leN x2.length (9223372036854775807:Nat)&&(leI (-1:Int) (szV x0 x1)&&leI (szV x0 x1) (1048576:Int))]
def Wo:List SV→List Entry→Option Out
 | [.one ⟨true,[.ref 0,.ref 1]⟩,.one ⟨false,[.val (.int .i64 x0)]⟩],[.row false 2 (.int .i64) x1,.row false 194 (.pair (.int .i64) (.pair (.int .i64) (.int .i64))) x2]=>some ⟨.one ⟨false,[.val (.int .i64 (wI x0 x1 x2))]⟩,[.row false 2 afY x1,.row false 194 aaK x2],[],[LD x0 x1 x2]⟩
 |_,_=>none
def Qu:PF prog:=PF.ofG prog [Js,PF.lend Js,PF.fz Js,Qq,PF.lend Qq,PF.fz Qq] [] aQ 26 f26 func26 (fun c _=>LOk.nil c) Wo (by
 intro vs es r h;unfold Wo at h;split at h
 ·cases h;kernel_rfl
 ·cases h)
def CX(x0:List Int)(x1:List (Int×Int×Int)):Bool:=allT [leN x0.length (1048576:Nat),leN x1.length (1048576:Nat)]
def Wq:List SV→List Entry→Option Out
 | [.one ⟨true,[.ref 0,.ref 1]⟩],[.row false 2 (.int .i64) x0,.row false 194 (.pair (.int .i64) (.pair (.int .i64) (.int .i64))) x1]=>some ⟨.one ⟨true,[.ref 2,.ref 3]⟩,[.row false 2 afY x0,.row false 194 aaK x1],[.row true 2 afY x0,.row true 172 aaK x1],[CX x0 x1]⟩
 |_,_=>none
def Qv:PF prog:=PF.ofG prog [Jt,PF.lend Jt,PF.fz Jt,Db,PF.lend Db,PF.fz Db] [] aQ 28 f28 func28 (fun c _=>LOk.nil c) Wq (by
 intro vs es r h;unfold Wq at h;split at h
 ·cases h;kernel_rfl
 ·cases h)
def bK(x0:List Int)(x1:List (Int×Int×Int))(x2:List Int)(x3:List (Int×Int×Int)):Bool:=bif !eqL x0 x2 then false else bif !amE x1 x3 then false else true
def tQ(x0:List Int)(x1:List (Int×Int×Int))(x2:List Int):Bool:=allT [leN x0.length (9223372036854775807:Nat),!eqL x0 x2||leN x1.length (9223372036854775807:Nat)]
def Wl:List SV→List Entry→Option Out
 | [.one ⟨true,[.ref 0,.ref 1]⟩,.one ⟨true,[.ref 2,.ref 3]⟩],[.row false 2 (.int .i64) x0,.row false 172 (.pair (.int .i64) (.pair (.int .i64) (.int .i64))) x1,.row false 2 (.int .i64) x2,.row false 172 (.pair (.int .i64) (.pair (.int .i64) (.int .i64))) x3]=>some ⟨.one ⟨false,[.val (.bool (bK x0 x1 x2 x3))]⟩,[.row false 2 afY x0,.row false 172 aaK x1,.row false 2 afY x2,.row false 172 aaK x3],[],[tQ x0 x1 x2]⟩
 |_,_=>none
def Qs:PF prog:=PF.ofG prog [Jr,PF.lend Jr,PF.fz Jr,Da,PF.lend Da,PF.fz Da] [] aQ 32 f32 func32 (fun c _=>LOk.nil c) Wl (by
 intro vs es r h;unfold Wl at h;split at h
 ·cases h;kernel_rfl
 ·cases h)
section
variable (x0:Int)(x1:List Int)(x2:List (Int×Int×Int))
def mY:Int:=x0 + (↑x1.length:Int)
def jl:Int:=mY x0 x1 + (3:Int) * (↑x2.length:Int)
def zC:List Int:=Hb x0 x1.length
def zD:List (Int×(Int×Int)):=upG (3:Nat) mkB (mY x0 x1) x2.length
def vM:Bool:=allT [af2 x0 x1.length,Zs (3:Nat) (mY x0 x1) x2.length&&leN x2.length (9223372036854775807:Nat)]
end
def Te:List SV→List Entry→Option Out
 | [.one ⟨true,[.ref 0,.ref 1]⟩,.one ⟨false,[.val (.int .i64 x0)]⟩],[.row true 2 (.int .i64) x1,.row true 172 (.pair (.int .i64) (.pair (.int .i64) (.int .i64))) x2]=>some ⟨.one ⟨false,[.val (.int .i64 (jl x0 x1 x2))]⟩,[.row true 2 afY (zC x0 x1),.row true 172 aaK (zD x0 x1 x2)],[],[vM x0 x1 x2]⟩
 |_,_=>none
def NY:PF prog:=PF.ofG prog [GL,PF.lend GL,PF.fz GL,zO,PF.lend zO,PF.fz zO] [] aQ 33 f33 func33 (fun c _=>LOk.nil c) Te (by
 intro vs es r h;unfold Te at h;split at h
 ·cases h;kernel_rfl
 ·cases h)
def Ik(x0:Int)(x1:List Int)(x2:List (Int×Int×Int)):Int:=bif ltI (adH x0 x1) (0:Int)then(-1:Int)else bif ltI (aiq (adH x0 x1) x2) (0:Int)then(-1:Int)else aiq (adH x0 x1) x2
def Il(x0:Int)(x1:List Int)(x2:List (Int×Int×Int)):Bool:=allT [leN x1.length (9223372036854775807:Nat),ltI (adH x0 x1) (0:Int)||leN x2.length (9223372036854775807:Nat)]
def Tc:List SV→List Entry→Option Out
 | [.one ⟨true,[.ref 0,.ref 1]⟩,.one ⟨false,[.val (.int .i64 x0)]⟩],[.row false 2 (.int .i64) x1,.row false 172 (.pair (.int .i64) (.pair (.int .i64) (.int .i64))) x2]=>some ⟨.one ⟨false,[.val (.int .i64 (Ik x0 x1 x2))]⟩,[.row false 2 afY x1,.row false 172 aaK x2],[],[Il x0 x1 x2]⟩
 |_,_=>none
def NX:PF prog:=PF.ofG prog [GK,PF.lend GK,PF.fz GK,zN,PF.lend zN,PF.fz zN] [] aQ 36 f36 func36 (fun c _=>LOk.nil c) Tc (by
 intro vs es r h;unfold Tc at h;split at h
 ·cases h;kernel_rfl
 ·cases h)
theorem akR{k:Int}{xs:List Int}{ss:List BS3}(hx:xs.length≤9223372036854775807)(hs:ss.length≤9223372036854775807)(h0: -1≤k)(hk:k≤1048576):
  LD k xs ss=true∧(ltI (wI k xs ss) 0=false→(0≤wI k xs ss∧wI k xs ss≤k)∧(xs.length:Int) + ss.length + wI k xs ss=k):=by
 have t1:leN xs.length 9223372036854775807=true:=dx hx
 have t2:leN ss.length 9223372036854775807=true:=dx hs
 have t3:leI (-1) k=true:=cw h0
 have t4:leI k 1048576=true:=cw hk
 have e:szV k xs=szL k xs.length:=rfl
 simp only [wI,LD,t1,t2,t3,t4,e,allT]
 cases h1:ltI (szL k xs.length) 0 with
 |true=>exact⟨rfl,fun h=>absurd (show ltI (-1) 0=false from h) (by decide)⟩
 |false=>
  obtain⟨q1,q2⟩:=aiN h1
  have u3:leI (-1) (szL k xs.length)=true:=cw (by omega)
  have u4:leI (szL k xs.length) 1048576=true:=cw (by omega)
  refine⟨by rw [u3,u4];rfl,fun h=> ?_⟩
  simp only [cond_false]at h ⊢
  cases h2:ltI (szL (szL k xs.length) ss.length) 0 with
  |true=>rw [h2]at h;exact absurd (show ltI (-1) 0=false from h) (by decide)
  |false=>
   obtain⟨r1,r2⟩:=aiN h2
   simp only [cond_false]
   omega
theorem amS(k:Int)(xs:List Int)(ss:List BS3)(h0:0≤k)(h1:k≤900000000)(h:(xs.length:Int) + ss.length≤1048576):vM k xs ss=true∧ltI (jl k xs ss) 0=false:=by
 have l2:leN ss.length 9223372036854775807=true:=dx (by omega)
 have m1:af2 k xs.length=true:=UY.2 (by omega)
 have m2:Zs 3 (k + (xs.length:Int)) ss.length=true:=Rg.2 (by omega)
 refine⟨by simp only [vM,mY,m1,m2,l2,allT,Bool.and_self,cond_true],Na ?_⟩
 simp only [jl,mY]
 omega
theorem anJ(k:Int)(b:List Int)(c:List BS3)(h0:0≤k)(h:k + b.length + 3 * (c.length:Int)≤900000000):
  Ik k (zC k b) (zD k b c)=jl k b c∧Il k (zC k b) (zD k b c)=true∧
  ltI (jl k b c) 0=false∧vM k b c=true:=by
 have m1:af2 k b.length=true:=UY.2 (by omega)
 have m2:Zs 3 (k + (b.length:Int)) c.length=true:=Rg.2 (by omega)
 have l1:leN b.length 9223372036854775807=true:=dx (by omega)
 have l2:leN c.length 9223372036854775807=true:=dx (by omega)
 have v1:=aj6 k b.length m1
 have v2:=anw _ c.length ((Bool.and_eq_true _ _).mpr ⟨m2,l2⟩)
 have t1:ltI (k + (b.length:Int)) 0=false:=Na (by omega)
 have t2:ltI (k + (b.length:Int) + 3 * (c.length:Int)) 0=false:=Na (by omega)
 refine⟨?_,?_,?_,?_⟩
 ·simp only [Ik,jl,zC,zD,mY,v1,v2,t1,t2,cond_false]
 ·simp only [Il,zC,zD,mY,v1,t1,Lt,ahL,l1,l2,allT,Bool.or_true,cond_true]
 ·simp only [jl,mY,t2]
 ·simp only [vM,mY,m1,m2,l2,allT,Bool.and_self,cond_true]
section
variable (x0 x1:ByteArray)(x2 x3 x4:List ByteArray)(x5:List (ByteArray×List (Int×ByteArray×Int)))(x6:List Int)(x7:List (Int×Int×Int))(x8:List Int)
def af:Bool:=ltI (iu x0 x1 (1048576:Int) x2 x3 x4 x5) (0:Int)
def ag:Bool:=ltI (wI (iu x0 x1 (1048576:Int) x2 x3 x4 x5) x6 x7) (0:Int)
def mv:Bool:= !eqL (rnO x0 x2 x3 x4 x1 (aX x5) x6 x7 x8) (rnO x0 x2 x3 x4 x1 (aX x5) x6 x7 x8)
def pz:Int:=Wb x0 x2 x3 x4 x1 (aX x5) x6 x7 [x8]
def mw:Bool:=pz x0 x1 x2 x3 x4 x5 x6 x7 x8 !=pz x0 x1 x2 x3 x4 x5 x6 x7 x8
def ay:Bool:=bif bif mv x0 x1 x2 x3 x4 x5 x6 x7 x8 then true else !bK (rnV x0 x2 x3 x4 x1 (aX x5) x6 x7 x8) (rnB x0 x2 x3 x4 x1 (aX x5) x6 x7 x8) (rnV x0 x2 x3 x4 x1 (aX x5) x6 x7 x8) (rnB x0 x2 x3 x4 x1 (aX x5) x6 x7 x8)then true else mw x0 x1 x2 x3 x4 x5 x6 x7 x8
def aG:Bool:= !JY x0 x1 x0 x1 x2 x3 x4 (aX x5) x2 x3 x4 (aX x5)
def pA:Int:=jl (lc (1:Int) x2 x3 x4 (aX x5)) x6 x7
def my:Bool:=ltI (pA x2 x3 x4 x5 x6 x7 + (↑x8.length:Int)) (0:Int)
def pB:Bool:=bif my x2 x3 x4 x5 x6 x7 x8 then true else mv x0 x1 x2 x3 x4 x5 x6 x7 x8
def lr:Bool:= !mv x0 x1 x2 x3 x4 x5 x6 x7 x8&&true
def fc:List Int:=bif lr x0 x1 x2 x3 x4 x5 x6 x7 x8 then rnV x0 x2 x3 x4 x1 (aX x5) x6 x7 x8 else rnV x0 x2 x3 x4 x1 (aX x5) x6 x7 x8
def ia:List (Int×Int×Int):=bif lr x0 x1 x2 x3 x4 x5 x6 x7 x8 then rnB x0 x2 x3 x4 x1 (aX x5) x6 x7 x8 else rnB x0 x2 x3 x4 x1 (aX x5) x6 x7 x8
def bw:Bool:=bif bif pB x0 x1 x2 x3 x4 x5 x6 x7 x8 then true else !bK (fc x0 x1 x2 x3 x4 x5 x6 x7 x8) (ia x0 x1 x2 x3 x4 x5 x6 x7 x8) (fc x0 x1 x2 x3 x4 x5 x6 x7 x8) (ia x0 x1 x2 x3 x4 x5 x6 x7 x8)then true else mw x0 x1 x2 x3 x4 x5 x6 x7 x8
def ji:List Int:=bif !my x2 x3 x4 x5 x6 x7 x8&&true then rnO x0 x2 x3 x4 x1 (aX x5) x6 x7 x8 else rnO x0 x2 x3 x4 x1 (aX x5) x6 x7 x8
def nV:List Int:=Hb (1:Int) (List.length (ji x0 x1 x2 x3 x4 x5 x6 x7 x8))
def lu:Int:=adH (1:Int) (nV x0 x1 x2 x3 x4 x5 x6 x7 x8)
def cg:Bool:=ltI (lu x0 x1 x2 x3 x4 x5 x6 x7 x8) (0:Int)
def jj:Int:=(1:Int) + (↑(List.length (ji x0 x1 x2 x3 x4 x5 x6 x7 x8)):Int)
def lv:Bool:= !pB x0 x1 x2 x3 x4 x5 x6 x7 x8&&true
def fe:List Int:=bif lv x0 x1 x2 x3 x4 x5 x6 x7 x8 then fc x0 x1 x2 x3 x4 x5 x6 x7 x8 else fc x0 x1 x2 x3 x4 x5 x6 x7 x8
def nW:List Int:=zC (jj x0 x1 x2 x3 x4 x5 x6 x7 x8) (fe x0 x1 x2 x3 x4 x5 x6 x7 x8)
def jk:List (Int×Int×Int):=bif lv x0 x1 x2 x3 x4 x5 x6 x7 x8 then ia x0 x1 x2 x3 x4 x5 x6 x7 x8 else ia x0 x1 x2 x3 x4 x5 x6 x7 x8
def nX:List (Int×Int×Int):=zD (jj x0 x1 x2 x3 x4 x5 x6 x7 x8) (fe x0 x1 x2 x3 x4 x5 x6 x7 x8) (jk x0 x1 x2 x3 x4 x5 x6 x7 x8)
def nY:Int:=Ik (lu x0 x1 x2 x3 x4 x5 x6 x7 x8) (nW x0 x1 x2 x3 x4 x5 x6 x7 x8) (nX x0 x1 x2 x3 x4 x5 x6 x7 x8)
def cz:Bool:=ltI (nY x0 x1 x2 x3 x4 x5 x6 x7 x8) (0:Int)
def cA:Bool:=nY x0 x1 x2 x3 x4 x5 x6 x7 x8 !=jl (jj x0 x1 x2 x3 x4 x5 x6 x7 x8) (fe x0 x1 x2 x3 x4 x5 x6 x7 x8) (jk x0 x1 x2 x3 x4 x5 x6 x7 x8)
def nZ:Bool:= !eqL (rnO x0 x2 x3 x4 x1 (aX x5) x6 x7 x8) (ji x0 x1 x2 x3 x4 x5 x6 x7 x8)
def lw:Bool:=bif bif nZ x0 x1 x2 x3 x4 x5 x6 x7 x8 then true else !bK (rnV x0 x2 x3 x4 x1 (aX x5) x6 x7 x8) (rnB x0 x2 x3 x4 x1 (aX x5) x6 x7 x8) (fe x0 x1 x2 x3 x4 x5 x6 x7 x8) (jk x0 x1 x2 x3 x4 x5 x6 x7 x8)then true else mw x0 x1 x2 x3 x4 x5 x6 x7 x8
def oa:Bool:=ltI (1048576:Int) (↑x8.length:Int)||(af x0 x1 x2 x3 x4 x5||(ag x0 x1 x2 x3 x4 x5 x6 x7||Bf x2 x3 x4 x5))
def oc:Bool:=ltI (1048576:Int) (↑x8.length:Int)||(af x0 x1 x2 x3 x4 x5||(ag x0 x1 x2 x3 x4 x5 x6 x7||CX x6 x7))
def od:Bool:=ltI (1048576:Int) (↑x8.length:Int)||(af x0 x1 x2 x3 x4 x5||(ag x0 x1 x2 x3 x4 x5 x6 x7||leN x8.length (1048576:Nat)))
def oe:Bool:=cdG x0 x2 x3 x4 x1 (aX x5) x6 [x8]
def og:Bool:=ltI (1048576:Int) (↑x8.length:Int)||(af x0 x1 x2 x3 x4 x5||(ag x0 x1 x2 x3 x4 x5 x6 x7||oe x0 x1 x2 x3 x4 x5 x6 x8))
def lx:Bool:=leN (List.length (rnO x0 x2 x3 x4 x1 (aX x5) x6 x7 x8)) (9223372036854775807:Nat)
def oh:Bool:=leN (List.length (nV x0 x1 x2 x3 x4 x5 x6 x7 x8)) (9223372036854775807:Nat)
def oi:Bool:=cg x0 x1 x2 x3 x4 x5 x6 x7 x8||Il (lu x0 x1 x2 x3 x4 x5 x6 x7 x8) (nW x0 x1 x2 x3 x4 x5 x6 x7 x8) (nX x0 x1 x2 x3 x4 x5 x6 x7 x8)
def tB:Bool:=bif ltI (1048576:Int) (↑x8.length:Int)then true else bif af x0 x1 x2 x3 x4 x5 then true else bif ag x0 x1 x2 x3 x4 x5 x6 x7 then true else bif ay x0 x1 x2 x3 x4 x5 x6 x7 x8 then false else bif aG x0 x1 x2 x3 x4 x5 then false else bif !bK x6 x7 x6 x7 then false else bif !eqL x8 x8 then false else bif bw x0 x1 x2 x3 x4 x5 x6 x7 x8 then false else bif cg x0 x1 x2 x3 x4 x5 x6 x7 x8 then false else bif cz x0 x1 x2 x3 x4 x5 x6 x7 x8 then false else bif cA x0 x1 x2 x3 x4 x5 x6 x7 x8 then false else bif lw x0 x1 x2 x3 x4 x5 x6 x7 x8 then false else bif cg x0 x1 x2 x3 x4 x5 x6 x7 x8 then false else bif cz x0 x1 x2 x3 x4 x5 x6 x7 x8 then false else bif cA x0 x1 x2 x3 x4 x5 x6 x7 x8 then false else true
def tC:Bool:=allT [ltI (1048576:Int) (↑x8.length:Int)||rZ x0 x1 (1048576:Int) x2 x3 x4 x5,ltI (1048576:Int) (↑x8.length:Int)||(af x0 x1 x2 x3 x4 x5||LD (iu x0 x1 (1048576:Int) x2 x3 x4 x5) x6 x7),oa x0 x1 x2 x3 x4 x5 x6 x7 x8,oc x0 x1 x2 x3 x4 x5 x6 x7 x8,od x0 x1 x2 x3 x4 x5 x6 x7 x8,og x0 x1 x2 x3 x4 x5 x6 x7 x8,oa x0 x1 x2 x3 x4 x5 x6 x7 x8,oc x0 x1 x2 x3 x4 x5 x6 x7 x8,od x0 x1 x2 x3 x4 x5 x6 x7 x8,og x0 x1 x2 x3 x4 x5 x6 x7 x8,ltI (1048576:Int) (↑x8.length:Int)||(af x0 x1 x2 x3 x4 x5||(ag x0 x1 x2 x3 x4 x5 x6 x7||lx x0 x1 x2 x3 x4 x5 x6 x7 x8)),ltI (1048576:Int) (↑x8.length:Int)||(af x0 x1 x2 x3 x4 x5||(ag x0 x1 x2 x3 x4 x5 x6 x7||(!lr x0 x1 x2 x3 x4 x5 x6 x7 x8||tQ (rnV x0 x2 x3 x4 x1 (aX x5) x6 x7 x8) (rnB x0 x2 x3 x4 x1 (aX x5) x6 x7 x8) (rnV x0 x2 x3 x4 x1 (aX x5) x6 x7 x8)))),ltI (1048576:Int) (↑x8.length:Int)||(af x0 x1 x2 x3 x4 x5||(ag x0 x1 x2 x3 x4 x5 x6 x7||(ay x0 x1 x2 x3 x4 x5 x6 x7 x8||Bf x2 x3 x4 x5))),ltI (1048576:Int) (↑x8.length:Int)||(af x0 x1 x2 x3 x4 x5||(ag x0 x1 x2 x3 x4 x5 x6 x7||(ay x0 x1 x2 x3 x4 x5 x6 x7 x8||JZ x0 x1 x0 x1 x2 x3 x4 (aX x5) x2 x3 x4 (aX x5)))),ltI (1048576:Int) (↑x8.length:Int)||(af x0 x1 x2 x3 x4 x5||(ag x0 x1 x2 x3 x4 x5 x6 x7||(ay x0 x1 x2 x3 x4 x5 x6 x7 x8||(aG x0 x1 x2 x3 x4 x5||CX x6 x7)))),ltI (1048576:Int) (↑x8.length:Int)||(af x0 x1 x2 x3 x4 x5||(ag x0 x1 x2 x3 x4 x5 x6 x7||(ay x0 x1 x2 x3 x4 x5 x6 x7 x8||(aG x0 x1 x2 x3 x4 x5||tQ x6 x7 x6)))),ltI (1048576:Int) (↑x8.length:Int)||(af x0 x1 x2 x3 x4 x5||(ag x0 x1 x2 x3 x4 x5 x6 x7||(ay x0 x1 x2 x3 x4 x5 x6 x7 x8||(aG x0 x1 x2 x3 x4 x5||(!bK x6 x7 x6 x7||leN x8.length (1048576:Nat)))))),ltI (1048576:Int) (↑x8.length:Int)||(af x0 x1 x2 x3 x4 x5||(ag x0 x1 x2 x3 x4 x5 x6 x7||(ay x0 x1 x2 x3 x4 x5 x6 x7 x8||(aG x0 x1 x2 x3 x4 x5||(!bK x6 x7 x6 x7||leN x8.length (9223372036854775807:Nat)))))),ltI (1048576:Int) (↑x8.length:Int)||(af x0 x1 x2 x3 x4 x5||(ag x0 x1 x2 x3 x4 x5 x6 x7||(ay x0 x1 x2 x3 x4 x5 x6 x7 x8||(aG x0 x1 x2 x3 x4 x5||(!bK x6 x7 x6 x7||(!eqL x8 x8||GG (1:Int) x2 x3 x4 (aX x5))))))),ltI (1048576:Int) (↑x8.length:Int)||(af x0 x1 x2 x3 x4 x5||(ag x0 x1 x2 x3 x4 x5 x6 x7||(ay x0 x1 x2 x3 x4 x5 x6 x7 x8||(aG x0 x1 x2 x3 x4 x5||(!bK x6 x7 x6 x7||(!eqL x8 x8||vM (lc (1:Int) x2 x3 x4 (aX x5)) x6 x7)))))),ltI (1048576:Int) (↑x8.length:Int)||(af x0 x1 x2 x3 x4 x5||(ag x0 x1 x2 x3 x4 x5 x6 x7||(ay x0 x1 x2 x3 x4 x5 x6 x7 x8||(aG x0 x1 x2 x3 x4 x5||(!bK x6 x7 x6 x7||(!eqL x8 x8||af2 (pA x2 x3 x4 x5 x6 x7) x8.length)))))),ltI (1048576:Int) (↑x8.length:Int)||(af x0 x1 x2 x3 x4 x5||(ag x0 x1 x2 x3 x4 x5 x6 x7||(ay x0 x1 x2 x3 x4 x5 x6 x7 x8||(aG x0 x1 x2 x3 x4 x5||(!bK x6 x7 x6 x7||(!eqL x8 x8||(!(!my x2 x3 x4 x5 x6 x7 x8&&true)||lx x0 x1 x2 x3 x4 x5 x6 x7 x8))))))),ltI (1048576:Int) (↑x8.length:Int)||(af x0 x1 x2 x3 x4 x5||(ag x0 x1 x2 x3 x4 x5 x6 x7||(ay x0 x1 x2 x3 x4 x5 x6 x7 x8||(aG x0 x1 x2 x3 x4 x5||(!bK x6 x7 x6 x7||(!eqL x8 x8||(!lv x0 x1 x2 x3 x4 x5 x6 x7 x8||tQ (fc x0 x1 x2 x3 x4 x5 x6 x7 x8) (ia x0 x1 x2 x3 x4 x5 x6 x7 x8) (fc x0 x1 x2 x3 x4 x5 x6 x7 x8)))))))),ltI (1048576:Int) (↑x8.length:Int)||(af x0 x1 x2 x3 x4 x5||(ag x0 x1 x2 x3 x4 x5 x6 x7||(ay x0 x1 x2 x3 x4 x5 x6 x7 x8||(aG x0 x1 x2 x3 x4 x5||(!bK x6 x7 x6 x7||(!eqL x8 x8||(bw x0 x1 x2 x3 x4 x5 x6 x7 x8||af2 (1:Int) (List.length (ji x0 x1 x2 x3 x4 x5 x6 x7 x8))))))))),ltI (1048576:Int) (↑x8.length:Int)||(af x0 x1 x2 x3 x4 x5||(ag x0 x1 x2 x3 x4 x5 x6 x7||(ay x0 x1 x2 x3 x4 x5 x6 x7 x8||(aG x0 x1 x2 x3 x4 x5||(!bK x6 x7 x6 x7||(!eqL x8 x8||(bw x0 x1 x2 x3 x4 x5 x6 x7 x8||vM (jj x0 x1 x2 x3 x4 x5 x6 x7 x8) (fe x0 x1 x2 x3 x4 x5 x6 x7 x8) (jk x0 x1 x2 x3 x4 x5 x6 x7 x8)))))))),ltI (1048576:Int) (↑x8.length:Int)||(af x0 x1 x2 x3 x4 x5||(ag x0 x1 x2 x3 x4 x5 x6 x7||(ay x0 x1 x2 x3 x4 x5 x6 x7 x8||(aG x0 x1 x2 x3 x4 x5||(!bK x6 x7 x6 x7||(!eqL x8 x8||(bw x0 x1 x2 x3 x4 x5 x6 x7 x8||oh x0 x1 x2 x3 x4 x5 x6 x7 x8))))))),ltI (1048576:Int) (↑x8.length:Int)||(af x0 x1 x2 x3 x4 x5||(ag x0 x1 x2 x3 x4 x5 x6 x7||(ay x0 x1 x2 x3 x4 x5 x6 x7 x8||(aG x0 x1 x2 x3 x4 x5||(!bK x6 x7 x6 x7||(!eqL x8 x8||(bw x0 x1 x2 x3 x4 x5 x6 x7 x8||oi x0 x1 x2 x3 x4 x5 x6 x7 x8))))))),ltI (1048576:Int) (↑x8.length:Int)||(af x0 x1 x2 x3 x4 x5||(ag x0 x1 x2 x3 x4 x5 x6 x7||(ay x0 x1 x2 x3 x4 x5 x6 x7 x8||(aG x0 x1 x2 x3 x4 x5||(!bK x6 x7 x6 x7||(!eqL x8 x8||(bw x0 x1 x2 x3 x4 x5 x6 x7 x8||(cg x0 x1 x2 x3 x4 x5 x6 x7 x8||(cz x0 x1 x2 x3 x4 x5 x6 x7 x8||(cA x0 x1 x2 x3 x4 x5 x6 x7 x8||Bf x2 x3 x4 x5)))))))))),ltI (1048576:Int) (↑x8.length:Int)||(af x0 x1 x2 x3 x4 x5||(ag x0 x1 x2 x3 x4 x5 x6 x7||(ay x0 x1 x2 x3 x4 x5 x6 x7 x8||(aG x0 x1 x2 x3 x4 x5||(!bK x6 x7 x6 x7||(!eqL x8 x8||(bw x0 x1 x2 x3 x4 x5 x6 x7 x8||(cg x0 x1 x2 x3 x4 x5 x6 x7 x8||(cz x0 x1 x2 x3 x4 x5 x6 x7 x8||(cA x0 x1 x2 x3 x4 x5 x6 x7 x8||CX x6 x7)))))))))),ltI (1048576:Int) (↑x8.length:Int)||(af x0 x1 x2 x3 x4 x5||(ag x0 x1 x2 x3 x4 x5 x6 x7||(ay x0 x1 x2 x3 x4 x5 x6 x7 x8||(aG x0 x1 x2 x3 x4 x5||(!bK x6 x7 x6 x7||(!eqL x8 x8||(bw x0 x1 x2 x3 x4 x5 x6 x7 x8||(cg x0 x1 x2 x3 x4 x5 x6 x7 x8||(cz x0 x1 x2 x3 x4 x5 x6 x7 x8||(cA x0 x1 x2 x3 x4 x5 x6 x7 x8||leN x8.length (1048576:Nat))))))))))),ltI (1048576:Int) (↑x8.length:Int)||(af x0 x1 x2 x3 x4 x5||(ag x0 x1 x2 x3 x4 x5 x6 x7||(ay x0 x1 x2 x3 x4 x5 x6 x7 x8||(aG x0 x1 x2 x3 x4 x5||(!bK x6 x7 x6 x7||(!eqL x8 x8||(bw x0 x1 x2 x3 x4 x5 x6 x7 x8||(cg x0 x1 x2 x3 x4 x5 x6 x7 x8||(cz x0 x1 x2 x3 x4 x5 x6 x7 x8||(cA x0 x1 x2 x3 x4 x5 x6 x7 x8||oe x0 x1 x2 x3 x4 x5 x6 x8)))))))))),ltI (1048576:Int) (↑x8.length:Int)||(af x0 x1 x2 x3 x4 x5||(ag x0 x1 x2 x3 x4 x5 x6 x7||(ay x0 x1 x2 x3 x4 x5 x6 x7 x8||(aG x0 x1 x2 x3 x4 x5||(!bK x6 x7 x6 x7||(!eqL x8 x8||(bw x0 x1 x2 x3 x4 x5 x6 x7 x8||(cg x0 x1 x2 x3 x4 x5 x6 x7 x8||(cz x0 x1 x2 x3 x4 x5 x6 x7 x8||(cA x0 x1 x2 x3 x4 x5 x6 x7 x8||lx x0 x1 x2 x3 x4 x5 x6 x7 x8)))))))))),ltI (1048576:Int) (↑x8.length:Int)||(af x0 x1 x2 x3 x4 x5||(ag x0 x1 x2 x3 x4 x5 x6 x7||(ay x0 x1 x2 x3 x4 x5 x6 x7 x8||(aG x0 x1 x2 x3 x4 x5||(!bK x6 x7 x6 x7||(!eqL x8 x8||(bw x0 x1 x2 x3 x4 x5 x6 x7 x8||(cg x0 x1 x2 x3 x4 x5 x6 x7 x8||(cz x0 x1 x2 x3 x4 x5 x6 x7 x8||(cA x0 x1 x2 x3 x4 x5 x6 x7 x8||(!(!nZ x0 x1 x2 x3 x4 x5 x6 x7 x8&&true)||tQ (rnV x0 x2 x3 x4 x1 (aX x5) x6 x7 x8) (rnB x0 x2 x3 x4 x1 (aX x5) x6 x7 x8) (fe x0 x1 x2 x3 x4 x5 x6 x7 x8)))))))))))),ltI (1048576:Int) (↑x8.length:Int)||(af x0 x1 x2 x3 x4 x5||(ag x0 x1 x2 x3 x4 x5 x6 x7||(ay x0 x1 x2 x3 x4 x5 x6 x7 x8||(aG x0 x1 x2 x3 x4 x5||(!bK x6 x7 x6 x7||(!eqL x8 x8||(bw x0 x1 x2 x3 x4 x5 x6 x7 x8||(cg x0 x1 x2 x3 x4 x5 x6 x7 x8||(cz x0 x1 x2 x3 x4 x5 x6 x7 x8||(cA x0 x1 x2 x3 x4 x5 x6 x7 x8||(lw x0 x1 x2 x3 x4 x5 x6 x7 x8||oh x0 x1 x2 x3 x4 x5 x6 x7 x8))))))))))),ltI (1048576:Int) (↑x8.length:Int)||(af x0 x1 x2 x3 x4 x5||(ag x0 x1 x2 x3 x4 x5 x6 x7||(ay x0 x1 x2 x3 x4 x5 x6 x7 x8||(aG x0 x1 x2 x3 x4 x5||(!bK x6 x7 x6 x7||(!eqL x8 x8||(bw x0 x1 x2 x3 x4 x5 x6 x7 x8||(cg x0 x1 x2 x3 x4 x5 x6 x7 x8||(cz x0 x1 x2 x3 x4 x5 x6 x7 x8||(cA x0 x1 x2 x3 x4 x5 x6 x7 x8||(lw x0 x1 x2 x3 x4 x5 x6 x7 x8||oi x0 x1 x2 x3 x4 x5 x6 x7 x8)))))))))))]
end
def OJ:List SV→List Entry→Option Out
 | [.one ⟨true,[.val (.string x0),.ref 0,.ref 1,.ref 2,.val (.string x1),.ref 3]⟩,.one ⟨true,[.ref 4,.ref 5]⟩,.one ⟨false,[.ref 6]⟩],[.row false 9 (.str) x2,.row false 9 (.str) x3,.row false 9 (.str) x4,.row false 225 (.pair (.str) (.sl 175 (.pair (.int .i64) (.pair (.str) (.int .i64))))) x5,.row false 2 (.int .i64) x6,.row false 194 (.pair (.int .i64) (.pair (.int .i64) (.int .i64))) x7,.row false 2 (.int .i64) x8]=>some ⟨.one ⟨false,[.val (.bool (tB x0 x1 x2 x3 x4 x5 x6 x7 x8))]⟩,[.row false 9 agS x2,.row false 9 agS x3,.row false 9 agS x4,.row false 225 (CTy.pair CTy.str (CTy.sl (175:TypeId) aeH)) x5,.row false 2 afY x6,.row false 194 aaK x7,.row false 2 afY x8],[],[tC x0 x1 x2 x3 x4 x5 x6 x7 x8]⟩
 |_,_=>none
def Xz:PF prog:=PF.ofG prog [PF.trees prog,Qu,PF.lend Qu,PF.fz Qu,Qv,PF.lend Qv,PF.fz Qv,Db,PF.lend Db,PF.fz Db,Da,PF.lend Da,PF.fz Da,Qs,PF.lend Qs,PF.fz Qs,NY,PF.lend NY,PF.fz NY,zO,PF.lend zO,PF.fz zO,zN,PF.lend zN,PF.fz zN,NX,PF.lend NX,PF.fz NX,Sc,PF.lend Sc,PF.fz Sc,Sh,PF.lend Sh,PF.fz Sh,Po,PF.lend Po,PF.fz Po,Pp,PF.lend Pp,PF.fz Pp,Pm,PF.lend Pm,PF.fz Pm,Mh,PF.lend Mh,PF.fz Mh] [] aQ 10 f10 func10 (fun c _=>LOk.nil c) OJ (by
 intro vs es r h;unfold OJ at h;split at h
 ·cases h;kernel_rfl
 ·cases h)
theorem aoZ(nm:ByteArray)(ins vs os:List ByteArray)(g:ByteArray)(ls:List LN)(xs:List Int)(ss:List BS3)(inp:List Int):
  (rnO nm ins vs os g ls xs ss inp).length≤20∧(rnV nm ins vs os g ls xs ss inp).length≤20∧(rnB nm ins vs os g ls xs ss inp).length≤1600:=by
 refine⟨(anS nm ins vs os g ls xs ss inp).2,?_⟩
 simp only [rnV,rnB]
 cases hz:(Wb nm ins vs os g ls xs ss [inp]!=0)with
 |true=>exact⟨by simp,by simp⟩
 |false=>
  obtain⟨h1,h2,h3⟩:=ad6.1 (aju hz)
  have hS:=ajt h1 h3
  obtain⟨s1,s2,_⟩:=Pz.1 (amw (os:=os) (g:=g) h3 hS.hL h2).1
  have b2:=(ir.1 s2).2
  have hb:=hS.bl
  have hv:=hS.h2
  exact⟨by simp only [cond_false];omega,by simp only [cond_false];omega⟩
theorem akj(x0:ByteArray)(x2 x3 x4:List ByteArray)(x1:ByteArray)(x5:List LN)(x6:List Int)(x7:List BS3)(x8:List Int)
  (w0:wfD .str x0) (w2:wfD (.sl 9 .str) x2) (w3:wfD (.sl 9 .str) x3) (w4:wfD (.sl 9 .str) x4) (w1:wfD .str x1) (w5:wfD (.sl 225 (.pair (.str) (.sl 175 (.pair (.int .i64) (.pair (.str) (.int .i64)))))) x5) (w6:wfD (.sl 2 (.int .i64)) x6) (w7:wfD (.sl 194 (.pair (.int .i64) (.pair (.int .i64) (.int .i64)))) x7) (w8:wfD (.sl 2 (.int .i64)) x8):
  tB x0 x1 x2 x3 x4 x5 x6 x7 x8=true∧tC x0 x1 x2 x3 x4 x5 x6 x7 x8=true:=by
 have l6:x6.length≤9223372036854775807:=w6.1
 have l7:x7.length≤9223372036854775807:=w7.1
 have l8:x8.length≤9223372036854775807:=w8.1
 have hP:PrSz x0 x2 x3 x4 x1 x5:=⟨w0,w2.1,w2.2,w3.1,w3.2,w4.1,w4.2,w1,w5.1,fun l hl=>⟨(w5.2 l hl).1,(w5.2 l hl).2.1,fun t ht=>((w5.2 l hl).2.2 t ht).2.1⟩⟩
 cases h10:ltI 1048576 (x8.length:Int)with
 |true=>simp [tB,tC,af,ag,mv,pz,mw,ay,aG,pA,my,pB,lr,fc,ia,bw,ji,nV,lu,cg,jj,lv,fe,nW,jk,nX,nY,cz,cA,nZ,lw,oa,oc,od,oe,og,lx,oh,oi,h10,allT]
 |false=>
  have h10':x8.length≤1048576:=by
   rcases Nat.lt_or_ge 1048576 x8.length with h | h
   ·rw [eQ (by omega)]at h10;cases h10
   ·exact h
  have t10:ltI 1048576 (x8.length:Int)=false:=h10
  obtain⟨s1,s2⟩:=al4 hP
  cases h1:ltI (iu x0 x1 1048576 x2 x3 x4 x5) 0 with
  |true=>simp [tB,tC,af,ag,mv,pz,mw,ay,aG,pA,my,pB,lr,fc,ia,bw,ji,nV,lu,cg,jj,lv,fe,nW,jk,nX,nY,cz,cA,nZ,lw,oa,oc,od,oe,og,lx,oh,oi,h1,h10,s1,allT]
  |false=>
   have hF:=s2 h1
   have hsum:=hF.sum
   have hzz:=hF.zz
   obtain⟨u1,u2⟩:=akR (k:=iu x0 x1 1048576 x2 x3 x4 x5) l6 l7 (by omega) hzz.2
   cases h2:ltI (wI (iu x0 x1 1048576 x2 x3 x4 x5) x6 x7) 0 with
   |true=>simp [tB,tC,af,ag,mv,pz,mw,ay,aG,pA,my,pB,lr,fc,ia,bw,ji,nV,lu,cg,jj,lv,fe,nW,jk,nX,nY,cz,cA,nZ,lw,oa,oc,od,oe,og,lx,oh,oi,h1,h2,h10,s1,u1,allT]
   |false=>
    have hM:=u2 h2
    have r0:=h1
    have r1:=h2
    have k6:leN x6.length 1048576=true:=dx (by omega)
    have k7:leN x7.length 1048576=true:=dx (by omega)
    have k8:leN x8.length 1048576=true:=dx (by omega)
    have m8:leN x8.length 9223372036854775807=true:=dx l8
    obtain⟨p1,p2,p3⟩:=aoq hF hP
    obtain⟨e1,e2⟩:=amY hP
    have hG:cdG x0 x2 x3 x4 x1 x5 x6 [x8]=true:=ai1.2 ⟨hF.pr,dx l6,by simp,fun l hl=>by rw [List.mem_singleton.1 hl];exact m8⟩
    have f7:eqL x8 x8=true:=YX x8
    have f8:CX x6 x7=true:=by simp only [CX,k6,k7,allT,cond_true]
    have f9:eqL x6 x6=true:=YX x6
    have q1:bK x6 x7 x6 x7=true:=by simp [bK,YX,aik]
    have q2:tQ x6 x7 x6=true:=by simp [tQ,dx l6,dx l7,allT]
    obtain⟨n1,n2,n3⟩:=aoZ x0 x2 x3 x4 x1 x5 x6 x7 x8
    generalize hO:rnO x0 x2 x3 x4 x1 x5 x6 x7 x8=O at n1
    generalize hV:rnV x0 x2 x3 x4 x1 x5 x6 x7 x8=V at n2
    generalize hB:rnB x0 x2 x3 x4 x1 x5 x6 x7 x8=B at n3
    have lO:leN O.length 9223372036854775807=true:=dx (by omega)
    have eO:eqL O O=true:=YX O
    have eM:bK V B V B=true:=by simp [bK,YX,aik]
    have eM1:tQ V B V=true:=by simp [tQ,dx (show V.length≤9223372036854775807 by omega),dx (show B.length≤9223372036854775807 by omega),allT]
    obtain⟨pm,pm0,pm1⟩:=alL hF
    obtain⟨g4,_⟩:=amS (lc 1 x2 x3 x4 x5) x6 x7 pm0 (by omega) (by omega)
    have g5:jl (lc 1 x2 x3 x4 x5) x6 x7=lc 1 x2 x3 x4 x5 + x6.length + 3 * (x7.length:Int):=by simp only [jl,mY]
    have g6:af2 (jl (lc 1 x2 x3 x4 x5) x6 x7) x8.length=true:=UY.2 (by rw [g5];omega)
    have g7:ltI (jl (lc 1 x2 x3 x4 x5) x6 x7 + (x8.length:Int)) 0=false:=Na (by rw [g5];omega)
    have mO:af2 1 O.length=true:=UY.2 (by omega)
    have vO:=aj6 1 O.length mO
    have tO:ltI (1 + (O.length:Int)) 0=false:=Na (by omega)
    obtain⟨d1,d2,d3,d4⟩:=anJ (1 + O.length) V B (by omega) (by omega)
    have uL:=Lt
    have r_a0:=Eq.refl (af x0 x1 x2 x3 x4 x5)
    conv at r_a0=>rhs;simp only [af,S0z,allT,t10,r0,r1,s1,u1,p1,p2,p3,e1,e2,q1,q2,k6,k7,k8,m8,hG,f7,f8,f9,hO,hV,hB,lO,eO,eM,eM1,pm,g4,g6,g7,mO,vO,tO,d1,d2,d3,d4,uL]
    have r_a1:=Eq.refl (ag x0 x1 x2 x3 x4 x5 x6 x7)
    conv at r_a1=>rhs;simp only [ag,S0z,allT,t10,r0,r1,s1,u1,p1,p2,p3,e1,e2,q1,q2,k6,k7,k8,m8,hG,f7,f8,f9,hO,hV,hB,lO,eO,eM,eM1,pm,g4,g6,g7,mO,vO,tO,d1,d2,d3,d4,uL,r_a0]
    have r_a2:=Eq.refl (mv x0 x1 x2 x3 x4 x5 x6 x7 x8)
    conv at r_a2=>rhs;simp only [mv,S0z,allT,t10,r0,r1,s1,u1,p1,p2,p3,e1,e2,q1,q2,k6,k7,k8,m8,hG,f7,f8,f9,hO,hV,hB,lO,eO,eM,eM1,pm,g4,g6,g7,mO,vO,tO,d1,d2,d3,d4,uL,r_a0,r_a1]
    have r_a3:=Eq.refl (pz x0 x1 x2 x3 x4 x5 x6 x7 x8)
    conv at r_a3=>rhs;simp only [pz,S0z,allT,t10,r0,r1,s1,u1,p1,p2,p3,e1,e2,q1,q2,k6,k7,k8,m8,hG,f7,f8,f9,hO,hV,hB,lO,eO,eM,eM1,pm,g4,g6,g7,mO,vO,tO,d1,d2,d3,d4,uL,r_a0,r_a1,r_a2]
    have r_a4:=Eq.refl (mw x0 x1 x2 x3 x4 x5 x6 x7 x8)
    conv at r_a4=>rhs;simp only [mw,S0z,allT,t10,r0,r1,s1,u1,p1,p2,p3,e1,e2,q1,q2,k6,k7,k8,m8,hG,f7,f8,f9,hO,hV,hB,lO,eO,eM,eM1,pm,g4,g6,g7,mO,vO,tO,d1,d2,d3,d4,uL,r_a0,r_a1,r_a2,r_a3]
    have r_a5:=Eq.refl (ay x0 x1 x2 x3 x4 x5 x6 x7 x8)
    conv at r_a5=>rhs;simp only [ay,S0z,allT,t10,r0,r1,s1,u1,p1,p2,p3,e1,e2,q1,q2,k6,k7,k8,m8,hG,f7,f8,f9,hO,hV,hB,lO,eO,eM,eM1,pm,g4,g6,g7,mO,vO,tO,d1,d2,d3,d4,uL,r_a0,r_a1,r_a2,r_a3,r_a4]
    have r_a6:=Eq.refl (aG x0 x1 x2 x3 x4 x5)
    conv at r_a6=>rhs;simp only [aG,S0z,allT,t10,r0,r1,s1,u1,p1,p2,p3,e1,e2,q1,q2,k6,k7,k8,m8,hG,f7,f8,f9,hO,hV,hB,lO,eO,eM,eM1,pm,g4,g6,g7,mO,vO,tO,d1,d2,d3,d4,uL,r_a0,r_a1,r_a2,r_a3,r_a4,r_a5]
    have r_a7:=Eq.refl (pA x2 x3 x4 x5 x6 x7)
    conv at r_a7=>rhs;simp only [pA,S0z,allT,t10,r0,r1,s1,u1,p1,p2,p3,e1,e2,q1,q2,k6,k7,k8,m8,hG,f7,f8,f9,hO,hV,hB,lO,eO,eM,eM1,pm,g4,g6,g7,mO,vO,tO,d1,d2,d3,d4,uL,r_a0,r_a1,r_a2,r_a3,r_a4,r_a5,r_a6]
    have r_a8:=Eq.refl (my x2 x3 x4 x5 x6 x7 x8)
    conv at r_a8=>rhs;simp only [my,S0z,allT,t10,r0,r1,s1,u1,p1,p2,p3,e1,e2,q1,q2,k6,k7,k8,m8,hG,f7,f8,f9,hO,hV,hB,lO,eO,eM,eM1,pm,g4,g6,g7,mO,vO,tO,d1,d2,d3,d4,uL,r_a0,r_a1,r_a2,r_a3,r_a4,r_a5,r_a6,r_a7]
    have r_a9:=Eq.refl (pB x0 x1 x2 x3 x4 x5 x6 x7 x8)
    conv at r_a9=>rhs;simp only [pB,S0z,allT,t10,r0,r1,s1,u1,p1,p2,p3,e1,e2,q1,q2,k6,k7,k8,m8,hG,f7,f8,f9,hO,hV,hB,lO,eO,eM,eM1,pm,g4,g6,g7,mO,vO,tO,d1,d2,d3,d4,uL,r_a0,r_a1,r_a2,r_a3,r_a4,r_a5,r_a6,r_a7,r_a8]
    have r_a10:=Eq.refl (lr x0 x1 x2 x3 x4 x5 x6 x7 x8)
    conv at r_a10=>rhs;simp only [lr,S0z,allT,t10,r0,r1,s1,u1,p1,p2,p3,e1,e2,q1,q2,k6,k7,k8,m8,hG,f7,f8,f9,hO,hV,hB,lO,eO,eM,eM1,pm,g4,g6,g7,mO,vO,tO,d1,d2,d3,d4,uL,r_a0,r_a1,r_a2,r_a3,r_a4,r_a5,r_a6,r_a7,r_a8,r_a9]
    have r_a11:=Eq.refl (fc x0 x1 x2 x3 x4 x5 x6 x7 x8)
    conv at r_a11=>rhs;simp only [fc,S0z,allT,t10,r0,r1,s1,u1,p1,p2,p3,e1,e2,q1,q2,k6,k7,k8,m8,hG,f7,f8,f9,hO,hV,hB,lO,eO,eM,eM1,pm,g4,g6,g7,mO,vO,tO,d1,d2,d3,d4,uL,r_a0,r_a1,r_a2,r_a3,r_a4,r_a5,r_a6,r_a7,r_a8,r_a9,r_a10]
    have r_a12:=Eq.refl (ia x0 x1 x2 x3 x4 x5 x6 x7 x8)
    conv at r_a12=>rhs;simp only [ia,S0z,allT,t10,r0,r1,s1,u1,p1,p2,p3,e1,e2,q1,q2,k6,k7,k8,m8,hG,f7,f8,f9,hO,hV,hB,lO,eO,eM,eM1,pm,g4,g6,g7,mO,vO,tO,d1,d2,d3,d4,uL,r_a0,r_a1,r_a2,r_a3,r_a4,r_a5,r_a6,r_a7,r_a8,r_a9,r_a10,r_a11]
    have r_a13:=Eq.refl (bw x0 x1 x2 x3 x4 x5 x6 x7 x8)
    conv at r_a13=>rhs;simp only [bw,S0z,allT,t10,r0,r1,s1,u1,p1,p2,p3,e1,e2,q1,q2,k6,k7,k8,m8,hG,f7,f8,f9,hO,hV,hB,lO,eO,eM,eM1,pm,g4,g6,g7,mO,vO,tO,d1,d2,d3,d4,uL,r_a0,r_a1,r_a2,r_a3,r_a4,r_a5,r_a6,r_a7,r_a8,r_a9,r_a10,r_a11,r_a12]
    have r_a14:=Eq.refl (ji x0 x1 x2 x3 x4 x5 x6 x7 x8)
    conv at r_a14=>rhs;simp only [ji,S0z,allT,t10,r0,r1,s1,u1,p1,p2,p3,e1,e2,q1,q2,k6,k7,k8,m8,hG,f7,f8,f9,hO,hV,hB,lO,eO,eM,eM1,pm,g4,g6,g7,mO,vO,tO,d1,d2,d3,d4,uL,r_a0,r_a1,r_a2,r_a3,r_a4,r_a5,r_a6,r_a7,r_a8,r_a9,r_a10,r_a11,r_a12,r_a13]
    have r_a15:=Eq.refl (nV x0 x1 x2 x3 x4 x5 x6 x7 x8)
    conv at r_a15=>rhs;simp only [nV,S0z,allT,t10,r0,r1,s1,u1,p1,p2,p3,e1,e2,q1,q2,k6,k7,k8,m8,hG,f7,f8,f9,hO,hV,hB,lO,eO,eM,eM1,pm,g4,g6,g7,mO,vO,tO,d1,d2,d3,d4,uL,r_a0,r_a1,r_a2,r_a3,r_a4,r_a5,r_a6,r_a7,r_a8,r_a9,r_a10,r_a11,r_a12,r_a13,r_a14]
    have r_a16:=Eq.refl (lu x0 x1 x2 x3 x4 x5 x6 x7 x8)
    conv at r_a16=>rhs;simp only [lu,S0z,allT,t10,r0,r1,s1,u1,p1,p2,p3,e1,e2,q1,q2,k6,k7,k8,m8,hG,f7,f8,f9,hO,hV,hB,lO,eO,eM,eM1,pm,g4,g6,g7,mO,vO,tO,d1,d2,d3,d4,uL,r_a0,r_a1,r_a2,r_a3,r_a4,r_a5,r_a6,r_a7,r_a8,r_a9,r_a10,r_a11,r_a12,r_a13,r_a14,r_a15]
    have r_a17:=Eq.refl (cg x0 x1 x2 x3 x4 x5 x6 x7 x8)
    conv at r_a17=>rhs;simp only [cg,S0z,allT,t10,r0,r1,s1,u1,p1,p2,p3,e1,e2,q1,q2,k6,k7,k8,m8,hG,f7,f8,f9,hO,hV,hB,lO,eO,eM,eM1,pm,g4,g6,g7,mO,vO,tO,d1,d2,d3,d4,uL,r_a0,r_a1,r_a2,r_a3,r_a4,r_a5,r_a6,r_a7,r_a8,r_a9,r_a10,r_a11,r_a12,r_a13,r_a14,r_a15,r_a16]
    have r_a18:=Eq.refl (jj x0 x1 x2 x3 x4 x5 x6 x7 x8)
    conv at r_a18=>rhs;simp only [jj,S0z,allT,t10,r0,r1,s1,u1,p1,p2,p3,e1,e2,q1,q2,k6,k7,k8,m8,hG,f7,f8,f9,hO,hV,hB,lO,eO,eM,eM1,pm,g4,g6,g7,mO,vO,tO,d1,d2,d3,d4,uL,r_a0,r_a1,r_a2,r_a3,r_a4,r_a5,r_a6,r_a7,r_a8,r_a9,r_a10,r_a11,r_a12,r_a13,r_a14,r_a15,r_a16,r_a17]
    have r_a19:=Eq.refl (lv x0 x1 x2 x3 x4 x5 x6 x7 x8)
    conv at r_a19=>rhs;simp only [lv,S0z,allT,t10,r0,r1,s1,u1,p1,p2,p3,e1,e2,q1,q2,k6,k7,k8,m8,hG,f7,f8,f9,hO,hV,hB,lO,eO,eM,eM1,pm,g4,g6,g7,mO,vO,tO,d1,d2,d3,d4,uL,r_a0,r_a1,r_a2,r_a3,r_a4,r_a5,r_a6,r_a7,r_a8,r_a9,r_a10,r_a11,r_a12,r_a13,r_a14,r_a15,r_a16,r_a17,r_a18]
    have r_a20:=Eq.refl (fe x0 x1 x2 x3 x4 x5 x6 x7 x8)
    conv at r_a20=>rhs;simp only [fe,S0z,allT,t10,r0,r1,s1,u1,p1,p2,p3,e1,e2,q1,q2,k6,k7,k8,m8,hG,f7,f8,f9,hO,hV,hB,lO,eO,eM,eM1,pm,g4,g6,g7,mO,vO,tO,d1,d2,d3,d4,uL,r_a0,r_a1,r_a2,r_a3,r_a4,r_a5,r_a6,r_a7,r_a8,r_a9,r_a10,r_a11,r_a12,r_a13,r_a14,r_a15,r_a16,r_a17,r_a18,r_a19]
    have r_a21:=Eq.refl (nW x0 x1 x2 x3 x4 x5 x6 x7 x8)
    conv at r_a21=>rhs;simp only [nW,S0z,allT,t10,r0,r1,s1,u1,p1,p2,p3,e1,e2,q1,q2,k6,k7,k8,m8,hG,f7,f8,f9,hO,hV,hB,lO,eO,eM,eM1,pm,g4,g6,g7,mO,vO,tO,d1,d2,d3,d4,uL,r_a0,r_a1,r_a2,r_a3,r_a4,r_a5,r_a6,r_a7,r_a8,r_a9,r_a10,r_a11,r_a12,r_a13,r_a14,r_a15,r_a16,r_a17,r_a18,r_a19,r_a20]
    have r_a22:=Eq.refl (jk x0 x1 x2 x3 x4 x5 x6 x7 x8)
    conv at r_a22=>rhs;simp only [jk,S0z,allT,t10,r0,r1,s1,u1,p1,p2,p3,e1,e2,q1,q2,k6,k7,k8,m8,hG,f7,f8,f9,hO,hV,hB,lO,eO,eM,eM1,pm,g4,g6,g7,mO,vO,tO,d1,d2,d3,d4,uL,r_a0,r_a1,r_a2,r_a3,r_a4,r_a5,r_a6,r_a7,r_a8,r_a9,r_a10,r_a11,r_a12,r_a13,r_a14,r_a15,r_a16,r_a17,r_a18,r_a19,r_a20,r_a21]
    have r_a23:=Eq.refl (nX x0 x1 x2 x3 x4 x5 x6 x7 x8)
    conv at r_a23=>rhs;simp only [nX,S0z,allT,t10,r0,r1,s1,u1,p1,p2,p3,e1,e2,q1,q2,k6,k7,k8,m8,hG,f7,f8,f9,hO,hV,hB,lO,eO,eM,eM1,pm,g4,g6,g7,mO,vO,tO,d1,d2,d3,d4,uL,r_a0,r_a1,r_a2,r_a3,r_a4,r_a5,r_a6,r_a7,r_a8,r_a9,r_a10,r_a11,r_a12,r_a13,r_a14,r_a15,r_a16,r_a17,r_a18,r_a19,r_a20,r_a21,r_a22]
    have r_a24:=Eq.refl (nY x0 x1 x2 x3 x4 x5 x6 x7 x8)
    conv at r_a24=>rhs;simp only [nY,S0z,allT,t10,r0,r1,s1,u1,p1,p2,p3,e1,e2,q1,q2,k6,k7,k8,m8,hG,f7,f8,f9,hO,hV,hB,lO,eO,eM,eM1,pm,g4,g6,g7,mO,vO,tO,d1,d2,d3,d4,uL,r_a0,r_a1,r_a2,r_a3,r_a4,r_a5,r_a6,r_a7,r_a8,r_a9,r_a10,r_a11,r_a12,r_a13,r_a14,r_a15,r_a16,r_a17,r_a18,r_a19,r_a20,r_a21,r_a22,r_a23]
    have r_a25:=Eq.refl (cz x0 x1 x2 x3 x4 x5 x6 x7 x8)
    conv at r_a25=>rhs;simp only [cz,S0z,allT,t10,r0,r1,s1,u1,p1,p2,p3,e1,e2,q1,q2,k6,k7,k8,m8,hG,f7,f8,f9,hO,hV,hB,lO,eO,eM,eM1,pm,g4,g6,g7,mO,vO,tO,d1,d2,d3,d4,uL,r_a0,r_a1,r_a2,r_a3,r_a4,r_a5,r_a6,r_a7,r_a8,r_a9,r_a10,r_a11,r_a12,r_a13,r_a14,r_a15,r_a16,r_a17,r_a18,r_a19,r_a20,r_a21,r_a22,r_a23,r_a24]
    have r_a26:=Eq.refl (cA x0 x1 x2 x3 x4 x5 x6 x7 x8)
    conv at r_a26=>rhs;simp only [cA,S0z,allT,t10,r0,r1,s1,u1,p1,p2,p3,e1,e2,q1,q2,k6,k7,k8,m8,hG,f7,f8,f9,hO,hV,hB,lO,eO,eM,eM1,pm,g4,g6,g7,mO,vO,tO,d1,d2,d3,d4,uL,r_a0,r_a1,r_a2,r_a3,r_a4,r_a5,r_a6,r_a7,r_a8,r_a9,r_a10,r_a11,r_a12,r_a13,r_a14,r_a15,r_a16,r_a17,r_a18,r_a19,r_a20,r_a21,r_a22,r_a23,r_a24,r_a25]
    have r_a27:=Eq.refl (nZ x0 x1 x2 x3 x4 x5 x6 x7 x8)
    conv at r_a27=>rhs;simp only [nZ,S0z,allT,t10,r0,r1,s1,u1,p1,p2,p3,e1,e2,q1,q2,k6,k7,k8,m8,hG,f7,f8,f9,hO,hV,hB,lO,eO,eM,eM1,pm,g4,g6,g7,mO,vO,tO,d1,d2,d3,d4,uL,r_a0,r_a1,r_a2,r_a3,r_a4,r_a5,r_a6,r_a7,r_a8,r_a9,r_a10,r_a11,r_a12,r_a13,r_a14,r_a15,r_a16,r_a17,r_a18,r_a19,r_a20,r_a21,r_a22,r_a23,r_a24,r_a25,r_a26]
    have r_a28:=Eq.refl (lw x0 x1 x2 x3 x4 x5 x6 x7 x8)
    conv at r_a28=>rhs;simp only [lw,S0z,allT,t10,r0,r1,s1,u1,p1,p2,p3,e1,e2,q1,q2,k6,k7,k8,m8,hG,f7,f8,f9,hO,hV,hB,lO,eO,eM,eM1,pm,g4,g6,g7,mO,vO,tO,d1,d2,d3,d4,uL,r_a0,r_a1,r_a2,r_a3,r_a4,r_a5,r_a6,r_a7,r_a8,r_a9,r_a10,r_a11,r_a12,r_a13,r_a14,r_a15,r_a16,r_a17,r_a18,r_a19,r_a20,r_a21,r_a22,r_a23,r_a24,r_a25,r_a26,r_a27]
    have r_a29:=Eq.refl (oa x0 x1 x2 x3 x4 x5 x6 x7 x8)
    conv at r_a29=>rhs;simp only [oa,S0z,allT,t10,r0,r1,s1,u1,p1,p2,p3,e1,e2,q1,q2,k6,k7,k8,m8,hG,f7,f8,f9,hO,hV,hB,lO,eO,eM,eM1,pm,g4,g6,g7,mO,vO,tO,d1,d2,d3,d4,uL,r_a0,r_a1,r_a2,r_a3,r_a4,r_a5,r_a6,r_a7,r_a8,r_a9,r_a10,r_a11,r_a12,r_a13,r_a14,r_a15,r_a16,r_a17,r_a18,r_a19,r_a20,r_a21,r_a22,r_a23,r_a24,r_a25,r_a26,r_a27,r_a28]
    have r_a30:=Eq.refl (oc x0 x1 x2 x3 x4 x5 x6 x7 x8)
    conv at r_a30=>rhs;simp only [oc,S0z,allT,t10,r0,r1,s1,u1,p1,p2,p3,e1,e2,q1,q2,k6,k7,k8,m8,hG,f7,f8,f9,hO,hV,hB,lO,eO,eM,eM1,pm,g4,g6,g7,mO,vO,tO,d1,d2,d3,d4,uL,r_a0,r_a1,r_a2,r_a3,r_a4,r_a5,r_a6,r_a7,r_a8,r_a9,r_a10,r_a11,r_a12,r_a13,r_a14,r_a15,r_a16,r_a17,r_a18,r_a19,r_a20,r_a21,r_a22,r_a23,r_a24,r_a25,r_a26,r_a27,r_a28,r_a29]
    have r_a31:=Eq.refl (od x0 x1 x2 x3 x4 x5 x6 x7 x8)
    conv at r_a31=>rhs;simp only [od,S0z,allT,t10,r0,r1,s1,u1,p1,p2,p3,e1,e2,q1,q2,k6,k7,k8,m8,hG,f7,f8,f9,hO,hV,hB,lO,eO,eM,eM1,pm,g4,g6,g7,mO,vO,tO,d1,d2,d3,d4,uL,r_a0,r_a1,r_a2,r_a3,r_a4,r_a5,r_a6,r_a7,r_a8,r_a9,r_a10,r_a11,r_a12,r_a13,r_a14,r_a15,r_a16,r_a17,r_a18,r_a19,r_a20,r_a21,r_a22,r_a23,r_a24,r_a25,r_a26,r_a27,r_a28,r_a29,r_a30]
    have r_a32:=Eq.refl (oe x0 x1 x2 x3 x4 x5 x6 x8)
    conv at r_a32=>rhs;simp only [oe,S0z,allT,t10,r0,r1,s1,u1,p1,p2,p3,e1,e2,q1,q2,k6,k7,k8,m8,hG,f7,f8,f9,hO,hV,hB,lO,eO,eM,eM1,pm,g4,g6,g7,mO,vO,tO,d1,d2,d3,d4,uL,r_a0,r_a1,r_a2,r_a3,r_a4,r_a5,r_a6,r_a7,r_a8,r_a9,r_a10,r_a11,r_a12,r_a13,r_a14,r_a15,r_a16,r_a17,r_a18,r_a19,r_a20,r_a21,r_a22,r_a23,r_a24,r_a25,r_a26,r_a27,r_a28,r_a29,r_a30,r_a31]
    have r_a33:=Eq.refl (og x0 x1 x2 x3 x4 x5 x6 x7 x8)
    conv at r_a33=>rhs;simp only [og,S0z,allT,t10,r0,r1,s1,u1,p1,p2,p3,e1,e2,q1,q2,k6,k7,k8,m8,hG,f7,f8,f9,hO,hV,hB,lO,eO,eM,eM1,pm,g4,g6,g7,mO,vO,tO,d1,d2,d3,d4,uL,r_a0,r_a1,r_a2,r_a3,r_a4,r_a5,r_a6,r_a7,r_a8,r_a9,r_a10,r_a11,r_a12,r_a13,r_a14,r_a15,r_a16,r_a17,r_a18,r_a19,r_a20,r_a21,r_a22,r_a23,r_a24,r_a25,r_a26,r_a27,r_a28,r_a29,r_a30,r_a31,r_a32]
    have r_a34:=Eq.refl (lx x0 x1 x2 x3 x4 x5 x6 x7 x8)
    conv at r_a34=>rhs;simp only [lx,S0z,allT,t10,r0,r1,s1,u1,p1,p2,p3,e1,e2,q1,q2,k6,k7,k8,m8,hG,f7,f8,f9,hO,hV,hB,lO,eO,eM,eM1,pm,g4,g6,g7,mO,vO,tO,d1,d2,d3,d4,uL,r_a0,r_a1,r_a2,r_a3,r_a4,r_a5,r_a6,r_a7,r_a8,r_a9,r_a10,r_a11,r_a12,r_a13,r_a14,r_a15,r_a16,r_a17,r_a18,r_a19,r_a20,r_a21,r_a22,r_a23,r_a24,r_a25,r_a26,r_a27,r_a28,r_a29,r_a30,r_a31,r_a32,r_a33]
    have r_a35:=Eq.refl (oh x0 x1 x2 x3 x4 x5 x6 x7 x8)
    conv at r_a35=>rhs;simp only [oh,S0z,allT,t10,r0,r1,s1,u1,p1,p2,p3,e1,e2,q1,q2,k6,k7,k8,m8,hG,f7,f8,f9,hO,hV,hB,lO,eO,eM,eM1,pm,g4,g6,g7,mO,vO,tO,d1,d2,d3,d4,uL,r_a0,r_a1,r_a2,r_a3,r_a4,r_a5,r_a6,r_a7,r_a8,r_a9,r_a10,r_a11,r_a12,r_a13,r_a14,r_a15,r_a16,r_a17,r_a18,r_a19,r_a20,r_a21,r_a22,r_a23,r_a24,r_a25,r_a26,r_a27,r_a28,r_a29,r_a30,r_a31,r_a32,r_a33,r_a34]
    have r_a36:=Eq.refl (oi x0 x1 x2 x3 x4 x5 x6 x7 x8)
    conv at r_a36=>rhs;simp only [oi,S0z,allT,t10,r0,r1,s1,u1,p1,p2,p3,e1,e2,q1,q2,k6,k7,k8,m8,hG,f7,f8,f9,hO,hV,hB,lO,eO,eM,eM1,pm,g4,g6,g7,mO,vO,tO,d1,d2,d3,d4,uL,r_a0,r_a1,r_a2,r_a3,r_a4,r_a5,r_a6,r_a7,r_a8,r_a9,r_a10,r_a11,r_a12,r_a13,r_a14,r_a15,r_a16,r_a17,r_a18,r_a19,r_a20,r_a21,r_a22,r_a23,r_a24,r_a25,r_a26,r_a27,r_a28,r_a29,r_a30,r_a31,r_a32,r_a33,r_a34,r_a35]
    refine⟨?_,?_⟩ <;> simp only [tB,tC,S0z,allT,t10,r0,r1,s1,u1,p1,p2,p3,e1,e2,q1,q2,k6,k7,k8,m8,hG,f7,f8,f9,hO,hV,hB,lO,eO,eM,eM1,pm,g4,g6,g7,mO,vO,tO,d1,d2,d3,d4,uL,r_a0,r_a1,r_a2,r_a3,r_a4,r_a5,r_a6,r_a7,r_a8,r_a9,r_a10,r_a11,r_a12,r_a13,r_a14,r_a15,r_a16,r_a17,r_a18,r_a19,r_a20,r_a21,r_a22,r_a23,r_a24,r_a25,r_a26,r_a27,r_a28,r_a29,r_a30,r_a31,r_a32,r_a33,r_a34,r_a35,r_a36]
end Go.SX
