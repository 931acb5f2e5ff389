/- What functions of the program come to, and what that says in plain words: part 3. -/
import Derived.Test.YtbajbgcdcaknpaaGreatDoorMb
import Derived.Test.YtbajbgcdcaknpaaGreatDoorTXh
import Derived.Test.YtbajbgcdcaknpaaGreatDoorProg
set_option linter.unusedSimpArgs false
set_option linter.unusedVariables false
namespace Go.SX
open Go.Proofs Go.Proofs.Tryz
set_option maxRecDepth 100000
abbrev LI:=List Int
abbrev L3:=List (Int×Int×Int)
abbrev L2:=List (Int×Int)
def wT(b:List Int):(List (List Int))→Nat ⊕ (List (List Int))
 |y4=>(.inr (y4++ [b]))
def sq(y1 y2 y3:Int)(y5:List Int)(y6:List (Int×(Int×Int)))(y7:List (List Int))(y8:List (Int×(Int×Int)))(y9 y10:List (Int×Int))(i:Nat):(List (List Int))→nC
 |y4=>((i:Int),y1,y2,y3,y4,y5,y6,y7,y8,y9,y10)
def PY:nC→List (List Int)
 |(_,_,_,_,y4,_,_,_,_,_,_)=>y4
theorem aig(y1 y2 y3:Int)(y5:List Int)(y6:List (Int×(Int×Int)))(y7:List (List Int))(y8:List (Int×(Int×Int)))(y9 y10:List (Int×Int))(y4:List (List Int))(hn:y7.length≤9223372036854775807)(hl:y7.length≤4)(hA: ∀ x∈y7,x.length≤12)(h0:y4= []):
  gi.fin ((0:Int),y1,y2,y3,y4,y5,y6,y7,y8,y9,y10)=true∧gi.res ((0:Int),y1,y2,y3,y4,y5,y6,y7,y8,y9,y10)=((aO (wT) 0 y7 0 y4).1,(sq y1 y2 y3 y5 y6 y7 y8 y9 y10) (aO (wT) 0 y7 0 y4).2.1 (aO (wT) 0 y7 0 y4).2.2):=by
 have ez:=gi.along (sq y1 y2 y3 y5 y6 y7 y8 y9 y10) PY (wT) 0 (fun i a=>a.length≤i) y7 y4 (by subst h0;simp) (by simp only [gi,sq];omega) (fun i b a hb hI=> ?_) (fun a hI=> ?_)
 ·exact ez
 ·obtain y4:=a
  have dZ:=(List.getElem?_eq_some_iff.1 hb).1
  have gQ: ∀ d,Option.getD y7[i]? d=b:=fun d=>by rw [hb];rfl
  have hw:=tw dZ hn
  have cR:ltI (i:Int) (y7.length:Int)=true:=fj (by omega)
  have ta:leI (0:Int) (i:Int)=true:=da (by omega)
  have fB:ltN i y7.length=true:=gp dZ
  refine⟨?_,?_,?_,?_⟩
  ·have hb2:=hA b (List.mem_of_getElem? hb)
   have h5:leN b.length 1048576=true:=br (by omega)
   have h6:leN (a.length + 1) 9223372036854775807=true:=br (by omega)
   have h7:leN ((a.length + 1) * 24) 140737488355328=true:=br (by omega)
   simp [si,Cm,Hu,Hv,Hw,Hx,Hy,Hz,HA,Et,gi,LT.nds,allT,sq,cR,ta,fB,Im,gQ,h5,h6,h7]
  ·simp [si,Cm,Hu,Hv,Hw,Hx,Hy,Hz,HA,Et,gi,LT.each,sq,PY,hw,Im,gQ]
  ·simp only [si,Cm,Hu,Hv,Hw,Hx,Hy,Hz,HA,Et,gi,LT.fn,sq,PY,wT,Int.toNat_natCast,cR,ta,fB,gQ,cond_true,Bool.cond_self,Im,gQ]
  ·intro a' hf;simp only [wT,Sum.inr.injEq]at hf;subst hf;simp;omega
 ·obtain y4:=a
  simp [si,Cm,Hu,Hv,Hw,Hx,Hy,Hz,HA,Et,gi,LT.out,sq]
def aqS(ps:LI)(fs:L3)(rs:List LI)(lf:L3)(pl ls:L2):Prop:=ps.length≤4∧1≤ps.length∧fs.length≤100∧rs.length≤4∧(∀ x∈rs,1≤x.length∧x.length≤12)∧lf.length≤100∧pl.length≤10000∧ls.length≤10000
theorem ako(n mode day:Int){ps:LI}{fs:L3}{rs:List LI}{lf:L3}{pl ls:L2}(h:aqS ps fs rs lf pl ls):
  ml n mode day ps fs rs lf pl ls=rs∧NA n mode day ps fs rs lf pl ls=true:=by
 obtain⟨h1,_,h2,h3,h4,h5,h6,h7⟩:=h
 obtain⟨w1,w2⟩:=aig n mode day ps fs rs lf pl ls [] (by omega) h3 (fun x hx=>(h4 x hx).2) rfl
 rw [kt (f:=wT) (g:=fun a b=>a++ [b]) (fun b a=>rfl),Ul (fun x=>x)]at w2
 refine⟨by simp only [ml,QV,w2,sq,List.nil_append,List.map_id'],?_⟩
 have w3:Lp.fin gi (QV n mode day ps fs rs lf pl ls)=true:=w1
 have e1:leN ps.length 1048576=true:=br (by omega)
 have e2:leN (0 + fs.length) 9223372036854775807=true:=br (by omega)
 have e3:leN ((0 + fs.length) * 24) 140737488355328=true:=br (by omega)
 have e4:leN (0 + lf.length) 9223372036854775807=true:=br (by omega)
 have e5:leN ((0 + lf.length) * 24) 140737488355328=true:=br (by omega)
 have e6:leN (0 + pl.length) 9223372036854775807=true:=br (by omega)
 have e7:leN ((0 + pl.length) * 16) 140737488355328=true:=br (by omega)
 have e8:leN (0 + ls.length) 9223372036854775807=true:=br (by omega)
 have e9:leN ((0 + ls.length) * 16) 140737488355328=true:=br (by omega)
 simp only [NA,w3,e1,e2,e3,e4,e5,e6,e7,e8,e9,allT,cond_true]
def cm(b:List Int):(List (List Int))→Nat ⊕ (List (List Int))
 |y8=>(.inr (y8++ [b]))
def bO(y2:List (List Int))(y3 y4 y5:Int)(y6:List Int)(y7 y9:List (Int×(Int×Int)))(y10 y11:List (Int×Int))(i:Nat):(List (List Int))→be
 |y8=>((i:Int),(↑y2.length:Int),y2,y3,y4,y5,y6,y7,y8,y9,y10,y11)
def nt:be→List (List Int)
 |(_,_,_,_,_,_,_,_,y8,_,_,_)=>y8
theorem Kr(y2:List (List Int))(y3 y4 y5:Int)(y6:List Int)(y7 y9:List (Int×(Int×Int)))(y10 y11:List (Int×Int))(y8:List (List Int))(hn:y2.length≤9223372036854775807)(hl:y2.length≤4)(hA: ∀ x∈y2,1≤x.length∧x.length≤12)(h0:y8= []):
  aB.fin ((0:Int),(↑y2.length:Int),y2,y3,y4,y5,y6,y7,y8,y9,y10,y11)=true∧aB.res ((0:Int),(↑y2.length:Int),y2,y3,y4,y5,y6,y7,y8,y9,y10,y11)=((aO (cm) 0 y2 0 y8).1,(bO y2 y3 y4 y5 y6 y7 y9 y10 y11) (aO (cm) 0 y2 0 y8).2.1 (aO (cm) 0 y2 0 y8).2.2):=by
 have ez:=aB.along (bO y2 y3 y4 y5 y6 y7 y9 y10 y11) nt (cm) 0 (fun i a=>a.length≤i) y2 y8 (by subst h0;simp) (by simp only [aB,bO];omega) (fun i b a hb hI=> ?_) (fun a hI=> ?_)
 ·exact ez
 ·obtain y8:=a
  have dZ:=(List.getElem?_eq_some_iff.1 hb).1
  have gQ: ∀ d,Option.getD y2[i]? d=b:=fun d=>by rw [hb];rfl
  have hw:=tw dZ hn
  have cR:ltI (i:Int) (y2.length:Int)=true:=fj (by omega)
  have ta:leI (0:Int) (i:Int)=true:=da (by omega)
  have fB:ltN i y2.length=true:=gp dZ
  refine⟨?_,?_,?_,?_⟩
  ·have hb2:=hA b (List.mem_of_getElem? hb)
   have h5:leN b.length 1048576=true:=br (by omega)
   have h4:leN 1 b.length=true:=br (by omega)
   have h6:leN (a.length + 1) 9223372036854775807=true:=br (by omega)
   have h7:leN ((a.length + 1) * 24) 140737488355328=true:=br (by omega)
   simp [bq,fK,fL,fM,fN,fO,fP,fQ,fR,fS,fl,aB,LT.nds,allT,bO,cR,ta,fB,Im,gQ,h4,h5,h6,h7]
  ·simp [bq,fK,fL,fM,fN,fO,fP,fQ,fR,fS,fl,aB,LT.each,bO,nt,hw,Im,gQ]
  ·simp only [bq,fK,fL,fM,fN,fO,fP,fQ,fR,fS,fl,aB,LT.fn,bO,nt,cm,Int.toNat_natCast,cR,ta,fB,gQ,cond_true,Bool.cond_self,Im,gQ]
  ·intro a' hf;simp only [cm,Sum.inr.injEq]at hf;subst hf;simp;omega
 ·obtain y8:=a
  simp [bq,fK,fL,fM,fN,fO,fP,fQ,fR,fS,fl,aB,LT.out,bO]
theorem alR(n mode day:Int){ps:LI}{fs:L3}{rs:List LI}{lf:L3}{pl ls:L2}(h:aqS ps fs rs lf pl ls):
  kO n mode day ps fs rs lf pl ls=rs∧kP n mode day ps fs rs lf pl ls=true:=by
 obtain⟨h1,h1',h2,h3,h4,h5,h6,h7⟩:=h
 obtain⟨w1,w2⟩:=Kr rs n mode day ps fs lf pl ls [] (by omega) h3 h4 rfl
 rw [kt (f:=cm) (g:=fun a b=>a++ [b]) (fun b a=>rfl),Ul (fun x=>x)]at w2
 refine⟨by simp only [kO,jX,w2,bO,List.nil_append,List.map_id'],?_⟩
 have w3:Lp.fin aB (jX n mode day ps fs rs lf pl ls)=true:=w1
 have e0:leN 1 ps.length=true:=br (by omega)
 have e1:leN ps.length 1048576=true:=br (by omega)
 have e2:leN fs.length 1048576=true:=br (by omega)
 have e3:leN lf.length 1048576=true:=br (by omega)
 have e4:leN pl.length 1048576=true:=br (by omega)
 have e5:leN ls.length 1048576=true:=br (by omega)
 simp [kP,w3,fT,e0,e1,e2,e3,e4,e5,allT]
abbrev RX:=Int×Int×(Int×Int)×Int×Int×Bool
def aa7(ps:LI)(rs:List LI)(k t rk row ck role:Int)(ez:Bool):Bool:=bif k==0 then Mw ps t&&((rk==0&&row==0)&&(ck==0&&(role==0&&ez==false)))else bif k==1 then(Mw ps t&&rsB (rowsR rs) rk row)&&(ck==0&&(role==0&&ez==false))else bif k==2 then(t==0&&(rk==0&&row==0))&&agy ck role else false
theorem apU{ls:L2}(h:okLk ls=true):ls.length≤8:=by
 simp only [okLk,Bool.and_eq_true,fH]at h;exact h.1
structure RideF (n mode day:Int) (ps:LI) (fs:L3) (rs:List LI) (lf:L3) (pl ls:L2):Prop where
 hT:isT n ps=true
 hF:okFs n fs=true
 hl:rs.length=ps.length
 hR:rsOk rs=true
 hL:lfOk (rowsR rs) lf=true
 hM:0≤mode∧mode≤5
 hP:okPl pl=true
 hK:okLk ls=true
 hD:inR day 0 100000=true
 n1:2≤n∧n≤8
 lp:1≤ps.length∧ps.length≤4
 lfs:fs.length≤8
 llf:lf.length≤8
 lpl:pl.length≤12
 lls:ls.length≤8
 hA: ∀ x∈rs,areR x=true∧(x.length:Int)=rowsR rs
theorem al6{n mode day:Int}{ps:LI}{fs:L3}{rs:List LI}{lf:L3}{pl ls:L2}(h:re n ps fs rs lf mode pl ls day=true):RideF n mode day ps fs rs lf pl ls:=by
 obtain⟨h1,h2,h3,h4,h5,h6,h7,h8,h9⟩:=an5.1 h
 have h1':=h1
 simp only [isT,Bool.and_eq_true,sf]at h1'
 refine⟨h1,h2,h3,h4,h5,sf.1 h6,h7,h8,h9,h1'.1.1,by omega,amU h2,apQ h5,ajY h7,apU h8,fun x hx=> ?_⟩
 simp only [rsOk,List.all_eq_true,Bool.and_eq_true,beq_iff_eq]at h4
 exact h4 x hx
theorem RideF.cp{n mode day:Int}{ps:LI}{fs:L3}{rs:List LI}{lf:L3}{pl ls:L2}(h:RideF n mode day ps fs rs lf pl ls):aqS ps fs rs lf pl ls:=by
 have:=h.lp;have:=h.lfs;have:=h.llf;have:=h.lpl;have:=h.lls;have:=h.hl
 refine⟨by omega,by omega,by omega,by omega,fun x hx=> ?_,by omega,by omega,by omega⟩
 have:=(Gw.1 (h.hA x hx).1).1
 omega
theorem RideF.rN{n mode day:Int}{ps:LI}{fs:L3}{rs:List LI}{lf:L3}{pl ls:L2}(h:RideF n mode day ps fs rs lf pl ls):Gb 9223372036854775807 ps fs rs lf pl ls=true:=by
 have:=h.lp;have:=h.lfs;have:=h.llf;have:=h.lpl;have:=h.lls;have:=h.hl
 refine Un.2 ⟨by omega,by omega,⟨by omega,fun x hx=> ?_⟩,by omega,by omega,by omega⟩
 have:=(Gw.1 (h.hA x hx).1).1
 omega
theorem ao0{rs:List LI}{ps:LI}(hl:rs.length=ps.length)(hp:1≤ps.length∧ps.length≤4)(t:Int):aT t 0 (IntKind.i64.wrap ((rs.length:Int) - 1))=Mw ps t:=by
 rw [aT,wq,hl,ag (by omega) (by omega),Mw]
theorem anj(rs:List LI):zF rs=rowsR rs:=by
 simp only [zF,Im];rfl
theorem ah9(n mode day k t rk row ck role:Int)(ez:Bool)(ps:LI)(fs:L3)(rs:List LI)(lf:L3)(pl ls:L2)(hN:Gb 9223372036854775807 ps fs rs lf pl ls=true):
  vq n mode day k t rk row ck role ez ps fs rs lf pl ls=(re n ps fs rs lf mode pl ls day&&aa7 ps rs k t rk row ck role ez)∧
  zP n mode day k t ps fs rs lf pl ls=true:=by
 cases hO:re n ps fs rs lf mode pl ls day with
 |false=>simp [vq,zP,hO,hN,allT]
 |true=>
  have f:=al6 hO
  have hw:=ao0 f.hl f.lp t
  have n1:ltI 0 (rs.length:Int)=true:=fj (by have:=f.hl;have:=f.lp;omega)
  have n2:ltN 0 rs.length=true:=gp (by have:=f.hl;have:=f.lp;omega)
  refine⟨?_,?_⟩
  ·simp only [vq,IP,Ov,Ow,hO,hw,anj,aa7,beq_self_eq_true,Bool.not_true,cond_false,cond_true,Bool.true_and]
   cases k==0 <;> cases k==1 <;> cases k==2 <;> cases Mw ps t <;> cases rk==0 <;> cases row==0 <;> cases ck==0 <;> cases role==0 <;> cases ez <;> cases t==0 <;> simp
  ·simp [zP,zG,hO,hN,allT,n1,n2]
theorem ao4{n mode day:Int}(k t rk row ck role:Int)(ez:Bool){ps:LI}{fs:L3}{rs:List LI}{lf:L3}{pl ls:L2}(f:RideF n mode day ps fs rs lf pl ls):
  yK k t rk row ck role ez ps rs=aa7 ps rs k t rk row ck role ez∧yL k t ps rs=true:=by
 have n1:ltI 0 (rs.length:Int)=true:=fj (by have:=f.hl;have:=f.lp;omega)
 have n2:ltN 0 rs.length=true:=gp (by have:=f.hl;have:=f.lp;omega)
 have n3:leN ps.length 9223372036854775807=true:=br (by have:=f.lp;omega)
 refine⟨?_,?_⟩
 ·simp only [yK,pj,pk,aa7,dd,Im,Bool.and_true]
  cases hh:Mw ps t with
  |false=>cases k==0 <;> cases k==1 <;> cases k==2 <;> cases rk==0 <;> cases row==0 <;> cases ck==0 <;> cases role==0 <;> cases ez <;> cases t==0 <;> simp
  |true=>
   simp only [cond_true,Int.toNat_zero,show ((rs[0]?.getD []).length:Int)=rowsR rs from rfl]
   cases k==0 <;> cases k==1 <;> cases k==2 <;> cases rk==0 <;> cases row==0 <;> cases ck==0 <;> cases role==0 <;> cases ez <;> cases t==0 <;> simp
 ·simp [yL,allT,n1,n2,n3]
theorem ajE{n mode day:Int}(k t rk row ck role:Int)(ez:Bool){ps:LI}{fs:L3}{rs:List LI}{lf:L3}{pl ls:L2}(f:RideF n mode day ps fs rs lf pl ls):
  lJ k t rk row ck role ez ps rs=aa7 ps rs k t rk row ck role ez∧lK k t ps rs=true:=
 ao4 k t rk row ck role ez f
def HR(n t:Int)(ps:LI):Bool:=cj n t ps
theorem ads(n t:Int)(ps:LI):ad n t ps=HR n t ps:=rfl
def aeO(n mode:Int)(ps:LI)(fs:L3)(rs:List LI)(lf:L3)(t:Int):Int:=bif !(Int.tmod (ps[t.toNat]?.getD 0) 3==1)then 0 else bif mode !=3 then 1 else bif !aeM n ps (FZ n ps fs 0) (FZ n ps fs 1) t then 2 else bif HR n t ps&& !Yq (rs[t.toNat]?.getD []) lf then 3 else 0
theorem RideF.rd{n mode day:Int}{ps:LI}{fs:L3}{rs:List LI}{lf:L3}{pl ls:L2}(f:RideF n mode day ps fs rs lf pl ls){t:Int}(ht:Mw ps t=true):
  ag3 (rs[t.toNat]?.getD []) lf=true∧areR (rs[t.toNat]?.getD [])=true∧((rs[t.toNat]?.getD []).length:Int)=rowsR rs:=by
 have h:=UH.1 ht
 have dZ:t.toNat < rs.length:=by have:=f.hl;omega
 rw [List.getElem?_eq_getElem dZ,Option.getD_some]
 obtain⟨h1,h2⟩:=f.hA _ (List.getElem_mem dZ)
 refine⟨?_,h1,h2⟩
 rw [ag3,h1,h2,f.hL];rfl
theorem RideF.tn{n mode day:Int}{ps:LI}{fs:L3}{rs:List LI}{lf:L3}{pl ls:L2}(f:RideF n mode day ps fs rs lf pl ls){t:Int}(ht:Mw ps t=true):
  leI 0 t=true∧ltI t (ps.length:Int)=true∧ltN t.toNat ps.length=true∧ltI t (rs.length:Int)=true∧ltN t.toNat rs.length=true:=by
 have h:=UH.1 ht
 have:=f.hl
 exact⟨da h.1,fj (by omega),gp (by omega),fj (by omega),gp (by omega)⟩
theorem RideF.perm{n mode day:Int}{ps:LI}{fs:L3}{rs:List LI}{lf:L3}{pl ls:L2}(f:RideF n mode day ps fs rs lf pl ls){t:Int}(ht:Mw ps t=true):
  ahC n fs=true∧Yp n ps (FZ n ps fs 0) (FZ n ps fs 1) t=true:=by
 have hF:=aqo f.n1 f.hF
 exact⟨hF,by rw [Yp,ZG,f.hT,ht,ams n ps fs 0 f.hT hF,ams n ps fs 1 f.hT hF];rfl⟩
theorem aol{n mode day:Int}{ps:LI}{fs:L3}{rs:List LI}{lf:L3}{pl ls:L2}(f:RideF n mode day ps fs rs lf pl ls){t:Int}(ht:Mw ps t=true):
  Ht n mode t ps fs rs lf=aeO n mode ps fs rs lf t∧QU n mode t ps fs rs lf=true:=by
 obtain⟨t1,t2,t3,t4,t5⟩:=f.tn ht
 obtain⟨p1,p2⟩:=f.perm ht
 have hrd:=(f.rd ht).1
 refine⟨?_,?_⟩
 ·simp only [Ht,sZ,TD,NR,Im,aeO,HR,bne]
  cases cj n t ps <;> rfl
 ·simp only [QU,NR,Im,rt,t1,t2,t3,t4,t5,p1,p2,hrd,f.hT,allT,Bool.or_true,Bool.and_self,cond_true]
theorem anX{n mode day:Int}{ps:LI}{fs:L3}{rs:List LI}{lf:L3}{pl ls:L2}(f:RideF n mode day ps fs rs lf pl ls){t:Int}(ht:Mw ps t=true):
  lq t n mode ps fs rs lf=aeO n mode ps fs rs lf t∧lr t n mode ps fs rs lf=true:=by
 obtain⟨t1,t2,t3,t4,t5⟩:=f.tn ht
 obtain⟨p1,p2⟩:=f.perm ht
 have hrd:=(f.rd ht).1
 have e1:aU t ps=true:=by simp only [aU,t1,t2,t3,allT,cond_true]
 refine⟨?_,?_⟩
 ·simp only [lq,ae,ar,ia,aN,Im,aeO,ads]
  cases HR n t ps <;> rfl
 ·have hm:ZG n ps t=true:=by rw [ZG,f.hT,ht];rfl
  cases hs:HR n t ps <;>
  simp only [lr,ph,ia,aN,ads,hs,Im,e1,t1,t2,t3,t4,t5,p1,p2,hrd,hm,f.hT,allT,Bool.or_true,Bool.and_self,cond_true,cond_false,Bool.not_false,Bool.not_true,Bool.false_and,Bool.true_and,Bool.true_or,Bool.false_or]
def stV(n mode day:Int)(ps:LI)(fs:L3)(rs:List LI)(lf:L3)(pl ls:L2)(k t rk row ck role:Int)(ez:Bool):Int:=bif k==0 then aeO n mode ps fs rs lf t else bif k==1 then(bif !HR n t ps then 4 else bif !kY (rs[t.toNat]?.getD []) rk row then 5 else 0)else bif vdC mode ck role ez !=0 then 6 else bif ck==1&& !ahJ pl ls day then 7 else 0
def stP(n mode:Int)(ps:LI)(fs:L3)(rs:List LI)(lf:L3)(k t:Int):LI:=bif k==0&&aeO n mode ps fs rs lf t==0 then ahL n ps t else ps
def stR(n:Int)(ps:LI)(rs:List LI)(k t rk row:Int):List LI:=bif !(k==0)&&(k==1&&(HR n t ps&&kY (rs[t.toNat]?.getD []) rk row))then rs.set t.toNat (QX (rs[t.toNat]?.getD []) rk row)else rs
def stM(mode day:Int)(pl ls:L2)(k ck role:Int)(ez:Bool):Int:=bif k==0||(k==1||(vdC mode ck role ez !=0||(ck==1&& !ahJ pl ls day)))then mode else nxC mode ck role ez
theorem Ln{ps:LI}{rs:List LI}{k t rk row ck role:Int}{ez:Bool}(h:aa7 ps rs k t rk row ck role ez=true):
  (k=0∧Mw ps t=true)∨(k=1∧Mw ps t=true∧rsB (rowsR rs) rk row=true)∨(k=2∧agy ck role=true):=by
 simp only [aa7]at h
 cases h0:k==0 with
 |true=>rw [h0]at h;simp at h;exact .inl ⟨beq_iff_eq.1 h0,h.1⟩
 |false=>
  cases h1:k==1 with
  |true=>rw [h0,h1]at h;simp at h;exact .inr (.inl ⟨beq_iff_eq.1 h1,h.1.1,h.1.2⟩)
  |false=>
   cases h2:k==2 with
   |true=>rw [h0,h1,h2]at h;simp at h;exact .inr (.inr ⟨beq_iff_eq.1 h2,h.2⟩)
   |false=>rw [h0,h1,h2]at h;cases h
theorem aeP{α:Type}(b:Bool)(x:α):(bif b then x else x)=x:=by cases b <;> rfl
theorem ade{n mode day:Int}{ps:LI}{fs:L3}{rs:List LI}{lf:L3}{pl ls:L2}(f:RideF n mode day ps fs rs lf pl ls){k t rk row ck role:Int}{ez:Bool}(h:aa7 ps rs k t rk row ck role ez=true):
  LV n mode day k t rk row ck role ez ps fs rs lf pl ls=n∧LW n mode day k t rk row ck role ez ps fs rs lf pl ls=stM mode day pl ls k ck role ez∧
  LX n mode day k t rk row ck role ez ps fs rs lf pl ls=day∧HQ n mode day k t rk row ck role ez ps fs rs lf pl ls=stV n mode day ps fs rs lf pl ls k t rk row ck role ez∧
  LY n mode day k t rk row ck role ez ps fs rs lf pl ls=stP n mode ps fs rs lf k t∧LZ n mode day k t rk row ck role ez ps fs rs lf pl ls=fs∧
  Ma n mode day k t rk row ck role ez ps fs rs lf pl ls=stR n ps rs k t rk row∧Mb n mode day k t rk row ck role ez ps fs rs lf pl ls=lf∧
  Mc n mode day k t rk row ck role ez ps fs rs lf pl ls=pl∧Md n mode day k t rk row ck role ez ps fs rs lf pl ls=ls∧
  NS n mode day k t rk row ck role ez ps fs rs lf pl ls=true:=by
 obtain⟨o1,o2⟩:=ako n mode day f.cp
 simp only [lE,gI,jW,lF,LV,LW,LX,HQ,LY,LZ,Ma,Mb,Mc,Md,NS,o1,o2,Im,stM,stV,stP,stR]
 rcases Ln h with⟨rfl,ht⟩ | ⟨rfl,ht,hr⟩ | ⟨rfl,hc⟩
 ·obtain⟨m1,m2⟩:=aol f ht
  have hm:ZG n ps t=true:=by rw [ZG,f.hT,ht];rfl
  simp [m1,m2,hm,allT]
 ·obtain⟨t1,t2,t3,t4,t5⟩:=f.tn ht
  obtain⟨_,r1,r2⟩:=f.rd ht
  have hrn:ag7 (rs[t.toNat]?.getD []) rk row=true:=by rw [ag7,r1,r2,hr];rfl
  have e1:rt t ps=true:=by simp only [rt,t1,t2,t3,allT,cond_true]
  simp only [show ∀ x y,cj x y ps=HR x y ps from fun _ _=>rfl]
  cases HR n t ps <;> cases kY (rs[t.toNat]?.getD []) rk row <;> simp [t1,t2,t3,t4,t5,hrn,e1,allT]
 ·have hv:abH mode ck=true:=by
   have:=f.hM
   simp only [agy,Bool.and_eq_true]at hc
   rw [abH,hc.1,sf.2 (by omega)];rfl
  have l1:pl.length≤9223372036854775807:=by have:=f.lpl;omega
  have l2:ls.length≤9223372036854775807:=by have:=f.lls;omega
  cases vdC mode ck role ez !=0 <;> cases ck==1 <;> cases ahJ pl ls day <;> simp [hv,l1,l2,allT]
theorem ap0(rs:List LI)(i:Nat)(h:i < rs.length):rs.set i (rs[i]?.getD [])=rs:=by
 rw [List.getElem?_eq_getElem h,Option.getD_some];exact List.set_getElem_self h
theorem aau{n mode day:Int}{ps:LI}{fs:L3}{rs:List LI}{lf:L3}{pl ls:L2}(f:RideF n mode day ps fs rs lf pl ls){k t rk row ck role:Int}{ez:Bool}(h:aa7 ps rs k t rk row ck role ez=true):
  de k t rk row ck role ez n mode day ps fs rs lf pl ls=stV n mode day ps fs rs lf pl ls k t rk row ck role ez∧
  df k t rk row ck role ez n mode day ps fs rs lf pl ls=n∧dg k t rk row ck role ez n mode day ps fs rs lf pl ls=stM mode day pl ls k ck role ez∧
  dh k t rk row ck role ez n mode day ps fs rs lf pl ls=day∧di k t rk row ck role ez n mode day ps fs rs lf pl ls=stP n mode ps fs rs lf k t∧
  dj k t rk row ck role ez n mode day ps fs rs lf pl ls=fs∧dk k t rk row ck role ez n mode day ps rs pl ls=stR n ps rs k t rk row∧
  dm k t rk row ck role ez n mode day ps fs rs lf pl ls=lf∧dp k t rk row ck role ez n mode day ps fs rs lf pl ls=pl∧
  dq k t rk row ck role ez n mode day ps fs rs lf pl ls=ls∧eu k t rk row ck role ez n mode day ps fs rs lf pl ls=true:=by
 rcases Ln h with⟨rfl,ht⟩ | ⟨rfl,ht,hr⟩ | ⟨rfl,hc⟩
 ·obtain⟨m1,m2⟩:=anX f ht
  refine⟨?_,?_,?_,?_,?_,?_,?_,?_,?_,?_,?_⟩
  ·simp [de,m1,stV]
  ·simp [df,rI,aeP]
  ·simp [dg,rJ,aeP,stM]
  ·simp [dh,rK,aeP]
  ·simp only [di,rL,ar,ia,aN,ae,Im,ads,stP,aeO]
   cases hs:HR n t ps <;> cases Int.tmod (ps[t.toNat]?.getD 0) 3==1 <;> cases mode !=3 <;> cases aeM n ps (FZ n ps fs 0) (FZ n ps fs 1) t <;> cases hb:Yq (rs[t.toNat]?.getD []) lf <;> simp [hb]
  ·simp [dj,rM,aeP]
  ·simp [dk,stR]
  ·simp [dm,rO,ra,aeP]
  ·simp [dp,rP,aeP]
  ·simp [dq,rQ,aeP]
  ·simp [eu,m2,allT]
 ·obtain⟨t1,t2,t3,t4,t5⟩:=f.tn ht
  obtain⟨_,r1,r2⟩:=f.rd ht
  have hrn:ag7 (rs[t.toNat]?.getD []) rk row=true:=by rw [ag7,r1,r2,hr];rfl
  have e1:aU t ps=true:=by simp only [aU,t1,t2,t3,allT,cond_true]
  have hset:=ap0 rs t.toNat (by have:=Iy.1 t5;omega)
  simp only [de,df,dg,dh,di,dj,dk,dm,dp,dq,eu,au,ni,oc,od,oe,og,oh,oi,oj,ol,om,oo,nh,Im,ads,stM,stV,stP,stR]
  cases HR n t ps <;> cases kY (rs[t.toNat]?.getD []) rk row <;> simp [t1,t2,t3,t4,t5,hrn,e1,hset,allT]
 ·have hv:abH mode ck=true:=by
   have:=f.hM
   simp only [agy,Bool.and_eq_true]at hc
   rw [abH,hc.1,sf.2 (by omega)];rfl
  have l1:pl.length≤9223372036854775807:=by have:=f.lpl;omega
  have l2:ls.length≤9223372036854775807:=by have:=f.lls;omega
  simp only [de,df,dg,dh,di,dj,dk,dm,dp,dq,eu,aI,aK,dx,oX,oY,oZ,pa,pb,pc,pd,pe,pf,pg,oa,stM,stV,stP,stR]
  cases vdC mode ck role ez !=0 <;> cases ck==1 <;> cases ahJ pl ls day <;> simp [hv,l1,l2,allT]
theorem ahf(st:LI)(k row:Int):(QX st k row).length=st.length:=by
 unfold QX;cases k==0||k==1 <;> simp
theorem aoo{st:LI}{k row:Int}(h:areR st=true)(hk:(k=0∨k=1)∨k=2∨k=3):areR (QX st k row)=true:=by
 obtain⟨h1,h2⟩:=Gw.1 h
 refine Gw.2 ⟨by rw [ahf];exact h1,fun v hv=> ?_⟩
 unfold QX at hv
 rcases hk with hk | rfl | rfl
 ·rw [show (k==0||k==1)=true from by rcases hk with rfl | rfl <;> rfl,cond_true]at hv
  rcases List.mem_or_eq_of_mem_set hv with hv | rfl
  ·exact h2 v hv
  ·omega
 ·simp at hv;omega
 ·simp at hv;omega
theorem aq3{rs:List LI}{i:Nat}{v:LI}(h:rsOk rs=true)(hv:areR v=true)(hl:(v.length:Int)=rowsR rs)(hi:i < rs.length):rowsR (rs.set i v)=rowsR rs∧rsOk (rs.set i v)=true:=by
 have h1:rowsR (rs.set i v)=rowsR rs:=by
  unfold rowsR
  rw [List.getElem?_set]
  cases i with
  |zero=>rw [if_pos rfl,if_pos hi,Option.getD_some];exact hl
  |succ i=>simp
 refine⟨h1,?_⟩
 simp only [rsOk,List.all_eq_true,Bool.and_eq_true,beq_iff_eq]at h ⊢
 intro x hx
 rw [h1]
 rcases List.mem_or_eq_of_mem_set hx with hx | rfl
 ·exact h x hx
 ·exact⟨hv,hl⟩
theorem aqI: ∀ a:Fin 10,0≤toC (a.val:Int)∧toC (a.val:Int)≤5:=by decide
theorem aop{n mode day:Int}{ps:LI}{fs:L3}{rs:List LI}{lf:L3}{pl ls:L2}(f:RideF n mode day ps fs rs lf pl ls){k t rk row ck role:Int}{ez:Bool}(h:aa7 ps rs k t rk row ck role ez=true):
  RideF n (stM mode day pl ls k ck role ez) day (stP n mode ps fs rs lf k t) fs (stR n ps rs k t rk row) lf pl ls∧rowsR (stR n ps rs k t rk row)=rowsR rs∧(stP n mode ps fs rs lf k t).length=ps.length:=by
 have hp:isT n (stP n mode ps fs rs lf k t)=true∧(stP n mode ps fs rs lf k t).length=ps.length:=by
  unfold stP
  cases k==0&&aeO n mode ps fs rs lf t==0 with
  |true=>exact⟨aqs f.hT t,aiC n ps t⟩
  |false=>exact⟨f.hT,rfl⟩
 have hr:rsOk (stR n ps rs k t rk row)=true∧rowsR (stR n ps rs k t rk row)=rowsR rs∧(stR n ps rs k t rk row).length=rs.length:=by
  unfold stR
  cases hc: !(k==0)&&(k==1&&(HR n t ps&&kY (rs[t.toNat]?.getD []) rk row))with
  |false=>exact⟨f.hR,rfl,rfl⟩
  |true=>
   simp only [Bool.and_eq_true,beq_iff_eq]at hc
   rcases Ln h with⟨rfl,_⟩ | ⟨rfl,ht,hb⟩ | ⟨rfl,_⟩
   ·simp at hc
   ·obtain⟨_,r1,r2⟩:=f.rd ht
    have hrn:ag7 (rs[t.toNat]?.getD []) rk row=true:=by rw [ag7,r1,r2,hb];rfl
    have hk:=(akj hrn).2.2
    have hi:t.toNat < rs.length:=Iy.1 (f.tn ht).2.2.2.2
    obtain⟨q1,q2⟩:=aq3 (v:=QX (rs[t.toNat]?.getD []) rk row) f.hR (aoo r1 (by rcases hk with hk | hk;exact .inl hk.1;exact .inr hk.1)) (by rw [ahf];exact r2) hi
    exact⟨q2,q1,by simp⟩
   ·have:=hc.2.1;cases this
 have hm:0≤stM mode day pl ls k ck role ez∧stM mode day pl ls k ck role ez≤5:=by
  unfold stM
  cases hc:k==0||(k==1||(vdC mode ck role ez !=0||(ck==1&& !ahJ pl ls day)))with
  |true=>exact f.hM
  |false=>
   rcases Ln h with⟨rfl,_⟩ | ⟨rfl,_,_⟩ | ⟨rfl,hcm⟩
   ·simp at hc
   ·simp at hc
   ·rw [cond_false,nxC]
    cases vdC mode ck role ez==0 with
    |false=>exact f.hM
    |true=>
     simp only [agy,Bool.and_eq_true,sf]at hcm
     have:=aqI ⟨ck.toNat,by omega⟩
     simp only [Int.toNat_of_nonneg hcm.1.1]at this
     exact this
 refine⟨⟨hp.1,f.hF,by rw [hr.2.2,hp.2];exact f.hl,hr.1,by rw [hr.2.1];exact f.hL,hm,f.hP,f.hK,f.hD,f.n1,by rw [hp.2];exact f.lp,f.lfs,f.llf,f.lpl,f.lls,fun x hx=> ?_⟩,hr.2.1,hp.2⟩
 have h4:=hr.1
 simp only [rsOk,List.all_eq_true,Bool.and_eq_true,beq_iff_eq]at h4
 exact h4 x hx
def BL(y2 y3 y4:Int)(y8:List Int)(y9:List (Int×(Int×Int)))(y10:List (List Int))(y11:List (Int×(Int×Int)))(y12 y13:List (Int×Int))(b:Int×(Int×((Int×Int)×(Int×(Int×Bool))))):(Unit)→Nat ⊕ (Unit)
 |_=>(bif(!vq y2 y3 y4 b.1 (b.2.1) (b.2.2.1.1) (b.2.2.1.2) (b.2.2.2.1) (b.2.2.2.2.1) b.2.2.2.2.2 y8 y9 y10 y11 y12 y13)then(.inl 0)else(.inr ()))
def vN(y1:List (Int×(Int×((Int×Int)×(Int×(Int×Bool))))))(y2 y3 y4 y5 y6 y7:Int)(y8:List Int)(y9:List (Int×(Int×Int)))(y10:List (List Int))(y11:List (Int×(Int×Int)))(y12 y13:List (Int×Int))(y14:List Int)(y15:List (Int×(Int×Int)))(y16:List (List Int))(y17:List (Int×(Int×Int)))(y18 y19:List (Int×Int))(i:Nat):(Unit)→nD
 |_=>((i:Int),y1,y2,y3,y4,y5,y6,y7,y8,y9,y10,y11,y12,y13,y14,y15,y16,y17,y18,y19)
def PZ:nD→Unit
 |(_,_,_,_,_,_,_,_,_,_,_,_,_,_,_,_,_,_,_,_)=>()
theorem aih(y1:List (Int×(Int×((Int×Int)×(Int×(Int×Bool))))))(y2 y3 y4 y5 y6 y7:Int)(y8:List Int)(y9:List (Int×(Int×Int)))(y10:List (List Int))(y11:List (Int×(Int×Int)))(y12 y13:List (Int×Int))(y14:List Int)(y15:List (Int×(Int×Int)))(y16:List (List Int))(y17:List (Int×(Int×Int)))(y18 y19:List (Int×Int)) (hn:y1.length≤9223372036854775807) (f:RideF y2 y3 y4 y8 y9 y10 y11 y12 y13):
  eJ.fin ((0:Int),y1,y2,y3,y4,y5,y6,y7,y8,y9,y10,y11,y12,y13,y14,y15,y16,y17,y18,y19)=true∧eJ.res ((0:Int),y1,y2,y3,y4,y5,y6,y7,y8,y9,y10,y11,y12,y13,y14,y15,y16,y17,y18,y19)=((aO (BL y2 y3 y4 y8 y9 y10 y11 y12 y13) 1 y1 0 ()).1,(vN y1 y2 y3 y4 y5 y6 y7 y8 y9 y10 y11 y12 y13 y14 y15 y16 y17 y18 y19) (aO (BL y2 y3 y4 y8 y9 y10 y11 y12 y13) 1 y1 0 ()).2.1 (aO (BL y2 y3 y4 y8 y9 y10 y11 y12 y13) 1 y1 0 ()).2.2):=by
 have ez:=eJ.along (vN y1 y2 y3 y4 y5 y6 y7 y8 y9 y10 y11 y12 y13 y14 y15 y16 y17 y18 y19) PZ (BL y2 y3 y4 y8 y9 y10 y11 y12 y13) 1 (fun _ _=>True) y1 () (by trivial) (by simp only [eJ,vN];omega) (fun i b a hb hI=> ?_) (fun a hI=> ?_)
 ·exact ez
 ·obtain⟨⟩:=a
  have dZ:=(List.getElem?_eq_some_iff.1 hb).1
  have gQ: ∀ d,Option.getD y1[i]? d=b:=fun d=>by rw [hb];rfl
  have hw:=tw dZ hn
  have cR:ltI (i:Int) (y1.length:Int)=true:=fj (by omega)
  have ta:leI (0:Int) (i:Int)=true:=da (by omega)
  have fB:ltN i y1.length=true:=gp dZ
  refine⟨?_,?_,?_,?_⟩
  ·have e:=(ah9 y2 y3 y4 b.1 b.2.1 b.2.2.1.1 b.2.2.1.2 b.2.2.2.1 b.2.2.2.2.1 b.2.2.2.2.2 y8 y9 y10 y11 y12 y13 f.rN).2
   simp [Ag,Ah,Ai,Aj,sj,Ak,Cn,HE,HF,HG,HH,HI,Eu,eJ,LT.nds,allT,vN,cR,ta,fB,gQ,e]
  ·simp [Ag,Ah,Ai,Aj,sj,Ak,Cn,HE,HF,HG,HH,HI,Eu,eJ,LT.each,vN,PZ,hw]
  ·simp only [Ag,Ah,Ai,Aj,sj,Ak,Cn,HE,HF,HG,HH,HI,Eu,eJ,LT.fn,vN,PZ,BL,Int.toNat_natCast,cR,ta,fB,gQ,cond_true,Bool.cond_self]
  ·exact fun _ _=>trivial
 ·obtain⟨⟩:=a
  simp [Ag,Ah,Ai,Aj,sj,Ak,Cn,HE,HF,HG,HH,HI,Eu,eJ,LT.out,vN]
theorem akt{A B S:Type}{f:B→A→Nat ⊕ A}{g:S→B→S}{emb:S→A}{Inv:S→Prop}{e:Nat}: ∀ {r:List B} {i:Nat} {s:S},(∀ b∈r,∀ s,Inv s→f b (emb s)= .inr (emb (g s b))∧Inv (g s b))→Inv s→
  aO f e r i (emb s)=(e,i + r.length,emb (r.foldl g s))∧Inv (r.foldl g s)
 | [],i,s,_,h=>⟨rfl,h⟩
 |b::r,i,s,hf,h=>by
  obtain⟨h1,h2⟩:=hf b (by simp) s h
  obtain⟨g1,g2⟩:=akt (r:=r) (i:=i + 1) (s:=g s b) (e:=e) (fun c hc=>hf c (by simp [hc])) h2
  refine⟨?_,g2⟩
  simp only [aO,h1,g1,List.foldl_cons,List.length_cons]
  rw [Nat.add_right_comm,Nat.add_assoc]
abbrev RS:=Int×LI×List LI×LI×Int
def isX(ps:LI)(rs:List LI)(x:RX):Bool:=aa7 ps rs x.1 x.2.1 x.2.2.1.1 x.2.2.1.2 x.2.2.2.1 x.2.2.2.2.1 x.2.2.2.2.2
def vX(n day:Int)(fs lf:L3)(pl ls:L2)(s:RS)(x:RX):Int:=stV n s.1 day s.2.1 fs s.2.2.1 lf pl ls x.1 x.2.1 x.2.2.1.1 x.2.2.1.2 x.2.2.2.1 x.2.2.2.2.1 x.2.2.2.2.2
def stX(n day:Int)(fs lf:L3)(pl ls:L2)(s:RS)(x:RX):RS:=(stM s.1 day pl ls x.1 x.2.2.2.1 x.2.2.2.2.1 x.2.2.2.2.2,stP n s.1 s.2.1 fs s.2.2.1 lf x.1 x.2.1,stR n s.2.1 s.2.2.1 x.1 x.2.1 x.2.2.1.1 x.2.2.1.2,s.2.2.2.1++ [vX n day fs lf pl ls s x],bif x.1==0&&(vX n day fs lf pl ls s x==0&&HR n x.2.1 s.2.1)then IntKind.i64.wrap (s.2.2.2.2 + 1)else s.2.2.2.2)
theorem apM{ps ps':LI}{rs rs':List LI}(h1:ps'.length=ps.length)(h2:rowsR rs'=rowsR rs)(x:RX):isX ps' rs' x=isX ps rs x:=by
 simp only [isX,aa7,Mw,h1,h2]
def aiL(n day:Int)(fs lf:L3)(pl ls:L2)(ps0:LI)(rs0:List LI)(i:Nat)(s:RS):Prop:=RideF n s.1 day s.2.1 fs s.2.2.1 lf pl ls∧s.2.1.length=ps0.length∧rowsR s.2.2.1=rowsR rs0∧s.2.2.2.1.length≤i
theorem Mq{n day:Int}{fs lf:L3}{pl ls:L2}{ps0:LI}{rs0:List LI}{i:Nat}{s:RS}(hI:aiL n day fs lf pl ls ps0 rs0 i s){x:RX}(hx:isX ps0 rs0 x=true):
  isX s.2.1 s.2.2.1 x=true∧aiL n day fs lf pl ls ps0 rs0 (i + 1) (stX n day fs lf pl ls s x):=by
 obtain⟨f,h1,h2,h3⟩:=hI
 have hx':isX s.2.1 s.2.2.1 x=true:=by rw [apM h1 h2];exact hx
 obtain⟨k1,k2,k3⟩:=aop f hx'
 refine⟨hx',k1,by rw [← h1];exact k3,by rw [← h2];exact k2,?_⟩
 simp only [stX,List.length_append,List.length_cons,List.length_nil];omega
abbrev sd:=Int×List Int×Int×Int
section
variable (y0:Int)(y1:List Int)
def Kx:Bool:=bif ltI y0 (↑y1.length:Int)then ltI y0 (64:Int)else false
def Xe:Bool:=leI (0:Int) y0
def Xf:Bool:=ltI y0 (↑y1.length:Int)
def Xg:Bool:=ltN y0.toNat y1.length
end
def Xh:Bool:=neI (2147483647:Int) (0:Int)
def Xi(y0:Int):Int:=IntKind.wrap .i64 (y0 + (1:Int))
def Xj(y0:Int)(y1:List Int)(y3:Int):Int:=Int.tmod (IntKind.wrap .i64 (IntKind.wrap .i64 (y3 * (59:Int)) + IntKind.wrap .i64 (Option.getD y1[Int.toNat y0]? (0:Int)))) (2147483647:Int)
def aeY:sd→List (Nat×SV)
 |(y0,_,_,_)=> [(4,(.one ⟨false,[.val (.int .i64 y0)]⟩)),(0,(.one ⟨false,[.ref 0]⟩)),(3,(.one ⟨false,[.ptr 1 0]⟩))]
def aeR:sd→List (Nat×Entry)
 |(_,y1,y2,y3)=> [(0,(.row false 5 ajC y1)),(1,(.box 157 [.ref 0,.val (.int .i64 y2),.val (.int .i64 y3)]))]
def afc:Nat→sd→List (Nat×SV)
 |_,(_,_,_,_)=> []
def ae5:Nat→sd→List (Nat×Entry)
 |_,(_,y1,y2,y3)=> [(0,(.row false 5 ajC y1)),(1,(.box 157 [.ref 0,.val (.int .i64 y2),.val (.int .i64 y3)]))]
def CV:sd→LT sd
 |(y0,y1,y2,y3)=> .ite (Kx y0 y1) (.need [Xe y0,Xf y0 y1,Xg y0 y1,Xh] (.nrm ((Xi y0),y1,y2,(Xj y0 y1 y3)) [(0,0),(1,1)])) (.ext 0 [(0,0),(1,1)])
def Og(s:St):Option sd:=
 (match s.look 4 with
 |some ⟨none,.one ⟨false,[.val (.int .i64 y0)]⟩⟩=>
 (match s.look 0 with
 |some ⟨none,.one ⟨false,[.ref 0]⟩⟩=>
 (match s.look 3 with
 |some ⟨none,.one ⟨false,[.ptr 320 0]⟩⟩=>
 (match s.ent 0 with
 |some (.row false 5 (.int IntKind.u8) y1)=>
 (match s.ent 320 with
 |some (.box 157 [.ref 0,.val (.int .i64 y2),.val (.int .i64 y3)])=>
 some (y0,y1,y2,y3)
 |_=>none)
 |_=>none)
 |_=>none)
 |_=>none)
 |_=>none)
def mM:Lp sd where
 h:=⟨[8,9,10,11,12,13,14,15,18,19,20,21,22,23,24,25,26,27,28,29,30,31,32,16,17,4],[0,1],[],[]⟩
 JL:=aeY
 JE:=aeR
 XL:=afc
 XE:=ae5
 q:=fun j=>match j with | _=> .exit 0
 tags:= [0]
 lt:=CV
 fuel:=fun(y0,y1,y2,y3)=>y0.natAbs + y1.length + y2.natAbs + y3.natAbs
 fix:=fun(_,y1,y2,_) (y0,_,_,y3)=>(y0,y1,y2,y3)
 σ:= [(0,0),(1,320)]
 rd:=Og
theorem acP:LoopOk prog (fun k=>Nat.blt k Tryz.f50.ntmps) mM.F (aL f50 0):=by
 refine Lp.ok (tbl:= []) (lf:= []) aM mM (by kernel_rfl) (LOk.nil _) (fun _=>rfl) (fun _ _=>rfl) ?_ ?_ ?_ ?_ (fun _=>rfl) ?_
 ·rintro⟨y0,y1,y2,y3⟩;kernel_rfl
 ·rintro⟨y0,y1,y2,y3⟩;kernel_rfl
 ·intro s x h
  have h:Og s=some x:=h
  unfold Og at h
  repeat' split at h
  all_goals cases h
  exact⟨aa (by assumption) rfl (aa (by assumption) rfl (aa (by assumption) rfl (rfl))),ab rfl (by assumption) rfl (ab rfl (by assumption) rfl (rfl))⟩
 ·rintro⟨y0,y1,y2,y3⟩;kernel_rfl
 ·rintro⟨y0,y1,y2,y3⟩ z;exact(And.intro rfl trivial)
section
variable (x0:List Int)
def Ju:Int×List Int×Int×Int:=((0:Int),x0,(0:Int),(52021:Int))
def Lz:Int:=(Lp.res mM (Ju x0)).2.2.2.2
def Qu:Bool:=allT [Lp.fin mM (Ju x0)]
end
def abK:List SV→List Entry→Option Out
 | [.one ⟨false,[.ref 0]⟩],[.row false 5 (.int .u8) x0]=>some ⟨.one ⟨false,[.ptr 1 0]⟩,[.row false 5 ajC x0],[.box 157 [.ref 0,.val (.int .i64 (0:Int)),.val (.int .i64 (Lz x0))]],[Qu x0]⟩
 |_,_=>none
def aj3:PF prog:=PF.ofG prog [] [mM.F] aM 50 f50 func50 (LOk.fnT (l:= [aL f50 0]) (by kernel_rfl) (.cons acP (.nil _))) abK (by
 intro vs es r h;unfold abK at h;split at h
 ·cases h;kernel_rfl
 ·cases h)
section
variable (x0 x1 x2:Int)(x3:List Int)
def Ec:Int:=IntKind.wrap .i64 (x1 + (1:Int))
def Jv:Bool:=bif leI x0 (256:Int)then Int.tmod (Ec x1) (2:Int)==(0:Int)else false
def Ed:Int:=IntKind.wrap .i64 (Ec x1 - (1:Int))
def wi:Int:=Int.tmod (IntKind.wrap .i64 (IntKind.wrap .i64 (x2 * (48271:Int)) + (29:Int))) (2147483647:Int)
def jq:Int:=bif leI x0 (1:Int)then(0:Int)else Int.tmod (bif ltI x1 (↑x3.length:Int)then bif Jv x0 x1 then IntKind.wrap .i64 (Option.getD x3[Int.toNat (Ed x1)]? (0:Int))else IntKind.wrap .i64 (IntKind.wrap .i64 (Int.tdiv (wi x2) (31:Int)) + IntKind.wrap .i64 (Option.getD x3[Int.toNat x1]? (0:Int)))else IntKind.wrap .i64 (Int.tdiv (wi x2) (31:Int))) x0
def Dh:Int:=bif leI x0 (1:Int)then x1 else bif ltI x1 (↑x3.length:Int)then Ec x1 else x1
def Di:Int:=bif leI x0 (1:Int)then x2 else bif ltI x1 (↑x3.length:Int)then wi x2 else wi x2
def Dj:Bool:=allT [leI x0 (1:Int)||neI (2147483647:Int) (0:Int),leI x0 (1:Int)||neI (31:Int) (0:Int),leI x0 (1:Int)||(!ltI x1 (↑x3.length:Int)||leI (0:Int) x1),leI x0 (1:Int)||(!ltI x1 (↑x3.length:Int)||ltI x1 (↑x3.length:Int)),leI x0 (1:Int)||(!ltI x1 (↑x3.length:Int)||ltN x1.toNat x3.length),leI x0 (1:Int)||(!ltI x1 (↑x3.length:Int)||(!(leI x0 (256:Int)&&true)||neI (2:Int) (0:Int))),leI x0 (1:Int)||(!ltI x1 (↑x3.length:Int)||(!Jv x0 x1||leI (0:Int) (Ed x1))),leI x0 (1:Int)||(!ltI x1 (↑x3.length:Int)||(!Jv x0 x1||ltI (Ed x1) (↑x3.length:Int))),leI x0 (1:Int)||(!ltI x1 (↑x3.length:Int)||(!Jv x0 x1||ltN (Int.toNat (Ed x1)) x3.length)),leI x0 (1:Int)||neI x0 (0:Int)]
end
def abL:List SV→List Entry→Option Out
 | [.one ⟨false,[.ptr 0 0]⟩,.one ⟨false,[.val (.int .i64 x0)]⟩],[.box 157 [.ref 1,.val (.int .i64 x1),.val (.int .i64 x2)],.row false 5 (.int .u8) x3]=>some ⟨.one ⟨false,[.val (.int .i64 (jq x0 x1 x2 x3))]⟩,[.box 157 [.ref 1,.val (.int .i64 (Dh x0 x1 x3)),.val (.int .i64 (Di x0 x1 x2 x3))],.row false 5 ajC x3],[],[Dj x0 x1 x3]⟩
 |_,_=>none
def PR:PF prog:=PF.ofG prog [] [] aM 52 f52 func52 (fun c _=>LOk.nil c) abL (by
 intro vs es r h;unfold abL at h;split at h
 ·cases h;kernel_rfl
 ·cases h)
section
variable (x0 x1:Int)(x2 x3:List Int)
def Qv:Int:=Option.getD x2[Int.toNat (jq (↑x2.length:Int) x0 x1 x3)]? (0:Int)
def VM:Int:=Dh (↑x2.length:Int) x0 x3
def VN:Int:=Di (↑x2.length:Int) x0 x1 x3
def Qw:Bool:=allT [Dj (↑x2.length:Int) x0 x3,leI (0:Int) (jq (↑x2.length:Int) x0 x1 x3),ltI (jq (↑x2.length:Int) x0 x1 x3) (↑x2.length:Int),ltN (Int.toNat (jq (↑x2.length:Int) x0 x1 x3)) x2.length]
end
def abM:List SV→List Entry→Option Out
 | [.one ⟨false,[.ptr 0 0]⟩,.one ⟨false,[.ref 1]⟩],[.box 157 [.ref 2,.val (.int .i64 x0),.val (.int .i64 x1)],.row false 2 (.int .i64) x2,.row false 5 (.int .u8) x3]=>some ⟨.one ⟨false,[.val (.int .i64 (Qv x0 x1 x2 x3))]⟩,[.box 157 [.ref 2,.val (.int .i64 (VM x0 x2 x3)),.val (.int .i64 (VN x0 x1 x2 x3))],.row false 2 aiQ x2,.row false 5 ajC x3],[],[Qw x0 x1 x2 x3]⟩
 |_,_=>none
def aj4:PF prog:=PF.ofG prog [PR,PF.lend PR,PF.fz PR] [] aM 67 f67 func67 (fun c _=>LOk.nil c) abM (by
 intro vs es r h;unfold abM at h;split at h
 ·cases h;kernel_rfl
 ·cases h)
def aq(a s:Int)(c:List Int):Bool:=(leI 0 a&&leI a 4096)&&((leI 0 s&&ltI s 2147483647)&&(leN c.length 4096&&c.all fun x=>inR x 0 255))
theorem adz{a s:Int}{c:List Int}:aq a s c=true↔(0≤a∧a≤4096)∧(0≤s∧s < 2147483647)∧c.length≤4096∧ ∀ x∈c,0≤x∧x≤255:=by
 simp only [aq,Bool.and_eq_true,ax,ay,fH,List.all_eq_true,sf]
theorem ZW{x n:Int}(h:0≤x)(hn:0 < n):0≤Int.tmod x n∧Int.tmod x n < n:=by
 rw [Int.tmod_eq_emod_of_nonneg h]
 exact⟨Int.emod_nonneg _ (by omega),Int.emod_lt_of_pos _ hn⟩
theorem apt{code:List Int}(hb: ∀ x∈code,0≤x∧x≤255)(i:Nat):0≤(code[i]?.getD 0)∧(code[i]?.getD 0)≤255:=by
 cases h:code[i]? with
 |none=>simp
 |some x=>exact hb x (List.mem_of_getElem? h)
def nxV(n a s:Int)(c:List Int):Int:=jq n a s c
def nxA(n a:Int)(c:List Int):Int:=Dh n a c
def nxS(n a s:Int)(c:List Int):Int:=Di n a s c
theorem agU(n:Int){a s:Int}{code:List Int}(h:aq a s code=true):
  Dj n a code=true∧aq (nxA n a code) (nxS n a s code) code=true∧0≤nxV n a s code∧(1≤n→nxV n a s code < n):=by
 obtain⟨⟨h0,h1⟩,⟨s0,s1⟩,hn,hb⟩:=adz.1 h
 have hw1:IntKind.i64.wrap (s * 48271)=s * 48271:=ag (by omega) (by omega)
 have hw2:IntKind.i64.wrap (s * 48271 + 29)=s * 48271 + 29:=ag (by omega) (by omega)
 have hw3:IntKind.i64.wrap (a + 1)=a + 1:=ag (by omega) (by omega)
 have hw4:IntKind.i64.wrap (a + 1 - 1)=a:=by rw [ag (by omega) (by omega)];omega
 obtain⟨t0,t1⟩:=ZW (x:=s * 48271 + 29) (n:=2147483647) (by omega) (by omega)
 have hd0:0≤Int.tdiv (Int.tmod (s * 48271 + 29) 2147483647) 31:=Int.tdiv_nonneg t0 (by omega)
 have hd1:Int.tdiv (Int.tmod (s * 48271 + 29) 2147483647) 31≤2147483647:=by
  rw [Int.tdiv_eq_ediv_of_nonneg t0];omega
 have hw7:IntKind.i64.wrap (Int.tdiv (Int.tmod (s * 48271 + 29) 2147483647) 31)=Int.tdiv (Int.tmod (s * 48271 + 29) 2147483647) 31:=ag (by omega) (by omega)
 have q1:neI 2147483647 0=true:=by decide
 have q2:neI 31 0=true:=by decide
 have q3:neI 2 0=true:=by decide
 simp only [nxA,nxS,nxV]
 by_cases hq:n≤1
 ·have d:leI n 1=true:=da hq
  refine⟨by simp [Dj,allT,d],?_,by simp [jq,d],fun h=>by simp [jq,d];omega⟩
  simp only [Dh,Di,d,cond_true]
  exact h
 ·have d:leI n 1=false:=arf (by omega)
  have q4:neI n 0=true:=aiE (by omega)
  by_cases hl:a < (code.length:Int)
  ·have dl:ltI a (code.length:Int)=true:=fj hl
   obtain⟨c0,c1⟩:=apt hb a.toNat
   have hw5:IntKind.i64.wrap (code[a.toNat]?.getD 0)=code[a.toNat]?.getD 0:=ag (by omega) (by omega)
   have hw6:IntKind.i64.wrap (Int.tdiv (Int.tmod (s * 48271 + 29) 2147483647) 31 + code[a.toNat]?.getD 0)=Int.tdiv (Int.tmod (s * 48271 + 29) 2147483647) 31 + code[a.toNat]?.getD 0:=ag (by omega) (by omega)
   have dn:ltN a.toNat code.length=true:=gp (by omega)
   have dz:leI 0 a=true:=da h0
   have hwa:IntKind.i64.wrap a=a:=ag (by omega) (by omega)
   refine⟨?_,?_,?_⟩
   ·simp [Dj,Ec,Ed,allT,d,dl,dn,hw3,hw4,hwa,dz,q1,q2,q3,q4]
   ·simp only [Dh,Di,Ec,wi,d,dl,cond_true,cond_false,hw1,hw2,hw3]
    exact adz.2 ⟨⟨by omega,by omega⟩,⟨t0,t1⟩,hn,hb⟩
   ·simp only [jq,Jv,Ed,Ec,wi,d,dl,cond_true,cond_false,hw1,hw2,hw3,hw4,hw5,hw7,hw6]
    cases (bif leI n 256 then Int.tmod (a + 1) 2==0 else false)with
    |true=>
     obtain⟨m0,m1⟩:=ZW (x:=code[a.toNat]?.getD 0) (n:=n) c0 (by omega)
     exact⟨m0,fun _=>m1⟩
    |false=>
     obtain⟨m0,m1⟩:=ZW (x:=Int.tdiv (Int.tmod (s * 48271 + 29) 2147483647) 31 + code[a.toNat]?.getD 0) (n:=n) (by omega) (by omega)
     exact⟨m0,fun _=>m1⟩
  ·have dl:ltI a (code.length:Int)=false:=aiu (by omega)
   refine⟨?_,?_,?_⟩
   ·simp [Dj,allT,d,dl,q1,q2,q4]
   ·simp only [Dh,Di,wi,d,dl,cond_false,hw1,hw2]
    exact adz.2 ⟨⟨h0,h1⟩,⟨t0,t1⟩,hn,hb⟩
   ·simp only [jq,wi,d,dl,cond_false,hw1,hw2,hw7]
    obtain⟨m0,m1⟩:=ZW (x:=Int.tdiv (Int.tmod (s * 48271 + 29) 2147483647) 31) (n:=n) hd0 (by omega)
    exact⟨m0,fun _=>m1⟩
theorem aiX(x0 x1 x2:Int)(x3:List Int)(h:aq x1 x2 x3=true):jq x0 x1 x2 x3=nxV x0 x1 x2 x3∧Dh x0 x1 x3=nxA x0 x1 x3∧Di x0 x1 x2 x3=nxS x0 x1 x2 x3∧Dj x0 x1 x3=true:=⟨rfl,rfl,rfl,(agU x0 h).1⟩
def acf:List SV→List Entry→Option Out
 | [.one ⟨false,[.ptr 0 0]⟩,.one ⟨false,[.val (.int .i64 x0)]⟩],[.box 157 [.ref 1,.val (.int .i64 x1),.val (.int .i64 x2)],.row false 5 (.int .u8) x3]=>some ⟨.one ⟨false,[.val (.int .i64 (nxV x0 x1 x2 x3))]⟩,[.box 157 [.ref 1,.val (.int .i64 (nxA x0 x1 x3)),.val (.int .i64 (nxS x0 x1 x2 x3))],.row false 5 ajC x3],[],[aq x1 x2 x3]⟩
 |_,_=>none
def af:PF prog:=PF.alt PR acf (by
 intro args es o h bK;unfold acf at h;split at h
 ·rename_i x0 x1 x2 x3
  cases h
  have bK:=iu bK
  have hh:=aiX x0 x1 x2 x3 bK
  obtain⟨e0,e1,e2,en⟩:=hh
  exact kU rfl (gZ en) (by simp only [e0] <;> rfl) (by simp only [e1,e2] <;> rfl) rfl
 ·cases h)
def pkV(a s:Int)(l c:List Int):Int:=Qv a s l c
def pkA(a:Int)(l c:List Int):Int:=VM a l c
def pkS(a s:Int)(l c:List Int):Int:=VN a s l c
theorem aoQ{a s:Int}{l code:List Int}(h:(aq a s code&&leN 1 l.length)=true):
  Qw a s l code=true∧aq (pkA a l code) (pkS a s l code) code=true∧pkV a s l code∈l:=by
 simp only [Bool.and_eq_true,fH]at h
 obtain⟨n3,n1,n0,nl⟩:=agU (l.length:Int) h.1
 have nl:=nl (by omega)
 simp only [nxV]at n0 nl
 refine⟨?_,n1,?_⟩
 ·have t1:leI 0 (jq (l.length:Int) a s code)=true:=da n0
  have t2:ltI (jq (l.length:Int) a s code) (l.length:Int)=true:=fj nl
  have t3:ltN (jq (l.length:Int) a s code).toNat l.length=true:=gp (by omega)
  simp only [Qw,allT,n3,t1,t2,t3,cond_true]
 ·have dZ:(jq (l.length:Int) a s code).toNat < l.length:=by omega
  simp only [pkV,Qv,List.getElem?_eq_getElem dZ,Option.getD_some]
  exact List.getElem_mem dZ
theorem aiY(x0 x1:Int)(x2 x3:List Int)(h:(aq x0 x1 x3&&leN 1 x2.length)=true):Qv x0 x1 x2 x3=pkV x0 x1 x2 x3∧VM x0 x2 x3=pkA x0 x2 x3∧VN x0 x1 x2 x3=pkS x0 x1 x2 x3∧Qw x0 x1 x2 x3=true:=⟨rfl,rfl,rfl,(aoQ h).1⟩
def acg:List SV→List Entry→Option Out
 | [.one ⟨false,[.ptr 0 0]⟩,.one ⟨false,[.ref 1]⟩],[.box 157 [.ref 2,.val (.int .i64 x0),.val (.int .i64 x1)],.row false 2 (.int .i64) x2,.row false 5 (.int .u8) x3]=>some ⟨.one ⟨false,[.val (.int .i64 (pkV x0 x1 x2 x3))]⟩,[.box 157 [.ref 2,.val (.int .i64 (pkA x0 x2 x3)),.val (.int .i64 (pkS x0 x1 x2 x3))],.row false 2 aiQ x2,.row false 5 ajC x3],[],[aq x0 x1 x3&&leN 1 x2.length]⟩
 |_,_=>none
def ai:PF prog:=PF.alt aj4 acg (by
 intro args es o h bK;unfold acg at h;split at h
 ·rename_i x0 x1 x2 x3
  cases h
  have bK:=iu bK
  have hh:=aiY x0 x1 x2 x3 bK
  obtain⟨e0,e1,e2,en⟩:=hh
  exact kU rfl (gZ en) (by simp only [e0] <;> rfl) (by simp only [e1,e2] <;> rfl) rfl
 ·cases h)
def aoZ(b:Int)(a:Nat×Int):Nat ⊕ (Nat×Int):=bif decide (a.1 < 64)then .inr (a.1 + 1,Int.tmod (a.2 * 59 + b) 2147483647)else .inl 0
def frS(c:List Int):Int:=Lz c
theorem aoF(code:List Int)(h:aq 0 0 code=true):Qu code=true∧aq 0 (frS code) code=true:=by
 obtain⟨_,_,hn,hb⟩:=adz.1 h
 have ez:=ah6 (lt:=CV) (fun i (a:Nat×Int)=>((i:Int),code,(0:Int),a.2)) aoZ 0 (fun i a=>a.1=i∧0≤a.2∧a.2 < 2147483647) code (fun i b a he hI=>⟨?_,fun a' hf=> ?_⟩) (fun a hI=> ?_) code 0 (0,52021) rfl (by simp) (by decide)
 ·have hres:=mM.run ez (an1 (by simp only [mM];omega))
  have r1:mM.fin ((0:Int),code,(0:Int),(52021:Int))=true:=hres.1
  have r2:mM.res ((0:Int),code,(0:Int),(52021:Int))=_:=hres.2
  have inv: ∀ (r:List Int) (i:Nat) (a:Nat×Int),(∀ x∈r,0≤x∧x≤255)→0≤a.2∧a.2 < 2147483647→0≤(aO aoZ 0 r i a).2.2.2∧(aO aoZ 0 r i a).2.2.2 < 2147483647:=by
   intro r
   induction r with
   |nil=>intro i a _ h;exact h
   |cons b r ih=>
    intro i a hx h
    simp only [aO,aoZ]
    cases decide (a.1 < 64)with
    |false=>exact h
    |true=>
     have hb:=hx b (by simp)
     exact ih _ _ (fun x hm=>hx x (by simp [hm])) (ZW (by omega) (by omega))
  obtain⟨q0,q1⟩:=inv code 0 (0,52021) hb (by decide)
  refine⟨by simp [Qu,Ju,allT,r1],adz.2 ⟨by decide,⟨?_,?_⟩,hn,hb⟩⟩
  ·simp only [frS,Lz,Ju,r2];exact q0
  ·simp only [frS,Lz,Ju,r2];exact q1
 ·obtain⟨dZ,he⟩:=List.getElem?_eq_some_iff.1 he
  subst he
  obtain⟨h1,h2,h3⟩:=hI
  have hw:=tw dZ (by omega)
  obtain⟨c0,c1⟩:=hb code[i] (List.getElem_mem dZ)
  have hw1:IntKind.i64.wrap (a.2 * 59)=a.2 * 59:=ag (by omega) (by omega)
  have hw2:IntKind.i64.wrap code[i]=code[i]:=ag (by omega) (by omega)
  have hw3:IntKind.i64.wrap (a.2 * 59 + code[i])=a.2 * 59 + code[i]:=ag (by omega) (by omega)
  have q1:neI 2147483647 0=true:=by decide
  have q2:ltI (i:Int) (code.length:Int)=true:=fj (by omega)
  have q3:leI 0 (i:Int)=true:=da (by omega)
  have q4:ltN i code.length=true:=gp dZ
  simp only [aoZ,h1]
  by_cases h64:i < 64
  ·have d:decide (i < 64)=true:=decide_eq_true h64
   have d':ltI (i:Int) 64=true:=fj (by omega)
   simp [CV,LT.out,allT,Kx,Xe,Xf,Xg,Xh,Xi,Xj,dZ,hw,d,d',hw1,hw2,hw3,q1,q2,q3,q4]
  ·have d:decide (i < 64)=false:=decide_eq_false h64
   have d':ltI (i:Int) 64=false:=aiu (by omega)
   simp [CV,LT.out,Kx,d,d']
 ·simp only [aoZ]at hf
  obtain⟨h1,h2,h3⟩:=hI
  obtain⟨c0,c1⟩:=hb b (List.mem_of_getElem? he)
  cases hd:decide (a.1 < 64)with
  |false=>rw [hd]at hf;cases hf
  |true=>
   rw [hd]at hf
   simp only [cond_true,Sum.inr.injEq]at hf
   subst hf
   obtain⟨m0,m1⟩:=ZW (x:=a.2 * 59 + b) (n:=2147483647) (by omega) (by omega)
   exact⟨by simp [h1],m0,m1⟩
 ·simp [CV,LT.out,Kx]
theorem aiW(x0:List Int)(h:aq 0 0 x0=true):Lz x0=frS x0∧Qu x0=true:=⟨rfl,(aoF x0 h).1⟩
def ace:List SV→List Entry→Option Out
 | [.one ⟨false,[.ref 0]⟩],[.row false 5 (.int .u8) x0]=>some ⟨.one ⟨false,[.ptr 1 0]⟩,[.row false 5 ajC x0],[.box 157 [.ref 0,.val (.int .i64 (0:Int)),.val (.int .i64 (frS x0))]],[aq 0 0 x0]⟩
 |_,_=>none
def GH:PF prog:=PF.alt aj3 ace (by
 intro args es o h bK;unfold ace at h;split at h
 ·rename_i x0
  cases h
  have bK:=iu bK
  have hh:=aiW x0 bK
  obtain⟨e0,en⟩:=hh
  exact kU rfl (gZ en) rfl rfl (by simp only [e0] <;> rfl)
 ·cases h)
abbrev se:=Int×Int×Int×Int×Int×List Int×List Int
section
variable (y0 y1 y2 y3 y4:Int)(y5 y6:List Int)
def VR:Int:=pkV y3 y4 [(0:Int),(1:Int),(1:Int),(2:Int)] y6
def Dq:List Int:= [IntKind.wrap .i64 (IntKind.wrap .i64 ((3:Int) * Int.tmod y1 y2) + VR y3 y4 y6)]
def Dr:Int:=pkA y3 [(0:Int),(1:Int),(1:Int),(2:Int)] y6
def IR:Int:=pkS y3 y4 [(0:Int),(1:Int),(1:Int),(2:Int)] y6
def Qy:Bool:=ltI (0:Int) y0
def Xk:Bool:=aq y3 y4 y6&&leN (1:Nat) (List.length [(0:Int),(1:Int),(1:Int),(2:Int)])
def Xl:Bool:=neI y2 (0:Int)
def Xm:Bool:=leN (List.length y5 + List.length (Dq y1 y2 y3 y4 y6)) (9223372036854775807:Nat)
def Xn:Bool:=leN ((List.length y5 + List.length (Dq y1 y2 y3 y4 y6)) * (8:Nat)) (140737488355328:Nat)
end
def Qz:Bool:=neI (2:Int) (0:Int)
section
variable (y0 y1 y2 y3 y4:Int)(y5 y6:List Int)
def Xo:Bool:=aq (Dr y3 y6) (IR y3 y4 y6) y6
def Xp:Int:=IntKind.wrap .i64 (y0 - (1:Int))
def ahe:Int:=IntKind.wrap .i64 (IntKind.wrap .i64 (IntKind.wrap .i64 (y1 + (1:Int)) + IntKind.wrap .i64 (Int.tdiv (VR y3 y4 y6) (2:Int))) + IntKind.wrap .i64 (Int.tdiv (nxV (3:Int) (Dr y3 y6) (IR y3 y4 y6) y6) (2:Int)))
def Xq:Int:=nxA (3:Int) (Dr y3 y6) y6
def VP:Int:=nxS (3:Int) (Dr y3 y6) (IR y3 y4 y6) y6
def VQ:List Int:=y5++Dq y1 y2 y3 y4 y6
end
def aeZ:se→List (Nat×SV)
 |(y0,y1,y2,_,_,_,_)=> [(6,(.one ⟨false,[.val (.int .i64 y0)]⟩)),(0,(.one ⟨false,[.ptr 0 0]⟩)),(4,(.one ⟨false,[.ref 1]⟩)),(5,(.one ⟨false,[.val (.int .i64 y1)]⟩)),(3,(.one ⟨false,[.val (.int .i64 y2)]⟩))]
def aeS:se→List (Nat×Entry)
 |(_,_,_,y3,y4,y5,y6)=> [(0,(.box 157 [.ref 2,.val (.int .i64 y3),.val (.int .i64 y4)])),(2,(.row false 5 ajC y6)),(1,(.row true 2 aiQ y5))]
def afd:Nat→se→List (Nat×SV)
 |_,(_,_,_,_,_,_,_)=> [(4,(.one ⟨false,[.ref 1]⟩))]
def ae6:Nat→se→List (Nat×Entry)
 |_,(_,_,_,y3,y4,y5,y6)=> [(0,(.box 157 [.ref 2,.val (.int .i64 y3),.val (.int .i64 y4)])),(1,(.row true 2 aiQ y5)),(2,(.row false 5 ajC y6))]
def NY:se→LT se
 |(y0,y1,y2,y3,y4,y5,y6)=> .ite (Qy y0) (.need [Xk y3 y4 y6] (.need [Xl y2,Xm y1 y2 y3 y4 y5 y6,Xn y1 y2 y3 y4 y5 y6] (.need [Qz,Xo y3 y4 y6,Qz] (.nrm ((Xp y0),ahe y1 y3 y4 y6,y2,Xq y3 y6,VP y3 y4 y6,VQ y1 y2 y3 y4 y5 y6,y6) [(0,0),(1,960),(2,2)])))) (.ext 0 [(0,0),(1,1),(2,2)])
def Oh(s:St):Option se:=
 (match s.look 6 with
 |some ⟨none,.one ⟨false,[.val (.int .i64 y0)]⟩⟩=>
 (match s.look 0 with
 |some ⟨none,.one ⟨false,[.ptr 0 0]⟩⟩=>
 (match s.look 4 with
 |some ⟨none,.one ⟨false,[.ref 512]⟩⟩=>
 (match s.look 5 with
 |some ⟨none,.one ⟨false,[.val (.int .i64 y1)]⟩⟩=>
 (match s.look 3 with
 |some ⟨none,.one ⟨false,[.val (.int .i64 y2)]⟩⟩=>
 (match s.ent 0 with
 |some (.box 157 [.ref 1,.val (.int .i64 y3),.val (.int .i64 y4)])=>
 (match s.ent 1 with
 |some (.row false 5 (.int IntKind.u8) y6)=>
 (match s.ent 512 with
 |some (.row true 2 (.int .i64) y5)=>
 some (y0,y1,y2,y3,y4,y5,y6)
 |_=>none)
 |_=>none)
 |_=>none)
 |_=>none)
 |_=>none)
 |_=>none)
 |_=>none)
 |_=>none)
def ir:Lp se where
 h:=⟨[20,21,24,25,26,7,27,28,29,30,31,32,33,34,35,4,36,37,38,39,40,41,42,43,44,5,22,23,6],[0,2],[1],[]⟩
 JL:=aeZ
 JE:=aeS
 XL:=afd
 XE:=ae6
 q:=fun j=>match j with | _=> .exit 0
 tags:= [0]
 lt:=NY
 fuel:=fun(y0,y1,y2,y3,y4,y5,y6)=>y0.natAbs + y1.natAbs + y2.natAbs + y3.natAbs + y4.natAbs + y5.length + y6.length
 fix:=fun(_,_,y2,_,_,_,y6) (y0,y1,_,y3,y4,y5,_)=>(y0,y1,y2,y3,y4,y5,y6)
 σ:= [(0,0),(2,1),(1,512)]
 rd:=Oh
theorem acQ:LoopOk prog (fun k=>Nat.blt k Tryz.f137.ntmps) ir.F (aL f137 0):=by
 refine Lp.ok (tbl:= [af,PF.lend af,PF.fz af,ai,PF.lend ai,PF.fz ai]) (lf:= []) aM ir (by kernel_rfl) (LOk.nil _) (fun _=>rfl) (fun _ _=>rfl) ?_ ?_ ?_ ?_ (fun _=>rfl) ?_
 ·rintro⟨y0,y1,y2,y3,y4,y5,y6⟩;kernel_rfl
 ·rintro⟨y0,y1,y2,y3,y4,y5,y6⟩;kernel_rfl
 ·intro s x h
  have h:Oh s=some x:=h
  unfold Oh at h
  repeat' split at h
  all_goals cases h
  exact⟨aa (by assumption) rfl (aa (by assumption) rfl (aa (by assumption) rfl (aa (by assumption) rfl (aa (by assumption) rfl (rfl))))),ab rfl (by assumption) rfl (ab rfl (by assumption) rfl (ab rfl (by assumption) rfl (rfl)))⟩
 ·rintro⟨y0,y1,y2,y3,y4,y5,y6⟩;kernel_rfl
 ·rintro⟨y0,y1,y2,y3,y4,y5,y6⟩ z;exact(And.intro rfl trivial)
section
variable (x0 x1:Int)(x2:List Int)
def ce:Int:=IntKind.wrap .i64 ((2:Int) + nxV (5:Int) x0 x1 x2)
def jo:Int:=ajD (ce x0 x1 x2) (4:Int) (ce x0 x1 x2) (4:Int)
def lD:Int:=nxA (ce x0 x1 x2) (nxA (5:Int) x0 x2) x2
def qS:Int:=nxS (ce x0 x1 x2) (nxA (5:Int) x0 x2) (nxS (5:Int) x0 x1 x2) x2
def Ee:Int×Int×Int×Int×Int×List Int×List Int:=(IntKind.wrap .i64 ((1:Int) + nxV (jo x0 x1 x2) (lD x0 x1 x2) (qS x0 x1 x2) x2),nxV (ce x0 x1 x2) (nxA (5:Int) x0 x2) (nxS (5:Int) x0 x1 x2) x2,ce x0 x1 x2,nxA (jo x0 x1 x2) (lD x0 x1 x2) x2,nxS (jo x0 x1 x2) (lD x0 x1 x2) (qS x0 x1 x2) x2,[],x2)
def Jw:Int×Int×List Int×List Int:=(Lp.res ir (Ee x0 x1 x2)).2.2.2.2
def cf:Int:=(Jw x0 x1 x2).1
def wj:Int×List Int×List Int:=(Jw x0 x1 x2).2
def NI:Int:=nxV (40:Int) (cf x0 x1 x2) ((wj x0 x1 x2).1) x2
def gG:Bool:=NI x0 x1 x2==(0:Int)
def jg:Int:=nxS (40:Int) (cf x0 x1 x2) ((wj x0 x1 x2).1) x2
def gn:Bool:=NI x0 x1 x2==(1:Int)
def lZ:Bool:=NI x0 x1 x2==(2:Int)
def Ca:Bool:=NI x0 x1 x2==(3:Int)
def ZT:Int:=IntKind.wrap .i64 ((3:Int) * ce x0 x1 x2)
def Cb:List Int:= [(-1:Int),IntKind.wrap .i64 (ZT x0 x1 x2 - (1:Int)),ZT x0 x1 x2]
def ma:List Int:=((wj x0 x1 x2).2).1
def jU:Int:=IntKind.wrap .i64 ((4:Int) + nxV (2:Int) (nxA (40:Int) (cf x0 x1 x2) x2) (jg x0 x1 x2) x2)
def Mt:Bool:=aq (nxA (40:Int) (cf x0 x1 x2) x2) (jg x0 x1 x2) x2
def jr:Int:=bif gG x0 x1 x2 then pkV (nxA (40:Int) (cf x0 x1 x2) x2) (jg x0 x1 x2) [(1:Int),(8:Int),(9:Int)] x2 else bif gn x0 x1 x2 then ce x0 x1 x2 else bif lZ x0 x1 x2 then ce x0 x1 x2 else bif Ca x0 x1 x2 then ce x0 x1 x2 else ce x0 x1 x2
def lY:Int:=bif gG x0 x1 x2 then pkA (nxA (40:Int) (cf x0 x1 x2) x2) [(1:Int),(8:Int),(9:Int)] x2 else bif gn x0 x1 x2 then pkA (nxA (40:Int) (cf x0 x1 x2) x2) (Cb x0 x1 x2) x2 else bif lZ x0 x1 x2 then nxA (2:Int) (nxA (40:Int) (cf x0 x1 x2) x2) x2 else bif Ca x0 x1 x2 then nxA (40:Int) (cf x0 x1 x2) x2 else nxA (40:Int) (cf x0 x1 x2) x2
def yV:Int:=bif gG x0 x1 x2 then pkS (nxA (40:Int) (cf x0 x1 x2) x2) (jg x0 x1 x2) [(1:Int),(8:Int),(9:Int)] x2 else bif gn x0 x1 x2 then pkS (nxA (40:Int) (cf x0 x1 x2) x2) (jg x0 x1 x2) (Cb x0 x1 x2) x2 else bif lZ x0 x1 x2 then nxS (2:Int) (nxA (40:Int) (cf x0 x1 x2) x2) (jg x0 x1 x2) x2 else bif Ca x0 x1 x2 then jg x0 x1 x2 else jg x0 x1 x2
def qt:List Int:=bif gG x0 x1 x2 then ma x0 x1 x2 else bif gn x0 x1 x2 then List.set (ma x0 x1 x2) (Int.toNat (0:Int)) (pkV (nxA (40:Int) (cf x0 x1 x2) x2) (jg x0 x1 x2) (Cb x0 x1 x2) x2)else bif lZ x0 x1 x2 then List.replicate (Int.toNat (jU x0 x1 x2)) (0:Int)else bif Ca x0 x1 x2 then []else ma x0 x1 x2
def VO:Bool:=allT [aq x0 x1 x2,aq (nxA (5:Int) x0 x2) (nxS (5:Int) x0 x1 x2) x2,aq (lD x0 x1 x2) (qS x0 x1 x2) x2,Lp.fin ir (Ee x0 x1 x2),aq (cf x0 x1 x2) ((wj x0 x1 x2).1) x2,!gG x0 x1 x2||Mt x0 x1 x2&&leN (1:Nat) (List.length [(1:Int),(8:Int),(9:Int)]),gG x0 x1 x2||(!gn x0 x1 x2||Mt x0 x1 x2&&leN (1:Nat) (List.length (Cb x0 x1 x2))),gG x0 x1 x2||(!gn x0 x1 x2||leI (0:Int) (0:Int)),gG x0 x1 x2||(!gn x0 x1 x2||ltI (0:Int) (↑(List.length (ma x0 x1 x2)):Int)),gG x0 x1 x2||(!gn x0 x1 x2||ltN (Int.toNat (0:Int)) (List.length (ma x0 x1 x2))),gG x0 x1 x2||(gn x0 x1 x2||(!lZ x0 x1 x2||Mt x0 x1 x2)),gG x0 x1 x2||(gn x0 x1 x2||(!lZ x0 x1 x2||leI (0:Int) (jU x0 x1 x2))),gG x0 x1 x2||(gn x0 x1 x2||(!lZ x0 x1 x2||leI (jU x0 x1 x2) (jU x0 x1 x2))),gG x0 x1 x2||(gn x0 x1 x2||(!lZ x0 x1 x2||leI ((↑(8:Nat):Int) * jU x0 x1 x2) (281474976710656:Int))),gG x0 x1 x2||(gn x0 x1 x2||(!lZ x0 x1 x2||leI (jU x0 x1 x2) (9223372036854775807:Int)))]
end
def abN:List SV→List Entry→Option Out
 | [.one ⟨false,[.ptr 0 0]⟩],[.box 157 [.ref 1,.val (.int .i64 x0),.val (.int .i64 x1)],.row false 5 (.int .u8) x2]=>some ⟨.one ⟨true,[.val (.int .i64 (jr x0 x1 x2)),.ref 2]⟩,[.box 157 [.ref 1,.val (.int .i64 (lY x0 x1 x2)),.val (.int .i64 (yV x0 x1 x2))],.row false 5 ajC x2],[.row true 2 aiQ (qt x0 x1 x2)],[VO x0 x1 x2]⟩
 |_,_=>none
def aj5:PF prog:=PF.ofG prog [af,PF.lend af,PF.fz af,ai,PF.lend ai,PF.fz ai] [ir.F] aM 137 f137 func137 (LOk.fnT (l:= [aL f137 0]) (by kernel_rfl) (.cons acQ (.nil _))) abN (by
 intro vs es r h;unfold abN at h;split at h
 ·cases h;kernel_rfl
 ·cases h)
abbrev jE:=Int×Int×Int×Int×List (Int×(Int×Int))×List Int
section
variable (y0 y1 y2 y3:Int)(y4:List (Int×(Int×Int)))(y5:List Int)
def dE:Bool:=nxV (6:Int) y2 y3 y5==(0:Int)
def FJ:Bool:=aq (nxA (6:Int) y2 y5) (nxS (6:Int) y2 y3 y5) y5
def sL:Int:=nxA (2:Int) (nxA (6:Int) y2 y5) y5
def xS:Int:=nxS (2:Int) (nxA (6:Int) y2 y5) (nxS (6:Int) y2 y3 y5) y5
def sM:List (Int×Int×Int):= [(y0,nxV (2:Int) (nxA (6:Int) y2 y5) (nxS (6:Int) y2 y3 y5) y5,nxV (2:Int) (sL y2 y5) (xS y2 y3 y5) y5)]
def kG:Bool:=nxV (6:Int) y2 y3 y5==(1:Int)
def nJ:Bool:=nxV (4:Int) (nxA (6:Int) y2 y5) (nxS (6:Int) y2 y3 y5) y5==(0:Int)
def nK:Int:=nxA (4:Int) (nxA (6:Int) y2 y5) y5
def sN:Int:=nxS (4:Int) (nxA (6:Int) y2 y5) (nxS (6:Int) y2 y3 y5) y5
def sO:List (Int×Int×Int):= [(y0,(0:Int),(0:Int)),(y0,(1:Int),IntKind.wrap .i64 (Int.tdiv (nxV (3:Int) (nK y2 y5) (sN y2 y3 y5) y5) (2:Int)))]
def Hj:Bool:=bif ltI y0 y1 then ltI y0 (7:Int)else false
def OR:Bool:=aq y2 y3 y5
def OS:Bool:= !dE y2 y3 y5||FJ y2 y3 y5
def OT:Bool:= !dE y2 y3 y5||aq (sL y2 y5) (xS y2 y3 y5) y5
def OU:Bool:= !dE y2 y3 y5||leN (List.length y4 + List.length (sM y0 y2 y3 y5)) (9223372036854775807:Nat)
def OV:Bool:= !dE y2 y3 y5||leN ((List.length y4 + List.length (sM y0 y2 y3 y5)) * (24:Nat)) (140737488355328:Nat)
def OW:Bool:=dE y2 y3 y5||(!kG y2 y3 y5||FJ y2 y3 y5)
def OX:Bool:=dE y2 y3 y5||(!kG y2 y3 y5||(!nJ y2 y3 y5||aq (nK y2 y5) (sN y2 y3 y5) y5))
def OY:Bool:=dE y2 y3 y5||(!kG y2 y3 y5||(!nJ y2 y3 y5||neI (2:Int) (0:Int)))
def OZ:Bool:=dE y2 y3 y5||(!kG y2 y3 y5||(!nJ y2 y3 y5||leN (List.length y4 + List.length (sO y0 y2 y3 y5)) (9223372036854775807:Nat)))
def Nk:Bool:=dE y2 y3 y5||(!kG y2 y3 y5||(!nJ y2 y3 y5||leN ((List.length y4 + List.length (sO y0 y2 y3 y5)) * (24:Nat)) (140737488355328:Nat)))
def Nl:Bool:=dE y2 y3 y5
def sK:Int:=IntKind.wrap .i64 (y0 + (1:Int))
def Nn:Int:=nxA (2:Int) (sL y2 y5) y5
def Np:Int:=nxS (2:Int) (sL y2 y5) (xS y2 y3 y5) y5
def Nq:List (Int×(Int×Int)):=y4++sM y0 y2 y3 y5
def Nr:Bool:=kG y2 y3 y5
def Ns:Bool:=nJ y2 y3 y5
def Nt:Int:=nxA (3:Int) (nK y2 y5) y5
def Nu:Int:=nxS (3:Int) (nK y2 y5) (sN y2 y3 y5) y5
def Nv:List (Int×(Int×Int)):=y4++sO y0 y2 y3 y5
def Nw:Int:=nK y2 y5
def Nx:Int:=sN y2 y3 y5
def Ny:Int:=nxA (6:Int) y2 y5
def Nz:Int:=nxS (6:Int) y2 y3 y5
end
def XF:jE→List (Nat×SV)
 |(y0,y1,_,_,_,_)=> [(6,(.one ⟨false,[.val (.int .i64 y0)]⟩)),(1,(.one ⟨false,[.val (.int .i64 y1)]⟩)),(0,(.one ⟨false,[.ptr 0 0]⟩)),(5,(.one ⟨false,[.ref 1]⟩))]
def Xx:jE→List (Nat×Entry)
 |(_,_,y2,y3,y4,y5)=> [(0,(.box 157 [.ref 2,.val (.int .i64 y2),.val (.int .i64 y3)])),(2,(.row false 5 ajC y5)),(1,(.row true 169 acG y4))]
def XU:Nat→jE→List (Nat×SV)
 |_,(_,_,_,_,_,_)=> [(5,(.one ⟨false,[.ref 1]⟩))]
def XN:Nat→jE→List (Nat×Entry)
 |_,(_,_,y2,y3,y4,y5)=> [(0,(.box 157 [.ref 2,.val (.int .i64 y2),.val (.int .i64 y3)])),(1,(.row true 169 acG y4)),(2,(.row false 5 ajC y5))]
def xO:jE→LT jE
 |(y0,y1,y2,y3,y4,y5)=> .ite (Hj y0 y1) (.need [OR y2 y3 y5] (.need [OS y2 y3 y5,OT y2 y3 y5,OU y0 y2 y3 y4 y5,OV y0 y2 y3 y4 y5,OW y2 y3 y5,OX y2 y3 y5,OY y2 y3 y5,OZ y0 y2 y3 y4 y5,Nk y0 y2 y3 y4 y5] (.ite (Nl y2 y3 y5) (.nrm ((sK y0),y1,Nn y2 y5,Np y2 y3 y5,Nq y0 y2 y3 y4 y5,y5) [(0,0),(1,1280),(2,2)]) (.ite (Nr y2 y3 y5) (.ite (Ns y2 y3 y5) (.nrm ((sK y0),y1,Nt y2 y5,Nu y2 y3 y5,Nv y0 y2 y3 y4 y5,y5) [(0,0),(1,1664),(2,2)]) (.nrm ((sK y0),y1,Nw y2 y5,Nx y2 y3 y5,y4,y5) [(0,0),(1,1),(2,2)])) (.nrm ((sK y0),y1,Ny y2 y5,Nz y2 y3 y5,y4,y5) [(0,0),(1,1),(2,2)]))))) (.ext 0 [(0,0),(1,1),(2,2)])
def FC(s:St):Option jE:=
 (match s.look 6 with
 |some ⟨none,.one ⟨false,[.val (.int .i64 y0)]⟩⟩=>
 (match s.look 1 with
 |some ⟨none,.one ⟨false,[.val (.int .i64 y1)]⟩⟩=>
 (match s.look 0 with
 |some ⟨none,.one ⟨false,[.ptr 0 0]⟩⟩=>
 (match s.look 5 with
 |some ⟨none,.one ⟨false,[.ref 256]⟩⟩=>
 (match s.ent 0 with
 |some (.box 157 [.ref 1,.val (.int .i64 y2),.val (.int .i64 y3)])=>
 (match s.ent 1 with
 |some (.row false 5 (.int IntKind.u8) y5)=>
 (match s.ent 256 with
 |some (.row true 169 (.pair (.int .i64) (.pair (.int .i64) (.int .i64))) y4)=>
 some (y0,y1,y2,y3,y4,y5)
 |_=>none)
 |_=>none)
 |_=>none)
 |_=>none)
 |_=>none)
 |_=>none)
 |_=>none)
def cg:Lp jE where
 h:=⟨[9,10,11,12,13,14,15,18,19,21,20,22,23,24,25,26,27,28,29,30,5,32,31,33,34,35,36,37,38,39,40,41,42,43,44,45,16,17,6],[0,2],[1],[]⟩
 JL:=XF
 JE:=Xx
 XL:=XU
 XE:=XN
 q:=fun j=>match j with | _=> .exit 0
 tags:= [0]
 lt:=xO
 fuel:=fun(y0,y1,y2,y3,y4,y5)=>y0.natAbs + y1.natAbs + y2.natAbs + y3.natAbs + y4.length + y5.length
 fix:=fun(_,y1,_,_,_,y5) (y0,_,y2,y3,y4,_)=>(y0,y1,y2,y3,y4,y5)
 σ:= [(0,0),(2,1),(1,256)]
 rd:=FC
theorem Vb:LoopOk prog (fun k=>Nat.blt k Tryz.f138.ntmps) cg.F (aL f138 0):=by
 refine Lp.ok (tbl:= [af,PF.lend af,PF.fz af,ai,PF.lend ai,PF.fz ai]) (lf:= []) aM cg (by kernel_rfl) (LOk.nil _) (fun _=>rfl) (fun _ _=>rfl) ?_ ?_ ?_ ?_ (fun _=>rfl) ?_
 ·rintro⟨y0,y1,y2,y3,y4,y5⟩;kernel_rfl
 ·rintro⟨y0,y1,y2,y3,y4,y5⟩;kernel_rfl
 ·intro s x h
  have h:FC s=some x:=h
  unfold FC at h
  repeat' split at h
  all_goals cases h
  exact⟨aa (by assumption) rfl (aa (by assumption) rfl (aa (by assumption) rfl (aa (by assumption) rfl (rfl)))),ab rfl (by assumption) rfl (ab rfl (by assumption) rfl (ab rfl (by assumption) rfl (rfl)))⟩
 ·rintro⟨y0,y1,y2,y3,y4,y5⟩;kernel_rfl
 ·rintro⟨y0,y1,y2,y3,y4,y5⟩ z;exact(And.intro (And.intro rfl (And.intro (And.intro rfl rfl) rfl)) trivial)
abbrev jF:=Int×Int×Int×List (Int×(Int×Int))×List Int
section
variable (y0 y1 y2:Int)(y4:List Int)
def sP:List (Int×Int×Int):= [(IntKind.wrap .i64 (Int.tdiv y0 (2:Int)),Int.tmod y0 (2:Int),(1:Int))]
def zQ:Bool:=aq y1 y2 y4
def zR:Bool:=ltI y0 (IntKind.wrap .i64 ((8:Int) + nxV (2:Int) y1 y2 y4))
end
def Hk:Bool:=neI (2:Int) (0:Int)
section
variable (y0 y1 y2:Int)(y3:List (Int×(Int×Int)))(y4:List Int)
def Pa:Bool:=leN (List.length y3 + List.length (sP y0)) (9223372036854775807:Nat)
def Pb:Bool:=leN ((List.length y3 + List.length (sP y0)) * (24:Nat)) (140737488355328:Nat)
def Pc:Int:=IntKind.wrap .i64 (y0 + (1:Int))
def zS:Int:=nxA (2:Int) y1 y4
def zT:Int:=nxS (2:Int) y1 y2 y4
def Pf:List (Int×(Int×Int)):=y3++sP y0
end
def XG:jF→List (Nat×SV)
 |(y0,_,_,_,_)=> [(7,(.one ⟨false,[.val (.int .i64 y0)]⟩)),(0,(.one ⟨false,[.ptr 0 0]⟩)),(5,(.one ⟨false,[.ref 1]⟩))]
def Xy:jF→List (Nat×Entry)
 |(_,y1,y2,y3,y4)=> [(0,(.box 157 [.ref 2,.val (.int .i64 y1),.val (.int .i64 y2)])),(2,(.row false 5 ajC y4)),(1,(.row true 169 acG y3))]
def XV:Nat→jF→List (Nat×SV)
 |_,(_,_,_,_,_)=> [(5,(.one ⟨false,[.ref 1]⟩))]
def XO:Nat→jF→List (Nat×Entry)
 |_,(_,y1,y2,y3,y4)=> [(0,(.box 157 [.ref 2,.val (.int .i64 (zS y1 y4)),.val (.int .i64 (zT y1 y2 y4))])),(1,(.row true 169 acG y3)),(2,(.row false 5 ajC y4))]
def xP:jF→LT jF
 |(y0,y1,y2,y3,y4)=> .need [zQ y1 y2 y4] (.ite (zR y0 y1 y2 y4) (.need [Hk,Hk,Pa y0 y3,Pb y0 y3] (.nrm ((Pc y0),zS y1 y4,zT y1 y2 y4,Pf y0 y3,y4) [(0,0),(1,832),(2,2)])) (.ext 0 [(0,0),(1,1),(2,2)]))
def FD(s:St):Option jF:=
 (match s.look 7 with
 |some ⟨none,.one ⟨false,[.val (.int .i64 y0)]⟩⟩=>
 (match s.look 0 with
 |some ⟨none,.one ⟨false,[.ptr 0 0]⟩⟩=>
 (match s.look 5 with
 |some ⟨none,.one ⟨false,[.ref 896]⟩⟩=>
 (match s.ent 0 with
 |some (.box 157 [.ref 1,.val (.int .i64 y1),.val (.int .i64 y2)])=>
 (match s.ent 1 with
 |some (.row false 5 (.int IntKind.u8) y4)=>
 (match s.ent 896 with
 |some (.row true 169 (.pair (.int .i64) (.pair (.int .i64) (.int .i64))) y3)=>
 some (y0,y1,y2,y3,y4)
 |_=>none)
 |_=>none)
 |_=>none)
 |_=>none)
 |_=>none)
 |_=>none)
def ci:Lp jF where
 h:=⟨[66,67,68,69,70,73,74,75,76,77,78,79,80,5,71,72,7],[0,2],[1],[]⟩
 JL:=XG
 JE:=Xy
 XL:=XV
 XE:=XO
 q:=fun j=>match j with | _=> .exit 4
 tags:= [0]
 lt:=xP
 fuel:=fun(y0,y1,y2,y3,y4)=>y0.natAbs + y1.natAbs + y2.natAbs + y3.length + y4.length
 fix:=fun(_,_,_,_,y4) (y0,y1,y2,y3,_)=>(y0,y1,y2,y3,y4)
 σ:= [(0,0),(2,1),(1,896)]
 rd:=FD
theorem Vc:LoopOk prog (fun k=>Nat.blt k Tryz.f138.ntmps) ci.F (aL f138 1):=by
 refine Lp.ok (tbl:= [af,PF.lend af,PF.fz af,ai,PF.lend ai,PF.fz ai]) (lf:= []) aM ci (by kernel_rfl) (LOk.nil _) (fun _=>rfl) (fun _ _=>rfl) ?_ ?_ ?_ ?_ (fun _=>rfl) ?_
 ·rintro⟨y0,y1,y2,y3,y4⟩;kernel_rfl
 ·rintro⟨y0,y1,y2,y3,y4⟩;kernel_rfl
 ·intro s x h
  have h:FD s=some x:=h
  unfold FD at h
  repeat' split at h
  all_goals cases h
  exact⟨aa (by assumption) rfl (aa (by assumption) rfl (aa (by assumption) rfl (rfl))),ab rfl (by assumption) rfl (ab rfl (by assumption) rfl (ab rfl (by assumption) rfl (rfl)))⟩
 ·rintro⟨y0,y1,y2,y3,y4⟩;kernel_rfl
 ·rintro⟨y0,y1,y2,y3,y4⟩ z;exact(And.intro rfl trivial)
section
variable (x0 x1 x2:Int)(x3:List Int)
def Rs:List (Int×Int×Int)×List Int:=([],x3)
def DN:Int×Int×Int×Int×List (Int×Int×Int)×List Int:=((0:Int),x0,x1,x2,Rs x3)
def wO:Int×Int×List (Int×Int×Int)×List Int:=(Lp.res cg (DN x0 x1 x2 x3)).2.2.2
def dB:Int:=(wO x0 x1 x2 x3).1
def DO:Int×List (Int×Int×Int)×List Int:=(wO x0 x1 x2 x3).2
def sw:Int:=(DO x0 x1 x2 x3).1
def Rt:Int:=nxV (40:Int) (dB x0 x1 x2 x3) (sw x0 x1 x2 x3) x3
def gc:Bool:=Rt x0 x1 x2 x3==(0:Int)
def wP:List Int:= [(-1:Int),(0:Int),x0]
def wQ:Int:=pkA (nxA (40:Int) (dB x0 x1 x2 x3) x3) (wP x0) x3
def vr:Int:=pkA (wQ x0 x1 x2 x3) [(0:Int),(1:Int),(2:Int)] x3
def rn:Bool:=Rt x0 x1 x2 x3==(1:Int)
def ro:Int:=nxS (40:Int) (dB x0 x1 x2 x3) (sw x0 x1 x2 x3) x3
def Bm:Int×Int×Int×List (Int×Int×Int)×List Int:=((0:Int),nxA (40:Int) (dB x0 x1 x2 x3) x3,ro x0 x1 x2 x3,Rs x3)
def vt:Int×Int×List (Int×Int×Int)×List Int:=(Lp.res ci (Bm x0 x1 x2 x3)).2.2
def Bn:Int:=(vt x0 x1 x2 x3).1
def Bo:Int:=pkS (nxA (40:Int) (dB x0 x1 x2 x3) x3) (ro x0 x1 x2 x3) (wP x0) x3
def Bp:Int:=pkS (wQ x0 x1 x2 x3) (Bo x0 x1 x2 x3) [(0:Int),(1:Int),(2:Int)] x3
def rp:Int×List (Int×Int×Int)×List Int:=(vt x0 x1 x2 x3).2
def kd:List (Int×Int×Int):=((DO x0 x1 x2 x3).2).1
def rq:List (Int×Int×Int):= [(pkV (nxA (40:Int) (dB x0 x1 x2 x3) x3) (ro x0 x1 x2 x3) (wP x0) x3,pkV (wQ x0 x1 x2 x3) (Bo x0 x1 x2 x3) [(0:Int),(1:Int),(2:Int)] x3,nxV (3:Int) (vr x0 x1 x2 x3) (Bp x0 x1 x2 x3) x3)]
def zi:Int:=bif gc x0 x1 x2 x3 then nxA (3:Int) (vr x0 x1 x2 x3) x3 else bif rn x0 x1 x2 x3 then zS (Bn x0 x1 x2 x3) x3 else nxA (40:Int) (dB x0 x1 x2 x3) x3
def zj:Int:=bif gc x0 x1 x2 x3 then nxS (3:Int) (vr x0 x1 x2 x3) (Bp x0 x1 x2 x3) x3 else bif rn x0 x1 x2 x3 then zT (Bn x0 x1 x2 x3) ((rp x0 x1 x2 x3).1) x3 else ro x0 x1 x2 x3
def zk:List (Int×(Int×Int)):=bif gc x0 x1 x2 x3 then kd x0 x1 x2 x3++rq x0 x1 x2 x3 else bif rn x0 x1 x2 x3 then ((rp x0 x1 x2 x3).2).1else kd x0 x1 x2 x3
def LA:Bool:=allT [Lp.fin cg (DN x0 x1 x2 x3),aq (dB x0 x1 x2 x3) (sw x0 x1 x2 x3) x3,!gc x0 x1 x2 x3||aq (nxA (40:Int) (dB x0 x1 x2 x3) x3) (ro x0 x1 x2 x3) x3&&leN (1:Nat) (List.length (wP x0)),!gc x0 x1 x2 x3||aq (wQ x0 x1 x2 x3) (Bo x0 x1 x2 x3) x3&&leN (1:Nat) (List.length [(0:Int),(1:Int),(2:Int)]),!gc x0 x1 x2 x3||aq (vr x0 x1 x2 x3) (Bp x0 x1 x2 x3) x3,!gc x0 x1 x2 x3||leN (List.length (kd x0 x1 x2 x3) + List.length (rq x0 x1 x2 x3)) (9223372036854775807:Nat),!gc x0 x1 x2 x3||leN ((List.length (kd x0 x1 x2 x3) + List.length (rq x0 x1 x2 x3)) * (24:Nat)) (140737488355328:Nat),gc x0 x1 x2 x3||(!rn x0 x1 x2 x3||Lp.fin ci (Bm x0 x1 x2 x3))]
end
def SE:List SV→List Entry→Option Out
 | [.one ⟨false,[.ptr 0 0]⟩,.one ⟨false,[.val (.int .i64 x0)]⟩],[.box 157 [.ref 1,.val (.int .i64 x1),.val (.int .i64 x2)],.row false 5 (.int .u8) x3]=>some ⟨.one ⟨false,[.ref 2]⟩,[.box 157 [.ref 1,.val (.int .i64 (zi x0 x1 x2 x3)),.val (.int .i64 (zj x0 x1 x2 x3))],.row false 5 ajC x3],[.row true 169 acG (zk x0 x1 x2 x3)],[LA x0 x1 x2 x3]⟩
 |_,_=>none
def ac7:PF prog:=PF.ofG prog [af,PF.lend af,PF.fz af,ai,PF.lend ai,PF.fz ai] [cg.F,ci.F] aM 138 f138 func138 (LOk.fnT (l:= [aL f138 0,aL f138 1]) (by kernel_rfl) (.cons Vb (.cons Vc (.nil _)))) SE (by
 intro vs es r h;unfold SE at h;split at h
 ·cases h;kernel_rfl
 ·cases h)
abbrev hY:=Int×Int×Int×Int×List (Int×(Int×Int))×List Int
section
variable (y0 y1 y2 y3:Int)(y4:List (Int×(Int×Int)))(y5:List Int)
def cJ:Bool:=nxV (6:Int) y2 y3 y5==(0:Int)
def sQ:Bool:=aq (nxA (6:Int) y2 y5) (nxS (6:Int) y2 y3 y5) y5
def kI:Int:=nxA (2:Int) (nxA (6:Int) y2 y5) y5
def nL:Int:=nxS (2:Int) (nxA (6:Int) y2 y5) (nxS (6:Int) y2 y3 y5) y5
def nM:List (Int×Int×Int):= [(y0,nxV (2:Int) (nxA (6:Int) y2 y5) (nxS (6:Int) y2 y3 y5) y5,nxV (2:Int) (kI y2 y5) (nL y2 y3 y5) y5)]
def iZ:Bool:=nxV (6:Int) y2 y3 y5==(1:Int)
def kJ:Bool:=bif nxV (4:Int) (nxA (6:Int) y2 y5) (nxS (6:Int) y2 y3 y5) y5==(0:Int)then ltI (↑y4.length:Int) (6:Int)else false
def ja:Int:=nxA (4:Int) (nxA (6:Int) y2 y5) y5
def kK:Int:=nxS (4:Int) (nxA (6:Int) y2 y5) (nxS (6:Int) y2 y3 y5) y5
def nN:List (Int×Int×Int):= [(y0,(0:Int),(1:Int)),(y0,(1:Int),nxV (2:Int) (ja y2 y5) (kK y2 y3 y5) y5)]
def zU:Bool:=bif ltI y0 y1 then ltI y0 (7:Int)else false
def zV:Bool:=aq y2 y3 y5
def zW:Bool:= !cJ y2 y3 y5||sQ y2 y3 y5
def zX:Bool:= !cJ y2 y3 y5||aq (kI y2 y5) (nL y2 y3 y5) y5
def zY:Bool:= !cJ y2 y3 y5||leN (List.length y4 + List.length (nM y0 y2 y3 y5)) (9223372036854775807:Nat)
def zZ:Bool:= !cJ y2 y3 y5||leN ((List.length y4 + List.length (nM y0 y2 y3 y5)) * (24:Nat)) (140737488355328:Nat)
def Aa:Bool:=cJ y2 y3 y5||(!iZ y2 y3 y5||sQ y2 y3 y5)
def Ab:Bool:=cJ y2 y3 y5||(!iZ y2 y3 y5||(!kJ y2 y3 y4 y5||aq (ja y2 y5) (kK y2 y3 y5) y5))
def Ac:Bool:=cJ y2 y3 y5||(!iZ y2 y3 y5||(!kJ y2 y3 y4 y5||leN (List.length y4 + List.length (nN y0 y2 y3 y5)) (9223372036854775807:Nat)))
def Ad:Bool:=cJ y2 y3 y5||(!iZ y2 y3 y5||(!kJ y2 y3 y4 y5||leN ((List.length y4 + List.length (nN y0 y2 y3 y5)) * (24:Nat)) (140737488355328:Nat)))
def xT:Bool:=cJ y2 y3 y5
def kH:Int:=IntKind.wrap .i64 (y0 + (1:Int))
def xU:Int:=nxA (2:Int) (kI y2 y5) y5
def xV:Int:=nxS (2:Int) (kI y2 y5) (nL y2 y3 y5) y5
def xW:List (Int×(Int×Int)):=y4++nM y0 y2 y3 y5
def xX:Bool:=iZ y2 y3 y5
def xY:Bool:=kJ y2 y3 y4 y5
def xZ:Int:=nxA (2:Int) (ja y2 y5) y5
def ya:Int:=nxS (2:Int) (ja y2 y5) (kK y2 y3 y5) y5
def yc:List (Int×(Int×Int)):=y4++nN y0 y2 y3 y5
def yf:Int:=ja y2 y5
def yg:Int:=kK y2 y3 y5
def yh:Int:=nxA (6:Int) y2 y5
def yj:Int:=nxS (6:Int) y2 y3 y5
end
def XH:hY→List (Nat×SV)
 |(y0,y1,_,_,_,_)=> [(6,(.one ⟨false,[.val (.int .i64 y0)]⟩)),(1,(.one ⟨false,[.val (.int .i64 y1)]⟩)),(0,(.one ⟨false,[.ptr 0 0]⟩)),(5,(.one ⟨false,[.ref 1]⟩))]
def Xz:hY→List (Nat×Entry)
 |(_,_,y2,y3,y4,y5)=> [(0,(.box 157 [.ref 2,.val (.int .i64 y2),.val (.int .i64 y3)])),(2,(.row false 5 ajC y5)),(1,(.row true 100 acG y4))]
def XW:Nat→hY→List (Nat×SV)
 |_,(_,_,_,_,_,_)=> [(5,(.one ⟨false,[.ref 1]⟩))]
def XP:Nat→hY→List (Nat×Entry)
 |_,(_,_,y2,y3,y4,y5)=> [(0,(.box 157 [.ref 2,.val (.int .i64 y2),.val (.int .i64 y3)])),(1,(.row true 100 acG y4)),(2,(.row false 5 ajC y5))]
def Fv:hY→LT hY
 |(y0,y1,y2,y3,y4,y5)=> .ite (zU y0 y1) (.need [zV y2 y3 y5] (.need [zW y2 y3 y5,zX y2 y3 y5,zY y0 y2 y3 y4 y5,zZ y0 y2 y3 y4 y5,Aa y2 y3 y5,Ab y2 y3 y4 y5,Ac y0 y2 y3 y4 y5,Ad y0 y2 y3 y4 y5] (.ite (xT y2 y3 y5) (.nrm ((kH y0),y1,xU y2 y5,xV y2 y3 y5,xW y0 y2 y3 y4 y5,y5) [(0,0),(1,1280),(2,2)]) (.ite (xX y2 y3 y5) (.ite (xY y2 y3 y4 y5) (.nrm ((kH y0),y1,xZ y2 y5,ya y2 y3 y5,yc y0 y2 y3 y4 y5,y5) [(0,0),(1,1920),(2,2)]) (.nrm ((kH y0),y1,yf y2 y5,yg y2 y3 y5,y4,y5) [(0,0),(1,1),(2,2)])) (.nrm ((kH y0),y1,yh y2 y5,yj y2 y3 y5,y4,y5) [(0,0),(1,1),(2,2)]))))) (.ext 0 [(0,0),(1,1),(2,2)])
def FE(s:St):Option hY:=
 (match s.look 6 with
 |some ⟨none,.one ⟨false,[.val (.int .i64 y0)]⟩⟩=>
 (match s.look 1 with
 |some ⟨none,.one ⟨false,[.val (.int .i64 y1)]⟩⟩=>
 (match s.look 0 with
 |some ⟨none,.one ⟨false,[.ptr 0 0]⟩⟩=>
 (match s.look 5 with
 |some ⟨none,.one ⟨false,[.ref 256]⟩⟩=>
 (match s.ent 0 with
 |some (.box 157 [.ref 1,.val (.int .i64 y2),.val (.int .i64 y3)])=>
 (match s.ent 1 with
 |some (.row false 5 (.int IntKind.u8) y5)=>
 (match s.ent 256 with
 |some (.row true 100 (.pair (.int .i64) (.pair (.int .i64) (.int .i64))) y4)=>
 some (y0,y1,y2,y3,y4,y5)
 |_=>none)
 |_=>none)
 |_=>none)
 |_=>none)
 |_=>none)
 |_=>none)
 |_=>none)
def eA:Lp hY where
 h:=⟨[9,10,11,12,13,14,15,18,19,21,20,22,23,24,25,26,27,28,29,30,5,32,31,33,34,35,36,37,38,39,40,41,42,43,44,45,46,47,48,49,16,17,6],[0,2],[1],[]⟩
 JL:=XH
 JE:=Xz
 XL:=XW
 XE:=XP
 q:=fun j=>match j with | _=> .exit 0
 tags:= [0]
 lt:=Fv
 fuel:=fun(y0,y1,y2,y3,y4,y5)=>y0.natAbs + y1.natAbs + y2.natAbs + y3.natAbs + y4.length + y5.length
 fix:=fun(_,y1,_,_,_,y5) (y0,_,y2,y3,y4,_)=>(y0,y1,y2,y3,y4,y5)
 σ:= [(0,0),(2,1),(1,256)]
 rd:=FE
theorem Vd:LoopOk prog (fun k=>Nat.blt k Tryz.f139.ntmps) eA.F (aL f139 0):=by
 refine Lp.ok (tbl:= [af,PF.lend af,PF.fz af,ai,PF.lend ai,PF.fz ai]) (lf:= []) aM eA (by kernel_rfl) (LOk.nil _) (fun _=>rfl) (fun _ _=>rfl) ?_ ?_ ?_ ?_ (fun _=>rfl) ?_
 ·rintro⟨y0,y1,y2,y3,y4,y5⟩;kernel_rfl
 ·rintro⟨y0,y1,y2,y3,y4,y5⟩;kernel_rfl
 ·intro s x h
  have h:FE s=some x:=h
  unfold FE at h
  repeat' split at h
  all_goals cases h
  exact⟨aa (by assumption) rfl (aa (by assumption) rfl (aa (by assumption) rfl (aa (by assumption) rfl (rfl)))),ab rfl (by assumption) rfl (ab rfl (by assumption) rfl (ab rfl (by assumption) rfl (rfl)))⟩
 ·rintro⟨y0,y1,y2,y3,y4,y5⟩;kernel_rfl
 ·rintro⟨y0,y1,y2,y3,y4,y5⟩ z;exact(And.intro (And.intro rfl (And.intro (And.intro rfl rfl) rfl)) trivial)
abbrev hZ:=Int×Int×Int×List (Int×(Int×Int))×List Int
section
variable (y0 y1 y2:Int)(y4:List Int)
def kL:List (Int×Int×Int):= [(IntKind.wrap .i64 (Int.tdiv y0 (2:Int)),Int.tmod y0 (2:Int),(0:Int))]
def tY:Bool:=aq y1 y2 y4
def tZ:Bool:=ltI y0 (IntKind.wrap .i64 ((8:Int) + nxV (2:Int) y1 y2 y4))
end
def pG:Bool:=neI (2:Int) (0:Int)
section
variable (y0 y1 y2:Int)(y3:List (Int×(Int×Int)))(y4:List Int)
def ua:Bool:=leN (List.length y3 + List.length (kL y0)) (9223372036854775807:Nat)
def ub:Bool:=leN ((List.length y3 + List.length (kL y0)) * (24:Nat)) (140737488355328:Nat)
def uc:Int:=IntKind.wrap .i64 (y0 + (1:Int))
def mb:Int:=nxA (2:Int) y1 y4
def mc:Int:=nxS (2:Int) y1 y2 y4
def ud:List (Int×(Int×Int)):=y3++kL y0
end
def XI:hZ→List (Nat×SV)
 |(y0,_,_,_,_)=> [(7,(.one ⟨false,[.val (.int .i64 y0)]⟩)),(0,(.one ⟨false,[.ptr 0 0]⟩)),(5,(.one ⟨false,[.ref 1]⟩))]
def XA:hZ→List (Nat×Entry)
 |(_,y1,y2,y3,y4)=> [(0,(.box 157 [.ref 2,.val (.int .i64 y1),.val (.int .i64 y2)])),(2,(.row false 5 ajC y4)),(1,(.row true 100 acG y3))]
def XX:Nat→hZ→List (Nat×SV)
 |_,(_,_,_,_,_)=> [(5,(.one ⟨false,[.ref 1]⟩))]
def XQ:Nat→hZ→List (Nat×Entry)
 |_,(_,y1,y2,y3,y4)=> [(0,(.box 157 [.ref 2,.val (.int .i64 (mb y1 y4)),.val (.int .i64 (mc y1 y2 y4))])),(1,(.row true 100 acG y3)),(2,(.row false 5 ajC y4))]
def Fw:hZ→LT hZ
 |(y0,y1,y2,y3,y4)=> .need [tY y1 y2 y4] (.ite (tZ y0 y1 y2 y4) (.need [pG,pG,ua y0 y3,ub y0 y3] (.nrm ((uc y0),mb y1 y4,mc y1 y2 y4,ud y0 y3,y4) [(0,0),(1,832),(2,2)])) (.ext 0 [(0,0),(1,1),(2,2)]))
def FF(s:St):Option hZ:=
 (match s.look 7 with
 |some ⟨none,.one ⟨false,[.val (.int .i64 y0)]⟩⟩=>
 (match s.look 0 with
 |some ⟨none,.one ⟨false,[.ptr 0 0]⟩⟩=>
 (match s.look 5 with
 |some ⟨none,.one ⟨false,[.ref 896]⟩⟩=>
 (match s.ent 0 with
 |some (.box 157 [.ref 1,.val (.int .i64 y1),.val (.int .i64 y2)])=>
 (match s.ent 1 with
 |some (.row false 5 (.int IntKind.u8) y4)=>
 (match s.ent 896 with
 |some (.row true 100 (.pair (.int .i64) (.pair (.int .i64) (.int .i64))) y3)=>
 some (y0,y1,y2,y3,y4)
 |_=>none)
 |_=>none)
 |_=>none)
 |_=>none)
 |_=>none)
 |_=>none)
def eB:Lp hZ where
 h:=⟨[70,71,72,73,74,77,78,79,80,81,82,83,84,5,75,76,7],[0,2],[1],[]⟩
 JL:=XI
 JE:=XA
 XL:=XX
 XE:=XQ
 q:=fun j=>match j with | _=> .exit 4
 tags:= [0]
 lt:=Fw
 fuel:=fun(y0,y1,y2,y3,y4)=>y0.natAbs + y1.natAbs + y2.natAbs + y3.length + y4.length
 fix:=fun(_,_,_,_,y4) (y0,y1,y2,y3,_)=>(y0,y1,y2,y3,y4)
 σ:= [(0,0),(2,1),(1,896)]
 rd:=FF
theorem Ve:LoopOk prog (fun k=>Nat.blt k Tryz.f139.ntmps) eB.F (aL f139 1):=by
 refine Lp.ok (tbl:= [af,PF.lend af,PF.fz af,ai,PF.lend ai,PF.fz ai]) (lf:= []) aM eB (by kernel_rfl) (LOk.nil _) (fun _=>rfl) (fun _ _=>rfl) ?_ ?_ ?_ ?_ (fun _=>rfl) ?_
 ·rintro⟨y0,y1,y2,y3,y4⟩;kernel_rfl
 ·rintro⟨y0,y1,y2,y3,y4⟩;kernel_rfl
 ·intro s x h
  have h:FF s=some x:=h
  unfold FF at h
  repeat' split at h
  all_goals cases h
  exact⟨aa (by assumption) rfl (aa (by assumption) rfl (aa (by assumption) rfl (rfl))),ab rfl (by assumption) rfl (ab rfl (by assumption) rfl (ab rfl (by assumption) rfl (rfl)))⟩
 ·rintro⟨y0,y1,y2,y3,y4⟩;kernel_rfl
 ·rintro⟨y0,y1,y2,y3,y4⟩ z;exact(And.intro rfl trivial)
section
variable (x0 x1 x2:Int)(x3:List Int)
def oA:List (Int×Int×Int)×List Int:=([],x3)
def kZ:Int×Int×Int×Int×List (Int×Int×Int)×List Int:=((0:Int),x0,x1,x2,oA x3)
def oB:Int×Int×List (Int×Int×Int)×List Int:=(Lp.res eA (kZ x0 x1 x2 x3)).2.2.2
def cP:Int:=(oB x0 x1 x2 x3).1
def oC:Int×List (Int×Int×Int)×List Int:=(oB x0 x1 x2 x3).2
def lc:Int:=(oC x0 x1 x2 x3).1
def oD:Int:=nxV (40:Int) (cP x0 x1 x2 x3) (lc x0 x1 x2 x3) x3
def cQ:Bool:=oD x0 x1 x2 x3==(0:Int)
def jA:List Int:= [(-1:Int),(0:Int),x0]
def jB:Int:=pkA (nxA (40:Int) (cP x0 x1 x2 x3) x3) (jA x0) x3
def iO:Int:=pkA (jB x0 x1 x2 x3) [(0:Int),(1:Int),(2:Int)] x3
def iP:Bool:=oD x0 x1 x2 x3==(1:Int)
def gP:Int:=nxS (40:Int) (cP x0 x1 x2 x3) (lc x0 x1 x2 x3) x3
def kh:Int×Int×Int×List (Int×Int×Int)×List Int:=((0:Int),nxA (40:Int) (cP x0 x1 x2 x3) x3,gP x0 x1 x2 x3,oA x3)
def mU:Int×Int×List (Int×Int×Int)×List Int:=(Lp.res eB (kh x0 x1 x2 x3)).2.2
def mV:Int:=(mU x0 x1 x2 x3).1
def ki:Int:=pkS (nxA (40:Int) (cP x0 x1 x2 x3) x3) (gP x0 x1 x2 x3) (jA x0) x3
def kj:Int:=pkS (jB x0 x1 x2 x3) (ki x0 x1 x2 x3) [(0:Int),(1:Int),(2:Int)] x3
def mW:Int×List (Int×Int×Int)×List Int:=(mU x0 x1 x2 x3).2
def iQ:List (Int×Int×Int):=((oC x0 x1 x2 x3).2).1
def kk:List (Int×Int×Int):= [(pkV (nxA (40:Int) (cP x0 x1 x2 x3) x3) (gP x0 x1 x2 x3) (jA x0) x3,pkV (jB x0 x1 x2 x3) (ki x0 x1 x2 x3) [(0:Int),(1:Int),(2:Int)] x3,nxV (3:Int) (iO x0 x1 x2 x3) (kj x0 x1 x2 x3) x3)]
def ke:Int:=bif cQ x0 x1 x2 x3 then nxA (3:Int) (iO x0 x1 x2 x3) x3 else bif iP x0 x1 x2 x3 then mb (mV x0 x1 x2 x3) x3 else nxA (40:Int) (cP x0 x1 x2 x3) x3
def kf:Int:=bif cQ x0 x1 x2 x3 then nxS (3:Int) (iO x0 x1 x2 x3) (kj x0 x1 x2 x3) x3 else bif iP x0 x1 x2 x3 then mc (mV x0 x1 x2 x3) ((mW x0 x1 x2 x3).1) x3 else gP x0 x1 x2 x3
def kg:List (Int×(Int×Int)):=bif cQ x0 x1 x2 x3 then iQ x0 x1 x2 x3++kk x0 x1 x2 x3 else bif iP x0 x1 x2 x3 then ((mW x0 x1 x2 x3).2).1else iQ x0 x1 x2 x3
def qu:Bool:=allT [Lp.fin eA (kZ x0 x1 x2 x3),aq (cP x0 x1 x2 x3) (lc x0 x1 x2 x3) x3,!cQ x0 x1 x2 x3||aq (nxA (40:Int) (cP x0 x1 x2 x3) x3) (gP x0 x1 x2 x3) x3&&leN (1:Nat) (List.length (jA x0)),!cQ x0 x1 x2 x3||aq (jB x0 x1 x2 x3) (ki x0 x1 x2 x3) x3&&leN (1:Nat) (List.length [(0:Int),(1:Int),(2:Int)]),!cQ x0 x1 x2 x3||aq (iO x0 x1 x2 x3) (kj x0 x1 x2 x3) x3,!cQ x0 x1 x2 x3||leN (List.length (iQ x0 x1 x2 x3) + List.length (kk x0 x1 x2 x3)) (9223372036854775807:Nat),!cQ x0 x1 x2 x3||leN ((List.length (iQ x0 x1 x2 x3) + List.length (kk x0 x1 x2 x3)) * (24:Nat)) (140737488355328:Nat),cQ x0 x1 x2 x3||(!iP x0 x1 x2 x3||Lp.fin eB (kh x0 x1 x2 x3))]
end
def SF:List SV→List Entry→Option Out
 | [.one ⟨false,[.ptr 0 0]⟩,.one ⟨false,[.val (.int .i64 x0)]⟩],[.box 157 [.ref 1,.val (.int .i64 x1),.val (.int .i64 x2)],.row false 5 (.int .u8) x3]=>some ⟨.one ⟨false,[.ref 2]⟩,[.box 157 [.ref 1,.val (.int .i64 (ke x0 x1 x2 x3)),.val (.int .i64 (kf x0 x1 x2 x3))],.row false 5 ajC x3],[.row true 100 acG (kg x0 x1 x2 x3)],[qu x0 x1 x2 x3]⟩
 |_,_=>none
def ac8:PF prog:=PF.ofG prog [af,PF.lend af,PF.fz af,ai,PF.lend ai,PF.fz ai] [eA.F,eB.F] aM 139 f139 func139 (LOk.fnT (l:= [aL f139 0,aL f139 1]) (by kernel_rfl) (.cons Vd (.cons Ve (.nil _)))) SF (by
 intro vs es r h;unfold SF at h;split at h
 ·cases h;kernel_rfl
 ·cases h)
abbrev oI:=Int×List (Int×Int)×Int×Int×List Int
section
variable (y0:Int)(y1:List (Int×Int))(y2 y3:Int)(y4:List Int)
def tl:List Int:= [(1:Int),(7:Int),(30:Int),IntKind.wrap .i64 ((1:Int) + nxV (40:Int) y2 y3 y4),(366:Int)]
def tm:Int:=pkA (nxA (40:Int) y2 y4) (tl y2 y3 y4) y4
def xm:Int:=pkS (nxA (40:Int) y2 y4) (nxS (40:Int) y2 y3 y4) (tl y2 y3 y4) y4
def xo:List (Int×Int):= [(pkV (nxA (40:Int) y2 y4) (nxS (40:Int) y2 y3 y4) (tl y2 y3 y4) y4,nxV (60:Int) (tm y2 y3 y4) (xm y2 y3 y4) y4)]
def KA:Bool:=ltI (0:Int) y0
def KB:Bool:=aq y2 y3 y4
def KC:Bool:=aq (nxA (40:Int) y2 y4) (nxS (40:Int) y2 y3 y4) y4&&leN (1:Nat) (List.length (tl y2 y3 y4))
def KD:Bool:=aq (tm y2 y3 y4) (xm y2 y3 y4) y4
def KE:Bool:=leN (List.length y1 + List.length (xo y2 y3 y4)) (9223372036854775807:Nat)
def KF:Bool:=leN ((List.length y1 + List.length (xo y2 y3 y4)) * (16:Nat)) (140737488355328:Nat)
def KG:Int:=IntKind.wrap .i64 (y0 - (1:Int))
def KH:List (Int×Int):=y1++xo y2 y3 y4
def KI:Int:=nxA (60:Int) (tm y2 y3 y4) y4
def KJ:Int:=nxS (60:Int) (tm y2 y3 y4) (xm y2 y3 y4) y4
end
def ae1:oI→List (Nat×SV)
 |(y0,_,_,_,_)=> [(4,(.one ⟨false,[.val (.int .i64 y0)]⟩)),(3,(.one ⟨false,[.ref 0]⟩)),(0,(.one ⟨false,[.ptr 1 0]⟩))]
def aeU:oI→List (Nat×Entry)
 |(_,y1,y2,y3,y4)=> [(1,(.box 157 [.ref 2,.val (.int .i64 y2),.val (.int .i64 y3)])),(2,(.row false 5 ajC y4)),(0,(.row true 173 acH y1))]
def aff:Nat→oI→List (Nat×SV)
 |_,(_,_,_,_,_)=> [(3,(.one ⟨false,[.ref 0]⟩))]
def ae8:Nat→oI→List (Nat×Entry)
 |_,(_,y1,y2,y3,y4)=> [(0,(.row true 173 acH y1)),(1,(.box 157 [.ref 2,.val (.int .i64 y2),.val (.int .i64 y3)])),(2,(.row false 5 ajC y4))]
def NZ:oI→LT oI
 |(y0,y1,y2,y3,y4)=> .ite (KA y0) (.need [KB y2 y3 y4,KC y2 y3 y4,KD y2 y3 y4,KE y1 y2 y3 y4,KF y1 y2 y3 y4] (.nrm ((KG y0),KH y1 y2 y3 y4,KI y2 y3 y4,KJ y2 y3 y4,y4) [(0,896),(1,1),(2,2)])) (.ext 0 [(0,0),(1,1),(2,2)])
def Oj(s:St):Option oI:=
 (match s.look 4 with
 |some ⟨none,.one ⟨false,[.val (.int .i64 y0)]⟩⟩=>
 (match s.look 3 with
 |some ⟨none,.one ⟨false,[.ref 256]⟩⟩=>
 (match s.look 0 with
 |some ⟨none,.one ⟨false,[.ptr 0 0]⟩⟩=>
 (match s.ent 0 with
 |some (.box 157 [.ref 1,.val (.int .i64 y2),.val (.int .i64 y3)])=>
 (match s.ent 1 with
 |some (.row false 5 (.int IntKind.u8) y4)=>
 (match s.ent 256 with
 |some (.row true 173 (.pair (.int .i64) (.int .i64)) y1)=>
 some (y0,y1,y2,y3,y4)
 |_=>none)
 |_=>none)
 |_=>none)
 |_=>none)
 |_=>none)
 |_=>none)
def kA:Lp oI where
 h:=⟨[9,10,13,14,15,16,17,18,19,20,21,22,23,24,3,11,12,4],[1,2],[0],[]⟩
 JL:=ae1
 JE:=aeU
 XL:=aff
 XE:=ae8
 q:=fun j=>match j with | _=> .exit 0
 tags:= [0]
 lt:=NZ
 fuel:=fun(y0,y1,y2,y3,y4)=>y0.natAbs + y1.length + y2.natAbs + y3.natAbs + y4.length
 fix:=fun(_,_,_,_,y4) (y0,y1,y2,y3,_)=>(y0,y1,y2,y3,y4)
 σ:= [(1,0),(2,1),(0,256)]
 rd:=Oj
theorem acS:LoopOk prog (fun k=>Nat.blt k Tryz.f140.ntmps) kA.F (aL f140 0):=by
 refine Lp.ok (tbl:= [af,PF.lend af,PF.fz af,ai,PF.lend ai,PF.fz ai]) (lf:= []) aM kA (by kernel_rfl) (LOk.nil _) (fun _=>rfl) (fun _ _=>rfl) ?_ ?_ ?_ ?_ (fun _=>rfl) ?_
 ·rintro⟨y0,y1,y2,y3,y4⟩;kernel_rfl
 ·rintro⟨y0,y1,y2,y3,y4⟩;kernel_rfl
 ·intro s x h
  have h:Oj s=some x:=h
  unfold Oj at h
  repeat' split at h
  all_goals cases h
  exact⟨aa (by assumption) rfl (aa (by assumption) rfl (aa (by assumption) rfl (rfl))),ab rfl (by assumption) rfl (ab rfl (by assumption) rfl (ab rfl (by assumption) rfl (rfl)))⟩
 ·rintro⟨y0,y1,y2,y3,y4⟩;kernel_rfl
 ·rintro⟨y0,y1,y2,y3,y4⟩ z;exact(And.intro rfl trivial)
abbrev oJ:=Int×Int×Int×List (Int×Int)×List Int
section
variable (y0 y1 y2:Int)(y3:List (Int×Int))(y4:List Int)
def tp:List (Int×Int):= [(IntKind.wrap .i64 ((1:Int) + y0),(0:Int))]
def EM:Bool:=aq y1 y2 y4
def EN:Bool:=ltI y0 (IntKind.wrap .i64 ((12:Int) + nxV (2:Int) y1 y2 y4))
def EO:Bool:=leN (List.length y3 + List.length (tp y0)) (9223372036854775807:Nat)
def EP:Bool:=leN ((List.length y3 + List.length (tp y0)) * (16:Nat)) (140737488355328:Nat)
def EQ:Int:=IntKind.wrap .i64 (y0 + (1:Int))
def vH:Int:=nxA (2:Int) y1 y4
def vI:Int:=nxS (2:Int) y1 y2 y4
def ER:List (Int×Int):=y3++tp y0
end
def ae2:oJ→List (Nat×SV)
 |(y0,_,_,_,_)=> [(5,(.one ⟨false,[.val (.int .i64 y0)]⟩)),(0,(.one ⟨false,[.ptr 0 0]⟩)),(3,(.one ⟨false,[.ref 1]⟩))]
def aeV:oJ→List (Nat×Entry)
 |(_,y1,y2,y3,y4)=> [(0,(.box 157 [.ref 2,.val (.int .i64 y1),.val (.int .i64 y2)])),(2,(.row false 5 ajC y4)),(1,(.row true 173 acH y3))]
def afg:Nat→oJ→List (Nat×SV)
 |_,(_,_,_,_,_)=> [(3,(.one ⟨false,[.ref 1]⟩))]
def ae9:Nat→oJ→List (Nat×Entry)
 |_,(_,y1,y2,y3,y4)=> [(0,(.box 157 [.ref 2,.val (.int .i64 (vH y1 y4)),.val (.int .i64 (vI y1 y2 y4))])),(1,(.row true 173 acH y3)),(2,(.row false 5 ajC y4))]
def Oa:oJ→LT oJ
 |(y0,y1,y2,y3,y4)=> .need [EM y1 y2 y4] (.ite (EN y0 y1 y2 y4) (.need [EO y0 y3,EP y0 y3] (.nrm ((EQ y0),vH y1 y4,vI y1 y2 y4,ER y0 y3,y4) [(0,0),(1,704),(2,2)])) (.ext 0 [(0,0),(1,1),(2,2)]))
def Ok(s:St):Option oJ:=
 (match s.look 5 with
 |some ⟨none,.one ⟨false,[.val (.int .i64 y0)]⟩⟩=>
 (match s.look 0 with
 |some ⟨none,.one ⟨false,[.ptr 0 0]⟩⟩=>
 (match s.look 3 with
 |some ⟨none,.one ⟨false,[.ref 1024]⟩⟩=>
 (match s.ent 0 with
 |some (.box 157 [.ref 1,.val (.int .i64 y1),.val (.int .i64 y2)])=>
 (match s.ent 1 with
 |some (.row false 5 (.int IntKind.u8) y4)=>
 (match s.ent 1024 with
 |some (.row true 173 (.pair (.int .i64) (.int .i64)) y3)=>
 some (y0,y1,y2,y3,y4)
 |_=>none)
 |_=>none)
 |_=>none)
 |_=>none)
 |_=>none)
 |_=>none)
def kB:Lp oJ where
 h:=⟨[42,43,44,45,46,49,50,51,52,53,54,3,47,48,5],[0,2],[1],[]⟩
 JL:=ae2
 JE:=aeV
 XL:=afg
 XE:=ae9
 q:=fun j=>match j with | _=> .exit 3
 tags:= [0]
 lt:=Oa
 fuel:=fun(y0,y1,y2,y3,y4)=>y0.natAbs + y1.natAbs + y2.natAbs + y3.length + y4.length
 fix:=fun(_,_,_,_,y4) (y0,y1,y2,y3,_)=>(y0,y1,y2,y3,y4)
 σ:= [(0,0),(2,1),(1,1024)]
 rd:=Ok
theorem acT:LoopOk prog (fun k=>Nat.blt k Tryz.f140.ntmps) kB.F (aL f140 1):=by
 refine Lp.ok (tbl:= [af,PF.lend af,PF.fz af,ai,PF.lend ai,PF.fz ai]) (lf:= []) aM kB (by kernel_rfl) (LOk.nil _) (fun _=>rfl) (fun _ _=>rfl) ?_ ?_ ?_ ?_ (fun _=>rfl) ?_
 ·rintro⟨y0,y1,y2,y3,y4⟩;kernel_rfl
 ·rintro⟨y0,y1,y2,y3,y4⟩;kernel_rfl
 ·intro s x h
  have h:Ok s=some x:=h
  unfold Ok at h
  repeat' split at h
  all_goals cases h
  exact⟨aa (by assumption) rfl (aa (by assumption) rfl (aa (by assumption) rfl (rfl))),ab rfl (by assumption) rfl (ab rfl (by assumption) rfl (ab rfl (by assumption) rfl (rfl)))⟩
 ·rintro⟨y0,y1,y2,y3,y4⟩;kernel_rfl
 ·rintro⟨y0,y1,y2,y3,y4⟩ z;exact(And.intro rfl trivial)
section
variable (x0 x1:Int)(x2:List Int)
def wn:Int×List (Int×Int)×Int×Int×List Int:=(nxV (5:Int) x0 x1 x2,[],nxA (5:Int) x0 x2,nxS (5:Int) x0 x1 x2,x2)
def At:List (Int×Int)×Int×Int×List Int:=(Lp.res kA (wn x0 x1 x2)).2.2
def qU:Int×Int×List Int:=(At x0 x1 x2).2
def wo:Int:=((qU x0 x1 x2).2).1
def Au:Int:=nxV (40:Int) ((qU x0 x1 x2).1) (wo x0 x1 x2) x2
def jV:Bool:=Au x0 x1 x2==(0:Int)
def nx:Int:=nxA (40:Int) ((qU x0 x1 x2).1) x2
def sX:Int:=pkA (nx x0 x1 x2) [(0:Int),(1:Int),(367:Int)] x2
def sY:Bool:=Au x0 x1 x2==(1:Int)
def qV:Int:=nxS (40:Int) ((qU x0 x1 x2).1) (wo x0 x1 x2) x2
def ue:Int×Int×Int×List (Int×Int)×List Int:=((0:Int),nx x0 x1 x2,qV x0 x1 x2,[],x2)
def xj:Int×Int×List (Int×Int)×List Int:=(Lp.res kB (ue x0 x1 x2)).2.2
def xk:Int:=(xj x0 x1 x2).1
def uf:Int:=pkS (nx x0 x1 x2) (qV x0 x1 x2) [(0:Int),(1:Int),(367:Int)] x2
def xl:Int×List (Int×Int)×List Int:=(xj x0 x1 x2).2
def rr:List (Int×Int):=(At x0 x1 x2).1
def ug:List (Int×Int):= [(pkV (nx x0 x1 x2) (qV x0 x1 x2) [(0:Int),(1:Int),(367:Int)] x2,pkV (sX x0 x1 x2) (uf x0 x1 x2) [(-1:Int),(100000:Int),(100001:Int)] x2)]
def vE:Int:=bif jV x0 x1 x2 then pkA (sX x0 x1 x2) [(-1:Int),(100000:Int),(100001:Int)] x2 else bif sY x0 x1 x2 then vH (xk x0 x1 x2) x2 else nx x0 x1 x2
def vF:Int:=bif jV x0 x1 x2 then pkS (sX x0 x1 x2) (uf x0 x1 x2) [(-1:Int),(100000:Int),(100001:Int)] x2 else bif sY x0 x1 x2 then vI (xk x0 x1 x2) ((xl x0 x1 x2).1) x2 else qV x0 x1 x2
def vG:List (Int×Int):=bif jV x0 x1 x2 then rr x0 x1 x2++ug x0 x1 x2 else bif sY x0 x1 x2 then ((xl x0 x1 x2).2).1else rr x0 x1 x2
def DC:Bool:=allT [aq x0 x1 x2,Lp.fin kA (wn x0 x1 x2),aq ((qU x0 x1 x2).1) (wo x0 x1 x2) x2,!jV x0 x1 x2||aq (nx x0 x1 x2) (qV x0 x1 x2) x2&&leN (1:Nat) (List.length [(0:Int),(1:Int),(367:Int)]),!jV x0 x1 x2||aq (sX x0 x1 x2) (uf x0 x1 x2) x2&&leN (1:Nat) (List.length [(-1:Int),(100000:Int),(100001:Int)]),!jV x0 x1 x2||leN (List.length (rr x0 x1 x2) + List.length (ug x0 x1 x2)) (9223372036854775807:Nat),!jV x0 x1 x2||leN ((List.length (rr x0 x1 x2) + List.length (ug x0 x1 x2)) * (16:Nat)) (140737488355328:Nat),jV x0 x1 x2||(!sY x0 x1 x2||Lp.fin kB (ue x0 x1 x2))]
end
def abY:List SV→List Entry→Option Out
 | [.one ⟨false,[.ptr 0 0]⟩],[.box 157 [.ref 1,.val (.int .i64 x0),.val (.int .i64 x1)],.row false 5 (.int .u8) x2]=>some ⟨.one ⟨false,[.ref 2]⟩,[.box 157 [.ref 1,.val (.int .i64 (vE x0 x1 x2)),.val (.int .i64 (vF x0 x1 x2))],.row false 5 ajC x2],[.row true 173 acH (vG x0 x1 x2)],[DC x0 x1 x2]⟩
 |_,_=>none
def akd:PF prog:=PF.ofG prog [af,PF.lend af,PF.fz af,ai,PF.lend ai,PF.fz ai] [kA.F,kB.F] aM 140 f140 func140 (LOk.fnT (l:= [aL f140 0,aL f140 1]) (by kernel_rfl) (.cons acS (.cons acT (.nil _)))) abY (by
 intro vs es r h;unfold abY at h;split at h
 ·cases h;kernel_rfl
 ·cases h)
abbrev iH:=Int×Int×List (Int×Int)×Int×Int×List Int
section
variable (y0 y1:Int)(y2:List (Int×Int))(y3 y4:Int)(y5:List Int)
def pH:List (Int×Int):= [(nxV (4:Int) y3 y4 y5,y1)]
def Bq:Bool:=ltI (0:Int) y0
def Br:Bool:=aq y3 y4 y5
def Bs:Bool:=leN (List.length y2 + List.length (pH y1 y3 y4 y5)) (9223372036854775807:Nat)
def Bt:Bool:=leN ((List.length y2 + List.length (pH y1 y3 y4 y5)) * (16:Nat)) (140737488355328:Nat)
def Bu:Bool:=aq (nxA (4:Int) y3 y5) (nxS (4:Int) y3 y4 y5) y5
def Bv:Int:=IntKind.wrap .i64 (y0 - (1:Int))
def Bw:Int:=IntKind.wrap .i64 (IntKind.wrap .i64 (y1 + (1:Int)) + nxV (3:Int) (nxA (4:Int) y3 y5) (nxS (4:Int) y3 y4 y5) y5)
def Bx:List (Int×Int):=y2++pH y1 y3 y4 y5
def Bz:Int:=nxA (3:Int) (nxA (4:Int) y3 y5) y5
def BA:Int:=nxS (3:Int) (nxA (4:Int) y3 y5) (nxS (4:Int) y3 y4 y5) y5
end
def YT:iH→List (Nat×SV)
 |(y0,y1,_,_,_,_)=> [(5,(.one ⟨false,[.val (.int .i64 y0)]⟩)),(3,(.one ⟨false,[.ref 0]⟩)),(0,(.one ⟨false,[.ptr 1 0]⟩)),(4,(.one ⟨false,[.val (.int .i64 y1)]⟩))]
def YP:iH→List (Nat×Entry)
 |(_,_,y2,y3,y4,y5)=> [(1,(.box 157 [.ref 2,.val (.int .i64 y3),.val (.int .i64 y4)])),(2,(.row false 5 ajC y5)),(0,(.row true 176 acH y2))]
def Zj:Nat→iH→List (Nat×SV)
 |_,(_,_,_,_,_,_)=> [(3,(.one ⟨false,[.ref 0]⟩))]
def Zf:Nat→iH→List (Nat×Entry)
 |_,(_,_,y2,y3,y4,y5)=> [(0,(.row true 176 acH y2)),(1,(.box 157 [.ref 2,.val (.int .i64 y3),.val (.int .i64 y4)])),(2,(.row false 5 ajC y5))]
def GE:iH→LT iH
 |(y0,y1,y2,y3,y4,y5)=> .ite (Bq y0) (.need [Br y3 y4 y5,Bs y1 y2 y3 y4 y5,Bt y1 y2 y3 y4 y5] (.need [Bu y3 y4 y5] (.nrm ((Bv y0),Bw y1 y3 y4 y5,Bx y1 y2 y3 y4 y5,Bz y3 y5,BA y3 y4 y5,y5) [(0,576),(1,1),(2,2)]))) (.ext 0 [(0,0),(1,1),(2,2)])
def GN(s:St):Option iH:=
 (match s.look 5 with
 |some ⟨none,.one ⟨false,[.val (.int .i64 y0)]⟩⟩=>
 (match s.look 3 with
 |some ⟨none,.one ⟨false,[.ref 256]⟩⟩=>
 (match s.look 0 with
 |some ⟨none,.one ⟨false,[.ptr 0 0]⟩⟩=>
 (match s.look 4 with
 |some ⟨none,.one ⟨false,[.val (.int .i64 y1)]⟩⟩=>
 (match s.ent 0 with
 |some (.box 157 [.ref 1,.val (.int .i64 y3),.val (.int .i64 y4)])=>
 (match s.ent 1 with
 |some (.row false 5 (.int IntKind.u8) y5)=>
 (match s.ent 256 with
 |some (.row true 176 (.pair (.int .i64) (.int .i64)) y2)=>
 some (y0,y1,y2,y3,y4,y5)
 |_=>none)
 |_=>none)
 |_=>none)
 |_=>none)
 |_=>none)
 |_=>none)
 |_=>none)
def fD:Lp iH where
 h:=⟨[13,14,17,18,19,20,21,22,23,3,24,25,26,27,28,4,15,16,5],[1,2],[0],[]⟩
 JL:=YT
 JE:=YP
 XL:=Zj
 XE:=Zf
 q:=fun j=>match j with | _=> .exit 0
 tags:= [0]
 lt:=GE
 fuel:=fun(y0,y1,y2,y3,y4,y5)=>y0.natAbs + y1.natAbs + y2.length + y3.natAbs + y4.natAbs + y5.length
 fix:=fun(_,_,_,_,_,y5) (y0,y1,y2,y3,y4,_)=>(y0,y1,y2,y3,y4,y5)
 σ:= [(1,0),(2,1),(0,256)]
 rd:=GN
theorem Wy:LoopOk prog (fun k=>Nat.blt k Tryz.f141.ntmps) fD.F (aL f141 0):=by
 refine Lp.ok (tbl:= [af,PF.lend af,PF.fz af,ai,PF.lend ai,PF.fz ai]) (lf:= []) aM fD (by kernel_rfl) (LOk.nil _) (fun _=>rfl) (fun _ _=>rfl) ?_ ?_ ?_ ?_ (fun _=>rfl) ?_
 ·rintro⟨y0,y1,y2,y3,y4,y5⟩;kernel_rfl
 ·rintro⟨y0,y1,y2,y3,y4,y5⟩;kernel_rfl
 ·intro s x h
  have h:GN s=some x:=h
  unfold GN at h
  repeat' split at h
  all_goals cases h
  exact⟨aa (by assumption) rfl (aa (by assumption) rfl (aa (by assumption) rfl (aa (by assumption) rfl (rfl)))),ab rfl (by assumption) rfl (ab rfl (by assumption) rfl (ab rfl (by assumption) rfl (rfl)))⟩
 ·rintro⟨y0,y1,y2,y3,y4,y5⟩;kernel_rfl
 ·rintro⟨y0,y1,y2,y3,y4,y5⟩ z;exact(And.intro rfl trivial)
abbrev iI:=Int×Int×Int×List (Int×Int)×List Int
section
variable (y0 y1 y2:Int)(y4:List Int)
def md:List (Int×Int):= [(y0,IntKind.wrap .i64 ((1:Int) + Int.tmod y0 (3:Int)))]
def vu:Bool:=aq y1 y2 y4
def vv:Bool:=ltI y0 (IntKind.wrap .i64 ((8:Int) + nxV (2:Int) y1 y2 y4))
end
def vz:Bool:=neI (3:Int) (0:Int)
section
variable (y0 y1 y2:Int)(y3:List (Int×Int))(y4:List Int)
def vA:Bool:=leN (List.length y3 + List.length (md y0)) (9223372036854775807:Nat)
def vB:Bool:=leN ((List.length y3 + List.length (md y0)) * (16:Nat)) (140737488355328:Nat)
def vC:Int:=IntKind.wrap .i64 (y0 + (1:Int))
def mX:Int:=nxA (2:Int) y1 y4
def mY:Int:=nxS (2:Int) y1 y2 y4
def vD:List (Int×Int):=y3++md y0
end
def YU:iI→List (Nat×SV)
 |(y0,_,_,_,_)=> [(6,(.one ⟨false,[.val (.int .i64 y0)]⟩)),(0,(.one ⟨false,[.ptr 0 0]⟩)),(3,(.one ⟨false,[.ref 1]⟩))]
def YQ:iI→List (Nat×Entry)
 |(_,y1,y2,y3,y4)=> [(0,(.box 157 [.ref 2,.val (.int .i64 y1),.val (.int .i64 y2)])),(2,(.row false 5 ajC y4)),(1,(.row true 176 acH y3))]
def Zk:Nat→iI→List (Nat×SV)
 |_,(_,_,_,_,_)=> [(3,(.one ⟨false,[.ref 1]⟩))]
def Zg:Nat→iI→List (Nat×Entry)
 |_,(_,y1,y2,y3,y4)=> [(0,(.box 157 [.ref 2,.val (.int .i64 (mX y1 y4)),.val (.int .i64 (mY y1 y2 y4))])),(1,(.row true 176 acH y3)),(2,(.row false 5 ajC y4))]
def GF:iI→LT iI
 |(y0,y1,y2,y3,y4)=> .need [vu y1 y2 y4] (.ite (vv y0 y1 y2 y4) (.need [vz,vA y0 y3,vB y0 y3] (.nrm ((vC y0),mX y1 y4,mY y1 y2 y4,vD y0 y3,y4) [(0,0),(1,832),(2,2)])) (.ext 0 [(0,0),(1,1),(2,2)]))
def GO(s:St):Option iI:=
 (match s.look 6 with
 |some ⟨none,.one ⟨false,[.val (.int .i64 y0)]⟩⟩=>
 (match s.look 0 with
 |some ⟨none,.one ⟨false,[.ptr 0 0]⟩⟩=>
 (match s.look 3 with
 |some ⟨none,.one ⟨false,[.ref 1280]⟩⟩=>
 (match s.ent 0 with
 |some (.box 157 [.ref 1,.val (.int .i64 y1),.val (.int .i64 y2)])=>
 (match s.ent 1 with
 |some (.row false 5 (.int IntKind.u8) y4)=>
 (match s.ent 1280 with
 |some (.row true 176 (.pair (.int .i64) (.int .i64)) y3)=>
 some (y0,y1,y2,y3,y4)
 |_=>none)
 |_=>none)
 |_=>none)
 |_=>none)
 |_=>none)
 |_=>none)
def fE:Lp iI where
 h:=⟨[46,47,48,49,50,53,54,55,56,57,58,59,60,3,51,52,6],[0,2],[1],[]⟩
 JL:=YU
 JE:=YQ
 XL:=Zk
 XE:=Zg
 q:=fun j=>match j with | _=> .exit 3
 tags:= [0]
 lt:=GF
 fuel:=fun(y0,y1,y2,y3,y4)=>y0.natAbs + y1.natAbs + y2.natAbs + y3.length + y4.length
 fix:=fun(_,_,_,_,y4) (y0,y1,y2,y3,_)=>(y0,y1,y2,y3,y4)
 σ:= [(0,0),(2,1),(1,1280)]
 rd:=GO
theorem Wz:LoopOk prog (fun k=>Nat.blt k Tryz.f141.ntmps) fE.F (aL f141 1):=by
 refine Lp.ok (tbl:= [af,PF.lend af,PF.fz af,ai,PF.lend ai,PF.fz ai]) (lf:= []) aM fE (by kernel_rfl) (LOk.nil _) (fun _=>rfl) (fun _ _=>rfl) ?_ ?_ ?_ ?_ (fun _=>rfl) ?_
 ·rintro⟨y0,y1,y2,y3,y4⟩;kernel_rfl
 ·rintro⟨y0,y1,y2,y3,y4⟩;kernel_rfl
 ·intro s x h
  have h:GO s=some x:=h
  unfold GO at h
  repeat' split at h
  all_goals cases h
  exact⟨aa (by assumption) rfl (aa (by assumption) rfl (aa (by assumption) rfl (rfl))),ab rfl (by assumption) rfl (ab rfl (by assumption) rfl (ab rfl (by assumption) rfl (rfl)))⟩
 ·rintro⟨y0,y1,y2,y3,y4⟩;kernel_rfl
 ·rintro⟨y0,y1,y2,y3,y4⟩ z;exact(And.intro rfl trivial)
section
variable (x0 x1:Int)(x2:List Int)
def mF:Int×Int×List (Int×Int)×Int×Int×List Int:=(nxV (5:Int) (nxA (3:Int) x0 x2) (nxS (3:Int) x0 x1 x2) x2,IntKind.wrap .i64 ((1:Int) + nxV (3:Int) x0 x1 x2),[],nxA (5:Int) (nxA (3:Int) x0 x2) x2,nxS (5:Int) (nxA (3:Int) x0 x2) (nxS (3:Int) x0 x1 x2) x2,x2)
def qv:List (Int×Int)×Int×Int×List Int:=(Lp.res fD (mF x0 x1 x2)).2.2.2
def jb:Int×Int×List Int:=(qv x0 x1 x2).2
def mG:Int:=((jb x0 x1 x2).2).1
def mH:Int:=nxV (40:Int) ((jb x0 x1 x2).1) (mG x0 x1 x2) x2
def cG:Bool:=mH x0 x1 x2==(0:Int)
def fy:Int:=nxA (40:Int) ((jb x0 x1 x2).1) x2
def km:Int:=pkA (fy x0 x1 x2) [(-1:Int),(0:Int),(23:Int),(24:Int)] x2
def gU:Bool:=mH x0 x1 x2==(1:Int)
def gV:Int:=nxS (40:Int) ((jb x0 x1 x2).1) (mG x0 x1 x2) x2
def ld:Int×Int×Int×List (Int×Int)×List Int:=((0:Int),fy x0 x1 x2,gV x0 x1 x2,[],x2)
def oE:Int×Int×List (Int×Int)×List Int:=(Lp.res fE (ld x0 x1 x2)).2.2
def oF:Int:=(oE x0 x1 x2).1
def iq:Bool:=mH x0 x1 x2==(2:Int)
def lg:Int:=pkS (fy x0 x1 x2) (gV x0 x1 x2) [(-1:Int),(0:Int),(23:Int),(24:Int)] x2
def oG:Int×List (Int×Int)×List Int:=(oE x0 x1 x2).2
def ct:List (Int×Int):=(qv x0 x1 x2).1
def lh:List (Int×Int):= [(pkV (fy x0 x1 x2) (gV x0 x1 x2) [(-1:Int),(0:Int),(23:Int),(24:Int)] x2,pkV (km x0 x1 x2) (lg x0 x1 x2) [(0:Int),(999:Int),(1000:Int)] x2)]
def lx:Int:=bif cG x0 x1 x2 then pkA (km x0 x1 x2) [(0:Int),(999:Int),(1000:Int)] x2 else bif gU x0 x1 x2 then mX (oF x0 x1 x2) x2 else bif iq x0 x1 x2 then fy x0 x1 x2 else fy x0 x1 x2
def ly:Int:=bif cG x0 x1 x2 then pkS (km x0 x1 x2) (lg x0 x1 x2) [(0:Int),(999:Int),(1000:Int)] x2 else bif gU x0 x1 x2 then mY (oF x0 x1 x2) ((oG x0 x1 x2).1) x2 else bif iq x0 x1 x2 then gV x0 x1 x2 else gV x0 x1 x2
def lz:List (Int×Int):=bif cG x0 x1 x2 then ct x0 x1 x2++lh x0 x1 x2 else bif gU x0 x1 x2 then ((oG x0 x1 x2).2).1else bif iq x0 x1 x2 then ct x0 x1 x2++ct x0 x1 x2 else ct x0 x1 x2
def sb:Bool:=allT [aq x0 x1 x2,aq (nxA (3:Int) x0 x2) (nxS (3:Int) x0 x1 x2) x2,Lp.fin fD (mF x0 x1 x2),aq ((jb x0 x1 x2).1) (mG x0 x1 x2) x2,!cG x0 x1 x2||aq (fy x0 x1 x2) (gV x0 x1 x2) x2&&leN (1:Nat) (List.length [(-1:Int),(0:Int),(23:Int),(24:Int)]),!cG x0 x1 x2||aq (km x0 x1 x2) (lg x0 x1 x2) x2&&leN (1:Nat) (List.length [(0:Int),(999:Int),(1000:Int)]),!cG x0 x1 x2||leN (List.length (ct x0 x1 x2) + List.length (lh x0 x1 x2)) (9223372036854775807:Nat),!cG x0 x1 x2||leN ((List.length (ct x0 x1 x2) + List.length (lh x0 x1 x2)) * (16:Nat)) (140737488355328:Nat),cG x0 x1 x2||(!gU x0 x1 x2||Lp.fin fE (ld x0 x1 x2)),cG x0 x1 x2||(gU x0 x1 x2||(!iq x0 x1 x2||leN (List.length (ct x0 x1 x2) + List.length (ct x0 x1 x2)) (9223372036854775807:Nat))),cG x0 x1 x2||(gU x0 x1 x2||(!iq x0 x1 x2||leN ((List.length (ct x0 x1 x2) + List.length (ct x0 x1 x2)) * (16:Nat)) (140737488355328:Nat)))]
end
def TL:List SV→List Entry→Option Out
 | [.one ⟨false,[.ptr 0 0]⟩],[.box 157 [.ref 1,.val (.int .i64 x0),.val (.int .i64 x1)],.row false 5 (.int .u8) x2]=>some ⟨.one ⟨false,[.ref 2]⟩,[.box 157 [.ref 1,.val (.int .i64 (lx x0 x1 x2)),.val (.int .i64 (ly x0 x1 x2))],.row false 5 ajC x2],[.row true 176 acH (lz x0 x1 x2)],[sb x0 x1 x2]⟩
 |_,_=>none
def aee:PF prog:=PF.ofG prog [af,PF.lend af,PF.fz af,ai,PF.lend ai,PF.fz ai] [fD.F,fE.F] aM 141 f141 func141 (LOk.fnT (l:= [aL f141 0,aL f141 1]) (by kernel_rfl) (.cons Wy (.cons Wz (.nil _)))) TL (by
 intro vs es r h;unfold TL at h;split at h
 ·cases h;kernel_rfl
 ·cases h)
abbrev oK:=Int×Int×List Int
section
variable (y0 y1:Int)(y2:List Int)
def QP:Bool:=ltI (0:Int) y0
def QQ:Bool:=leN (List.length y2 + List.length [y1]) (9223372036854775807:Nat)
def QR:Bool:=leN ((List.length y2 + List.length [y1]) * (8:Nat)) (140737488355328:Nat)
def QS:Int:=IntKind.wrap .i64 (y0 - (1:Int))
def QT:List Int:=y2++ [y1]
end
def ae4:oK→List (Nat×SV)
 |(y0,y1,_)=> [(0,(.one ⟨false,[.val (.int .i64 y0)]⟩)),(5,(.one ⟨false,[.ref 0]⟩)),(1,(.one ⟨false,[.val (.int .i64 y1)]⟩))]
def aeX:oK→List (Nat×Entry)
 |(_,_,y2)=> [(0,(.row true 2 aiQ y2))]
def afi:Nat→oK→List (Nat×SV)
 |_,(_,_,_)=> [(5,(.one ⟨false,[.ref 0]⟩))]
def afb:Nat→oK→List (Nat×Entry)
 |_,(_,_,y2)=> [(0,(.row true 2 aiQ y2))]
def Ob:oK→LT oK
 |(y0,y1,y2)=> .ite (QP y0) (.need [QQ y1 y2,QR y1 y2] (.nrm ((QS y0),y1,(QT y1 y2)) [(0,384)])) (.ext 0 [(0,0)])
def Om(s:St):Option oK:=
 (match s.look 0 with
 |some ⟨none,.one ⟨false,[.val (.int .i64 y0)]⟩⟩=>
 (match s.look 5 with
 |some ⟨none,.one ⟨false,[.ref 128]⟩⟩=>
 (match s.look 1 with
 |some ⟨none,.one ⟨false,[.val (.int .i64 y1)]⟩⟩=>
 (match s.ent 128 with
 |some (.row true 2 (.int .i64) y2)=>
 some (y0,y1,y2)
 |_=>none)
 |_=>none)
 |_=>none)
 |_=>none)
def kC:Lp oK where
 h:=⟨[7,8,11,12,13,14,5,9,10,0],[],[0],[]⟩
 JL:=ae4
 JE:=aeX
 XL:=afi
 XE:=afb
 q:=fun j=>match j with | _=> .exit 0
 tags:= [0]
 lt:=Ob
 fuel:=fun(y0,y1,y2)=>y0.natAbs + y1.natAbs + y2.length
 fix:=fun(_,y1,_) (y0,_,y2)=>(y0,y1,y2)
 σ:= [(0,128)]
 rd:=Om
theorem acV:LoopOk prog (fun k=>Nat.blt k Tryz.f74.ntmps) kC.F (aL f74 0):=by
 refine Lp.ok (tbl:= []) (lf:= []) aM kC (by kernel_rfl) (LOk.nil _) (fun _=>rfl) (fun _ _=>rfl) ?_ ?_ ?_ ?_ (fun _=>rfl) ?_
 ·rintro⟨y0,y1,y2⟩;kernel_rfl
 ·rintro⟨y0,y1,y2⟩;kernel_rfl
 ·intro s x h
  have h:Om s=some x:=h
  unfold Om at h
  repeat' split at h
  all_goals cases h
  exact⟨aa (by assumption) rfl (aa (by assumption) rfl (aa (by assumption) rfl (rfl))),ab rfl (by assumption) rfl (rfl)⟩
 ·rintro⟨y0,y1,y2⟩;kernel_rfl
 ·rintro⟨y0,y1,y2⟩ z;exact(And.intro rfl trivial)
section
variable (x0 x1:Int)
def Av:Int×Int×List Int:=(x0,x1,[])
def qI:List Int:=(Lp.res kC (Av x0 x1)).2.2.2
def Hs:Bool:=allT [Lp.fin kC (Av x0 x1)]
end
def ab1:List SV→List Entry→Option Out
 | [.one ⟨false,[.val (.int .i64 x0)]⟩,.one ⟨false,[.val (.int .i64 x1)]⟩],[]=>some ⟨.one ⟨false,[.ref 0]⟩,[],[.row true 2 aiQ (qI x0 x1)],[Hs x0 x1]⟩
 |_,_=>none
def ake:PF prog:=PF.ofG prog [] [kC.F] aM 74 f74 func74 (LOk.fnT (l:= [aL f74 0]) (by kernel_rfl) (.cons acV (.nil _))) ab1 (by
 intro vs es r h;unfold ab1 at h;split at h
 ·cases h;kernel_rfl
 ·cases h)
section
variable (x0 x1 x2:Int)(x3:List Int)
def vV:Bool:=ltI (nxV (4:Int) x1 x2 x3) (2:Int)
def gH:Int:=bif vV x1 x2 x3 then nxA x0 (nxA (4:Int) x1 x3) x3 else nxA (4:Int) x1 x3
def Gs:Int:=bif vV x1 x2 x3 then nxS x0 (nxA (4:Int) x1 x3) (nxS (4:Int) x1 x2 x3) x3 else nxS (4:Int) x1 x2 x3
def MO:Int:=nxV (40:Int) (gH x0 x1 x2 x3) (Gs x0 x1 x2 x3) x3
def rZ:Bool:=MO x0 x1 x2 x3==(0:Int)
def sa:Int:=nxS (40:Int) (gH x0 x1 x2 x3) (Gs x0 x1 x2 x3) x3
def vW:Bool:=MO x0 x1 x2 x3==(1:Int)
def MP:Int:=bif vV x1 x2 x3 then nxV (4:Int) x1 x2 x3 else nxV (4:Int) x1 x2 x3
def MQ:Int:=bif vV x1 x2 x3 then nxV x0 (nxA (4:Int) x1 x3) (nxS (4:Int) x1 x2 x3) x3 else(0:Int)
def AY:List Int:= [(-1:Int),x0,(1:Int)]
def LB:Bool:=aq (nxA (40:Int) (gH x0 x1 x2 x3) x3) (sa x0 x1 x2 x3) x3
def IV:Int:=bif rZ x0 x1 x2 x3 then pkV (nxA (40:Int) (gH x0 x1 x2 x3) x3) (sa x0 x1 x2 x3) [(-1:Int),(4:Int),(2:Int)] x3 else bif vW x0 x1 x2 x3 then MP x1 x2 x3 else MP x1 x2 x3
def IW:Int:=bif rZ x0 x1 x2 x3 then MQ x0 x1 x2 x3 else bif vW x0 x1 x2 x3 then pkV (nxA (40:Int) (gH x0 x1 x2 x3) x3) (sa x0 x1 x2 x3) (AY x0) x3 else MQ x0 x1 x2 x3
def Dw:Int:=bif rZ x0 x1 x2 x3 then pkA (nxA (40:Int) (gH x0 x1 x2 x3) x3) [(-1:Int),(4:Int),(2:Int)] x3 else bif vW x0 x1 x2 x3 then pkA (nxA (40:Int) (gH x0 x1 x2 x3) x3) (AY x0) x3 else nxA (40:Int) (gH x0 x1 x2 x3) x3
def Dx:Int:=bif rZ x0 x1 x2 x3 then pkS (nxA (40:Int) (gH x0 x1 x2 x3) x3) (sa x0 x1 x2 x3) [(-1:Int),(4:Int),(2:Int)] x3 else bif vW x0 x1 x2 x3 then pkS (nxA (40:Int) (gH x0 x1 x2 x3) x3) (sa x0 x1 x2 x3) (AY x0) x3 else sa x0 x1 x2 x3
def Oz:Bool:=allT [aq x1 x2 x3,!vV x1 x2 x3||aq (nxA (4:Int) x1 x3) (nxS (4:Int) x1 x2 x3) x3,aq (gH x0 x1 x2 x3) (Gs x0 x1 x2 x3) x3,!rZ x0 x1 x2 x3||LB x0 x1 x2 x3&&leN (1:Nat) (List.length [(-1:Int),(4:Int),(2:Int)]),rZ x0 x1 x2 x3||(!vW x0 x1 x2 x3||LB x0 x1 x2 x3&&leN (1:Nat) (List.length (AY x0)))]
end
def Us:List SV→List Entry→Option Out
 | [.one ⟨false,[.ptr 0 0]⟩,.one ⟨false,[.val (.int .i64 x0)]⟩],[.box 157 [.ref 1,.val (.int .i64 x1),.val (.int .i64 x2)],.row false 5 (.int .u8) x3]=>some ⟨.one ⟨true,[.val (.int .i64 (IV x0 x1 x2 x3)),.val (.int .i64 (IW x0 x1 x2 x3))]⟩,[.box 157 [.ref 1,.val (.int .i64 (Dw x0 x1 x2 x3)),.val (.int .i64 (Dx x0 x1 x2 x3))],.row false 5 ajC x3],[],[Oz x0 x1 x2 x3]⟩
 |_,_=>none
def afE:PF prog:=PF.ofG prog [af,PF.lend af,PF.fz af,ai,PF.lend ai,PF.fz ai] [] aM 142 f142 func142 (fun c _=>LOk.nil c) Us (by
 intro vs es r h;unfold Us at h;split at h
 ·cases h;kernel_rfl
 ·cases h)
section
variable (x0 x1:Int)(x2:List Int)
def wk:Int:=pkA (nxA (10:Int) x0 x2) [(0:Int),(1:Int),(2:Int),(3:Int),(3:Int)] x2
def NM:Int:=pkS (nxA (10:Int) x0 x2) (nxS (10:Int) x0 x1 x2) [(0:Int),(1:Int),(2:Int),(3:Int),(3:Int)] x2
def NN:Int:=nxS (3:Int) (wk x0 x2) (NM x0 x1 x2) x2
def TA:Int:=nxV (60:Int) (nxA (3:Int) (wk x0 x2) x2) (NN x0 x1 x2) x2
def wl:Bool:=TA x0 x1 x2==(0:Int)
def qT:Int:=nxA (60:Int) (nxA (3:Int) (wk x0 x2) x2) x2
def wm:Int:=nxS (60:Int) (nxA (3:Int) (wk x0 x2) x2) (NN x0 x1 x2) x2
def As:Bool:=TA x0 x1 x2==(1:Int)
def TB:Int:=pkV (nxA (10:Int) x0 x2) (nxS (10:Int) x0 x1 x2) [(0:Int),(1:Int),(2:Int),(3:Int),(3:Int)] x2
def NO:Bool:=ltI (0:Int) (nxV (3:Int) (wk x0 x2) (NM x0 x1 x2) x2)
def QF:Int:=bif wl x0 x1 x2 then pkV (qT x0 x2) (wm x0 x1 x2) [(-1:Int),(10:Int)] x2 else bif As x0 x1 x2 then nxV (10:Int) x0 x1 x2 else nxV (10:Int) x0 x1 x2
def QG:Int:=bif wl x0 x1 x2 then TB x0 x1 x2 else bif As x0 x1 x2 then pkV (qT x0 x2) (wm x0 x1 x2) [(-1:Int),(4:Int)] x2 else TB x0 x1 x2
def QH:Bool:=bif wl x0 x1 x2 then NO x0 x1 x2 else bif As x0 x1 x2 then NO x0 x1 x2 else NO x0 x1 x2
def LE:Int:=bif wl x0 x1 x2 then pkA (qT x0 x2) [(-1:Int),(10:Int)] x2 else bif As x0 x1 x2 then pkA (qT x0 x2) [(-1:Int),(4:Int)] x2 else qT x0 x2
def LF:Int:=bif wl x0 x1 x2 then pkS (qT x0 x2) (wm x0 x1 x2) [(-1:Int),(10:Int)] x2 else bif As x0 x1 x2 then pkS (qT x0 x2) (wm x0 x1 x2) [(-1:Int),(4:Int)] x2 else wm x0 x1 x2
def VW:Bool:=allT [aq x0 x1 x2,aq (nxA (10:Int) x0 x2) (nxS (10:Int) x0 x1 x2) x2&&leN (1:Nat) (List.length [(0:Int),(1:Int),(2:Int),(3:Int),(3:Int)]),aq (wk x0 x2) (NM x0 x1 x2) x2,aq (nxA (3:Int) (wk x0 x2) x2) (NN x0 x1 x2) x2,!wl x0 x1 x2||aq (qT x0 x2) (wm x0 x1 x2) x2&&leN (1:Nat) (List.length [(-1:Int),(10:Int)]),wl x0 x1 x2||(!As x0 x1 x2||aq (qT x0 x2) (wm x0 x1 x2) x2&&leN (1:Nat) (List.length [(-1:Int),(4:Int)]))]
end
def abS:List SV→List Entry→Option Out
 | [.one ⟨false,[.ptr 0 0]⟩],[.box 157 [.ref 1,.val (.int .i64 x0),.val (.int .i64 x1)],.row false 5 (.int .u8) x2]=>some ⟨.one ⟨true,[.val (.int .i64 (QF x0 x1 x2)),.val (.int .i64 (QG x0 x1 x2)),.val (.bool (QH x0 x1 x2))]⟩,[.box 157 [.ref 1,.val (.int .i64 (LE x0 x1 x2)),.val (.int .i64 (LF x0 x1 x2))],.row false 5 ajC x2],[],[VW x0 x1 x2]⟩
 |_,_=>none
def aj9:PF prog:=PF.ofG prog [af,PF.lend af,PF.fz af,ai,PF.lend ai,PF.fz ai] [] aM 143 f143 func143 (fun c _=>LOk.nil c) abS (by
 intro vs es r h;unfold abS at h;split at h
 ·cases h;kernel_rfl
 ·cases h)
theorem Lp.inv{X:Type}(p:Lp X)(I Q:Nat→X→Prop)
  (hs: ∀ k x,I (k + 1) x→(∃ j,(p.lt x).out=some (.inl j)∧Q j x)∨ ∃ y,(p.lt x).out=some (.inr y)∧I k y)
  (he: ∀ x,I 0 x→ ∃ j,(p.lt x).out=some (.inl j)∧Q j x) (N:Nat) (x:X) (hN:N≤999) (h:I N x):
  p.fin x=true∧ ∃ j y,p.res x=(j,y)∧Q j y:=by
 have ez: ∀ (k:Nat) (x:X),I k x→ ∃ j y,Rd p.lt (k + 1) x=some (j,y)∧Q j y:=by
  intro k
  induction k with
  |zero=>
   intro x h
   obtain⟨j,h1,h2⟩:=he x h
   exact⟨j,x,ag8 _ h1,h2⟩
  |succ k ih=>
   intro x h
   rcases hs k x h with⟨j,h1,h2⟩ | ⟨y,h1,h2⟩
   ·exact⟨j,x,ag8 _ h1,h2⟩
   ·obtain⟨j,z,h3,h4⟩:=ih y h2
    exact⟨j,z,by rw [alp _ h1];exact h3,h4⟩
 obtain⟨j,y,h1,h2⟩:=ez N x h
 obtain⟨r1,r2⟩:=p.run h1 (an1 (by omega))
 exact⟨r1,j,y,r2,h2⟩
theorem fk{n a s:Int}{c:List Int}(h:aq a s c=true):aq (nxA n a c) (nxS n a s c) c=true:=(agU n h).2.1
theorem oH{a s x:Int}{l c:List Int}(h:aq a s c=true):aq (pkA a (x::l) c) (pkS a s (x::l) c) c=true:=(aoQ (l:=x::l) (by rw [h];rfl)).2.1
theorem Vm{n a s:Int}{c:List Int}(h:aq a s c=true)(hn:1≤n):0≤nxV n a s c∧nxV n a s c < n:=⟨(agU n h).2.2.1,(agU n h).2.2.2 hn⟩
theorem rf{C:Type}(x:C)(l:List C):leN 1 (x::l).length=true:=br (by simp)
theorem apO(c:List Int)(bl:Int)(hbl:bl≠0)(K:Nat)(hK:K≤100)(p a s:Int)(h:aq a s c=true):
  ir.fin ((K:Int),p,bl,a,s,[],c)=true∧ ∃ j y,ir.res ((K:Int),p,bl,a,s,[],c)=(j,y)∧aq y.2.2.2.1 y.2.2.2.2.1 c=true∧y.2.2.2.2.2.1.length=K:=by
 refine ir.inv (fun k x=>x.1=(k:Int)∧x.2.2.1=bl∧aq x.2.2.2.1 x.2.2.2.2.1 c=true∧x.2.2.2.2.2.1.length + k=K∧x.2.2.2.2.2.2=c) (fun _ y=>aq y.2.2.2.1 y.2.2.2.2.1 c=true∧y.2.2.2.2.2.1.length=K)
  (fun k x hx=> .inr ?_) (fun x hx=> ?_) K _ (by omega) ⟨rfl,rfl,h,by simp,rfl⟩
 ·obtain⟨y0,y1,y2,y3,y4,y5,y6⟩:=x
  obtain⟨h0,h1,h2,h3,h4⟩:=hx
  simp only at h0 h1 h2 h3 h4
  subst h0 h1 h4
  have t1:ltI 0 ((k + 1:Nat):Int)=true:=fj (by omega)
  have t2:neI y2 0=true:=aiE hbl
  have t3:neI 2 0=true:=by decide
  have t4:=oH (x:=0) (l:= [1,1,2]) h2
  have t5:leN (y5.length + 1) 9223372036854775807=true:=br (by omega)
  have t6:leN ((y5.length + 1) * 8) 140737488355328=true:=br (by omega)
  have t7:=rf (0:Int) [1,1,2]
  refine⟨?_,?_,?_⟩
  rotate_left
  ·simp only [ir,NY,LT.out,allT,Qy,Xk,Xl,Xm,Xn,Qz,Xo,Dq,Dr,IR,List.length_singleton,t1,t2,t3,t4,t5,t6,t7,h2,cond_true,Bool.and_self]
   rfl
  ·have s9:aq (Xq y3 y6) (VP y3 y4 y6) y6=true:=fk (n:=3) t4
   refine⟨?_,rfl,s9,?_,rfl⟩
   ·simp only [Xp];rw [ag (by omega) (by omega)];omega
   ·simp only [VQ,Dq,List.length_append,List.length_singleton];omega
 ·obtain⟨y0,y1,y2,y3,y4,y5,y6⟩:=x
  obtain⟨h0,h1,h2,h3,h4⟩:=hx
  simp only at h0 h1 h2 h3 h4
  subst h0 h1 h4
  exact⟨0,by simp [ir,NY,LT.out,Qy],h2,by simpa using h3⟩
theorem ajH(a s:Int)(c:List Int)(h:aq a s c=true):
  VO a s c=true∧aq (lY a s c) (yV a s c) c=true∧(qt a s c).length≤9:=by
 have n1:=Vm (n:=5) h (by omega)
 have s1:=fk (n:=5) h
 have a0:ce a s c=2 + nxV 5 a s c:=by simp only [ce];rw [ag (by omega) (by omega)]
 have s2:=fk (n:=ce a s c) s1
 have a1:2≤jo a s c∧jo a s c≤4:=by
  simp only [jo,aja]
  cases hl:ltI (ce a s c) 4 with
  |true=>have:=ay.1 hl;simp only [cond_true];omega
  |false=>simp
 have n2:=Vm (n:=jo a s c) s2 (by omega)
 have s3:=fk (n:=jo a s c) s2
 obtain⟨r1,j,y,r2,r3,r4⟩:=apO c (ce a s c) (by omega) (1 + nxV (jo a s c) (lD a s c) (qS a s c) c).toNat
  (by simp only [lD,qS];omega) (nxV (ce a s c) (nxA 5 a c) (nxS 5 a s c) c) _ _ s3
 have e4:Ee a s c=(((1 + nxV (jo a s c) (lD a s c) (qS a s c) c).toNat:Int),nxV (ce a s c) (nxA 5 a c) (nxS 5 a s c) c,ce a s c,
   nxA (jo a s c) (lD a s c) c,nxS (jo a s c) (lD a s c) (qS a s c) c,[],c):=by
  simp only [Ee,lD,qS]
  rw [ag (by omega) (by omega)]
  rw [show (((1 + nxV (jo a s c) (nxA (ce a s c) (nxA 5 a c) c) (nxS (ce a s c) (nxA 5 a c) (nxS 5 a s c) c) c).toNat:Nat):Int)=1 + nxV (jo a s c) (nxA (ce a s c) (nxA 5 a c) c) (nxS (ce a s c) (nxA 5 a c) (nxS 5 a s c) c) c by omega]
 have f1:Lp.fin ir (Ee a s c)=true:=by rw [e4];exact r1
 have f2:Lp.res ir (Ee a s c)=(j,y):=by rw [e4];exact r2
 have g6:cf a s c=y.2.2.2.1:=by simp only [cf,Jw,f2]
 have g7:(wj a s c).1=y.2.2.2.2.1:=by simp only [wj,Jw,f2]
 have g16:ma a s c=y.2.2.2.2.2.1:=by simp only [ma,wj,Jw,f2]
 have s4:aq (cf a s c) ((wj a s c).1) c=true:=by rw [g6,g7];exact r3
 have s5:=fk (n:=40) s4
 have n5:=Vm (n:=2) s5 (by omega)
 have hK:1≤(ma a s c).length∧(ma a s c).length≤4:=by
  rw [g16,r4];simp only [lD,qS];omega
 have a17:4≤jU a s c∧jU a s c≤5:=by
  simp only [jU,jg];rw [ag (by omega) (by omega)];omega
 have t1:ltI 0 (((ma a s c).length:Nat):Int)=true:=fj (by omega)
 have t2:ltN 0 (ma a s c).length=true:=gp (by omega)
 have t3:leI 0 (jU a s c)=true:=da (by omega)
 have t4:leI ((8:Nat) * jU a s c) 281474976710656=true:=da (by omega)
 have t5:leI (jU a s c) 9223372036854775807=true:=da (by omega)
 have a18:Mt a s c=true:=s5
 have s2':aq (lD a s c) (qS a s c) c=true:=s2
 refine⟨?_,?_,?_⟩
 ·simp only [VO,allT,h,s1,s2',f1,s4,a18,Cb,rf,t1,t2,t3,t4,t5,agL,Int.toNat_zero,Bool.or_true,Bool.and_self,cond_true]
 ·have s5':aq (nxA 40 (cf a s c) c) (jg a s c) c=true:=s5
  have hnx: ∀ n,aq (nxA n (nxA 40 (cf a s c) c) c) (nxS n (nxA 40 (cf a s c) c) (jg a s c) c) c=true:=fun n=>fk s5'
  have hpk: ∀ x l,aq (pkA (nxA 40 (cf a s c) c) (x::l) c) (pkS (nxA 40 (cf a s c) c) (jg a s c) (x::l) c) c=true:=fun x l=>oH s5'
  simp only [lY,yV,Cb]
  cases gG a s c <;> cases gn a s c <;> cases lZ a s c <;> cases Ca a s c <;> simp only [cond_true,cond_false,s5',hnx,hpk]
 ·simp only [qt]
  cases gG a s c <;> cases gn a s c <;> cases lZ a s c <;> cases Ca a s c <;> simp only [cond_true,cond_false,List.length_set,List.length_replicate,List.length_nil] <;> omega
def ach:List SV→List Entry→Option Out
 | [.one ⟨false,[.ptr 0 0]⟩],[.box 157 [.ref 1,.val (.int .i64 x0),.val (.int .i64 x1)],.row false 5 (.int .u8) x2]=>some ⟨.one ⟨true,[.val (.int .i64 (jr x0 x1 x2)),.ref 2]⟩,[.box 157 [.ref 1,.val (.int .i64 (lY x0 x1 x2)),.val (.int .i64 (yV x0 x1 x2))],.row false 5 ajC x2],[.row true 2 aiQ (qt x0 x1 x2)],[aq x0 x1 x2]⟩
 |_,_=>none
def uY:PF prog:=PF.alt aj5 ach (by
 intro args es o h bK;unfold ach at h;split at h
 ·rename_i x0 x1 x2
  cases h
  have bK:=iu bK
  have hh:=(ajH x0 x1 x2 bK).1
  have en:=hh
  exact kU rfl (gZ en) rfl rfl rfl
 ·cases h)
theorem alJ(c:List Int)(bl a s:Int)(h:aq a s c=true):
  cg.fin ((0:Int),bl,a,s,[],c)=true∧ ∃ j y,cg.res ((0:Int),bl,a,s,[],c)=(j,y)∧aq y.2.2.1 y.2.2.2.1 c=true∧y.2.2.2.2.1.length≤14:=by
 refine cg.inv (fun k x=>x.1=7 - (k:Int)∧k≤7∧aq x.2.2.1 x.2.2.2.1 c=true∧x.2.2.2.2.1.length + 2 * k≤14∧x.2.2.2.2.2=c) (fun _ y=>aq y.2.2.1 y.2.2.2.1 c=true∧y.2.2.2.2.1.length≤14)
  (fun k x hx=> ?_) (fun x hx=> ?_) 7 _ (by omega) ⟨by simp,by omega,h,by simp,rfl⟩
 ·obtain⟨y0,y1,y2,y3,y4,y5⟩:=x
  obtain⟨h0,h1,h2,h3,h4⟩:=hx
  simp only at h0 h1 h2 h3 h4
  subst h4
  have s1:=fk (n:=6) h2
  have s2:=fk (n:=2) s1
  have s3:=fk (n:=4) s1
  have s2':aq (sL y2 y5) (xS y2 y3 y5) y5=true:=s2
  have s3':aq (nK y2 y5) (sN y2 y3 y5) y5=true:=s3
  have sA:aq (Nn y2 y5) (Np y2 y3 y5) y5=true:=fk (n:=2) s2
  have sB:aq (Nt y2 y5) (Nu y2 y3 y5) y5=true:=fk (n:=3) s3
  have sC:aq (Nw y2 y5) (Nx y2 y3 y5) y5=true:=s3
  have sD:aq (Ny y2 y5) (Nz y2 y3 y5) y5=true:=s1
  have hw:IntKind.i64.wrap (y0 + 1)=y0 + 1:=ag (by omega) (by omega)
  have t3:neI 2 0=true:=by decide
  have t5:leN (y4.length + 1) 9223372036854775807=true:=br (by omega)
  have t6:leN ((y4.length + 1) * 24) 140737488355328=true:=br (by omega)
  have t7:leN (y4.length + 2) 9223372036854775807=true:=br (by omega)
  have t8:leN ((y4.length + 2) * 24) 140737488355328=true:=br (by omega)
  cases hc:Hj y0 y1 with
  |false=>exact .inl ⟨0,by simp [cg,xO,LT.out,hc],h2,by simp only;omega⟩
  |true=>
   right
   cases c0:dE y2 y3 y5 <;> cases c5:kG y2 y3 y5 <;> cases c6:nJ y2 y3 y5
   all_goals
    refine⟨?_,?_,?_⟩
    rotate_left
    ·simp only [cg,xO,LT.out,allT,hc,OR,OS,OT,OU,OV,OW,OX,OY,OZ,Nk,Nl,Nr,Ns,FJ,sM,sO,List.length_cons,List.length_nil,Nat.zero_add,Nat.reduceAdd,c0,c5,c6,h2,s1,s2',s3',t3,t5,t6,t7,t8,cond_true,cond_false,Bool.or_true,Bool.true_or,Bool.or_false,Bool.not_true,Bool.not_false,Bool.and_self]
     try rfl
    ·refine⟨?_,by omega,?_,?_,rfl⟩
     ·simp only [sK,hw];omega
     ·simp only [sA,sB,sC,sD]
     ·simp only [Nq,Nv,sM,sO,List.length_append,List.length_cons,List.length_nil];omega
 ·obtain⟨y0,y1,y2,y3,y4,y5⟩:=x
  obtain⟨h0,h1,h2,h3,h4⟩:=hx
  simp only at h0 h1 h2 h3 h4
  have t1:ltI y0 7=false:=aiu (by omega)
  refine⟨0,?_,h2,by simp only;omega⟩
  simp only [cg,xO,LT.out,Hj,t1]
  cases ltI y0 y1 <;> rfl
theorem alK(c:List Int)(a s:Int)(h:aq a s c=true):
  ci.fin ((0:Int),a,s,[],c)=true∧ ∃ j y,ci.res ((0:Int),a,s,[],c)=(j,y)∧aq y.2.1 y.2.2.1 c=true∧y.2.2.2.1.length≤14:=by
 refine ci.inv (fun k x=>x.1=9 - (k:Int)∧k≤9∧aq x.2.1 x.2.2.1 c=true∧x.2.2.2.1.length + k≤9∧x.2.2.2.2=c) (fun _ y=>aq y.2.1 y.2.2.1 c=true∧y.2.2.2.1.length≤14)
  (fun k x hx=> ?_) (fun x hx=> ?_) 9 _ (by omega) ⟨by simp,by omega,h,by simp,rfl⟩
 ·obtain⟨y0,y1,y2,y3,y4⟩:=x
  obtain⟨h0,h1,h2,h3,h4⟩:=hx
  simp only at h0 h1 h2 h3 h4
  subst h4
  have s1:=fk (n:=2) h2
  have hw:IntKind.i64.wrap (y0 + 1)=y0 + 1:=ag (by omega) (by omega)
  have t3:neI 2 0=true:=by decide
  have t5:leN (y3.length + 1) 9223372036854775807=true:=br (by omega)
  have t6:leN ((y3.length + 1) * 24) 140737488355328=true:=br (by omega)
  cases hc:zR y0 y1 y2 y4 with
  |false=>exact .inl ⟨0,by simp [ci,xP,LT.out,hc,allT,zQ,h2],h2,by simp only;omega⟩
  |true=>
   right
   refine⟨?_,?_,?_⟩
   rotate_left
   ·simp only [ci,xP,LT.out,allT,hc,zQ,Hk,Pa,Pb,sP,List.length_singleton,h2,t3,t5,t6,cond_true]
    rfl
   ·refine⟨?_,by omega,s1,?_,rfl⟩
    ·simp only [Pc,hw];omega
    ·simp only [Pf,sP,List.length_append,List.length_singleton];omega
 ·obtain⟨y0,y1,y2,y3,y4⟩:=x
  obtain⟨h0,h1,h2,h3,h4⟩:=hx
  simp only at h0 h1 h2 h3 h4
  subst h4
  have n1:=Vm (n:=2) h2 (by omega)
  have t1:zR y0 y1 y2 y4=false:=by
   simp only [zR];rw [ag (by omega) (by omega)];exact aiu (by omega)
  exact⟨0,by simp [ci,xP,LT.out,t1,allT,zQ,h2],h2,by simp only;omega⟩
theorem aeC(bl a s:Int)(c:List Int)(h:aq a s c=true):
  LA bl a s c=true∧aq (zi bl a s c) (zj bl a s c) c=true∧(zk bl a s c).length≤15:=by
 obtain⟨r1,j,y,r2,r3,r4⟩:=alJ c bl a s h
 have f1:Lp.fin cg (DN bl a s c)=true:=r1
 have f2:Lp.res cg (DN bl a s c)=(j,y):=r2
 have g3:dB bl a s c=y.2.2.1:=by simp only [dB,wO,f2]
 have g5:sw bl a s c=y.2.2.2.1:=by simp only [sw,DO,wO,f2]
 have g19:kd bl a s c=y.2.2.2.2.1:=by simp only [kd,DO,wO,f2]
 have s1:aq (dB bl a s c) (sw bl a s c) c=true:=by rw [g3,g5];exact r3
 have s2:aq (nxA 40 (dB bl a s c) c) (ro bl a s c) c=true:=fk s1
 have s3:aq (wQ bl a s c) (Bo bl a s c) c=true:=oH s2
 have s4:aq (vr bl a s c) (Bp bl a s c) c=true:=oH s3
 obtain⟨q1,j',z,q2,q3,q4⟩:=alK c _ _ s2
 have f3:Lp.fin ci (Bm bl a s c)=true:=q1
 have f4:Lp.res ci (Bm bl a s c)=(j',z):=q2
 have g15:Bn bl a s c=z.2.1:=by simp only [Bn,vt,f4]
 have g18:(rp bl a s c).1=z.2.2.1:=by simp only [rp,vt,f4]
 have g18':((rp bl a s c).2).1=z.2.2.2.1:=by simp only [rp,vt,f4]
 have l20:(rq bl a s c).length=1:=rfl
 have t5:leN ((kd bl a s c).length + (rq bl a s c).length) 9223372036854775807=true:=br (by rw [g19,l20];omega)
 have t6:leN (((kd bl a s c).length + (rq bl a s c).length) * 24) 140737488355328=true:=br (by rw [g19,l20];omega)
 refine⟨?_,?_,?_⟩
 ·simp only [LA,allT,f1,s1,s2,s3,s4,f3,t5,t6,wP,rf,Bool.or_true,Bool.and_self,cond_true]
 ·simp only [zi,zj]
  cases gc bl a s c with
  |true=>exact fk s4
  |false=>
   cases rn bl a s c with
   |true=>
    simp only [cond_true,cond_false,g15,g18,zS,zT]
    exact fk q3
   |false=>exact s2
 ·simp only [zk]
  cases gc bl a s c with
  |true=>simp only [cond_true,List.length_append,g19,l20];omega
  |false=>
   cases rn bl a s c with
   |true=>simp only [cond_true,cond_false,g18'];omega
   |false=>simp only [cond_false,g19];omega
def SK:List SV→List Entry→Option Out
 | [.one ⟨false,[.ptr 0 0]⟩,.one ⟨false,[.val (.int .i64 x0)]⟩],[.box 157 [.ref 1,.val (.int .i64 x1),.val (.int .i64 x2)],.row false 5 (.int .u8) x3]=>some ⟨.one ⟨false,[.ref 2]⟩,[.box 157 [.ref 1,.val (.int .i64 (zi x0 x1 x2 x3)),.val (.int .i64 (zj x0 x1 x2 x3))],.row false 5 ajC x3],[.row true 169 acG (zk x0 x1 x2 x3)],[aq x1 x2 x3]⟩
 |_,_=>none
def ka:PF prog:=PF.alt ac7 SK (by
 intro args es o h bK;unfold SK at h;split at h
 ·rename_i x0 x1 x2 x3
  cases h
  have bK:=iu bK
  have hh:=(aeC x0 x1 x2 x3 bK).1
  have en:=hh
  exact kU rfl (gZ en) rfl rfl rfl
 ·cases h)
theorem aqZ{a b:Bool}(h:b=true):(a||b)=true:=by rw [h,Bool.or_true]
theorem Cr{b:Bool}{l:List Bool}:allT (b::l)=true↔b=true∧allT l=true:=by cases b <;> simp [allT]
theorem Cs:allT []=true↔True:=by simp [allT]
theorem qK{t:Bool}{a a' s s':Int}{c:List Int}(h:aq a s c=true)(h':aq a' s' c=true):aq (bif t then a else a') (bif t then s else s') c=true:=by cases t <;> assumption
theorem mm{α:Type}{t:Bool}{l l':List α}{n:Nat}(h:l.length≤n)(h':l'.length≤n):(bif t then l else l').length≤n:=by cases t <;> assumption
def LT.ok{X:Type}(J:X→Prop)(Q:Nat→Prop):LT X→Prop
 | .nrm x _=>J x
 | .ext j _=>Q j
 | .need nd t=>allT nd=true∧t.ok J Q
 | .ite b t e=>(b=true→t.ok J Q)∧(b=false→e.ok J Q)
theorem LT.ok_out{X:Type}{J:X→Prop}{Q:Nat→Prop}: ∀ {t:LT X},t.ok J Q→(∃ j,t.out=some (.inl j)∧Q j)∨ ∃ y,t.out=some (.inr y)∧J y
 | .nrm x _,h=> .inr ⟨x,rfl,h⟩
 | .ext j _,h=> .inl ⟨j,rfl,h⟩
 | .need nd t,h=>by
  simp only [LT.ok]at h
  simp only [LT.out,h.1,cond_true]
  exact LT.ok_out (t:=t) h.2
 | .ite b t e,h=>by
  simp only [LT.ok]at h
  simp only [LT.out]
  cases b with
  |true=>exact LT.ok_out (t:=t) (h.1 rfl)
  |false=>exact LT.ok_out (t:=e) (h.2 rfl)
theorem Lp.inv2{X:Type}(p:Lp X)(I:Nat→X→Prop)(Q:X→Prop)(hs: ∀ k x,I (k + 1) x→(p.lt x).ok (I k) (fun _=>Q x))(he: ∀ x,I 0 x→(p.lt x).ok (fun _=>False) (fun _=>Q x))
  (N:Nat) (x:X) (hN:N≤999) (h:I N x):p.fin x=true∧ ∃ j y,p.res x=(j,y)∧Q y:=
 p.inv I (fun _ y=>Q y) (fun k x hx=>LT.ok_out (hs k x hx)) (fun x hx=>by
  rcases LT.ok_out (he x hx)with h | ⟨_,_,h⟩
  ·exact h
  ·exact h.elim) N x hN h
 attribute [local irreducible] nxA nxS nxV pkA pkS pkV
theorem adf(c:List Int)(x:oI)(hx:match x with | (y0,y1,y2,y3,y4)=>y0≤((5:Nat):Int)∧aq y2 y3 y4=true∧y1.length + (5:Nat)≤5∧y4=c):
  kA.fin x=true∧ ∃ j y,kA.res x=(j,y)∧(match y with | (y0,y1,y2,y3,y4)=>aq y2 y3 c=true∧y1.length≤5∧c=y4):=by
 refine kA.inv2 (fun k x=>match x with | (y0,y1,y2,y3,y4)=>y0≤(k:Int)∧aq y2 y3 y4=true∧y1.length + k≤5∧y4=c) (fun y=>match y with | (y0,y1,y2,y3,y4)=>aq y2 y3 c=true∧y1.length≤5∧c=y4) (fun k x hx=> ?_) (fun x hx=> ?_) 5 x (by omega) hx
 ·obtain⟨y0,y1,y2,y3,y4⟩:=x
  obtain⟨h0,h1,h2,rfl⟩:=hx
  skip
  simp only [kA,NZ,LT.ok,Cr,Cs,and_true,tl,tm,xm,xo,KA,KB,KC,KD,KE,KF,KG,KH,KI,KJ,Bool.or_eq_true,Bool.and_eq_true]
  repeat' (first | refine And.intro ?_ ?_ | intro _)
  all_goals first
   |assumption
   |exact trivial
   |rfl
   |omega
   |(repeat (first | assumption | apply fk | apply oH | apply qK | refine Or.inr ?_ | refine And.intro ?_ ?_ | exact trivial | exact rf _ _ | rfl)
     done)
   |((repeat refine Or.inr ?_)
     exact br (by simp only [List.length_append,List.length_cons,List.length_nil];omega))
   |(simp only [List.length_append,List.length_cons,List.length_nil]
     omega)
   |((repeat refine Or.inr ?_)
     exact br (by omega))
   |(repeat' apply mm
     all_goals first | omega | (simp only [List.length_append,List.length_cons,List.length_nil];omega))
   |(try simp only [Bool.or_false,Bool.false_eq_true,Bool.and_eq_true,ay,ax,aw,aE]at *
     rw [ag (by omega) (by omega)]
     omega)
   |(try simp only [Bool.or_false,Bool.false_eq_true,Bool.and_eq_true,ay,ax,aw,aE]at *
     rw [ag (by omega) (by omega)]
     simp only [List.length_append,List.length_cons,List.length_nil]
     omega)
   |(simp only [Bool.or_false,Bool.false_eq_true,Bool.and_eq_true,ay,ax,aw,aE]at *
     omega)
   |(exfalso
     simp only [Bool.or_false,Bool.false_eq_true,Bool.and_eq_true,ay,ax,aw,aE]at *
     omega)
   |(exfalso;simp_all;done)
 ·obtain⟨y0,y1,y2,y3,y4⟩:=x
  obtain⟨h0,h1,h2,rfl⟩:=hx
  skip
  skip
  simp only [kA,NZ,LT.ok,Cr,Cs,and_true,tl,tm,xm,xo,KA,KB,KC,KD,KE,KF,KG,KH,KI,KJ,Bool.or_eq_true,Bool.and_eq_true]
  repeat' (first | refine And.intro ?_ ?_ | intro _)
  all_goals first
   |assumption
   |exact trivial
   |rfl
   |omega
   |(repeat (first | assumption | apply fk | apply oH | apply qK | refine Or.inr ?_ | refine And.intro ?_ ?_ | exact trivial | exact rf _ _ | rfl)
     done)
   |((repeat refine Or.inr ?_)
     exact br (by simp only [List.length_append,List.length_cons,List.length_nil];omega))
   |(simp only [List.length_append,List.length_cons,List.length_nil]
     omega)
   |((repeat refine Or.inr ?_)
     exact br (by omega))
   |(repeat' apply mm
     all_goals first | omega | (simp only [List.length_append,List.length_cons,List.length_nil];omega))
   |(try simp only [Bool.or_false,Bool.false_eq_true,Bool.and_eq_true,ay,ax,aw,aE]at *
     rw [ag (by omega) (by omega)]
     omega)
   |(try simp only [Bool.or_false,Bool.false_eq_true,Bool.and_eq_true,ay,ax,aw,aE]at *
     rw [ag (by omega) (by omega)]
     simp only [List.length_append,List.length_cons,List.length_nil]
     omega)
   |(simp only [Bool.or_false,Bool.false_eq_true,Bool.and_eq_true,ay,ax,aw,aE]at *
     omega)
   |(exfalso
     simp only [Bool.or_false,Bool.false_eq_true,Bool.and_eq_true,ay,ax,aw,aE]at *
     omega)
   |(exfalso;simp_all;done)
theorem adg(c:List Int)(x:oJ)(hx:match x with | (y0,y1,y2,y3,y4)=>y0=(13:Int) - (13:Nat)∧(13:Nat)≤13∧aq y1 y2 y4=true∧y3.length + (13:Nat)≤13∧y4=c):
  kB.fin x=true∧ ∃ j y,kB.res x=(j,y)∧(match y with | (y0,y1,y2,y3,y4)=>aq y1 y2 c=true∧y3.length≤13∧c=y4):=by
 refine kB.inv2 (fun k x=>match x with | (y0,y1,y2,y3,y4)=>y0=(13:Int) - k∧k≤13∧aq y1 y2 y4=true∧y3.length + k≤13∧y4=c) (fun y=>match y with | (y0,y1,y2,y3,y4)=>aq y1 y2 c=true∧y3.length≤13∧c=y4) (fun k x hx=> ?_) (fun x hx=> ?_) 13 x (by omega) hx
 ·obtain⟨y0,y1,y2,y3,y4⟩:=x
  obtain⟨h0,h5,h1,h2,rfl⟩:=hx
  have nn:=Vm (n:=2) h1 (by omega);have hw:IntKind.i64.wrap (12 + nxV 2 y1 y2 y4)=12 + nxV 2 y1 y2 y4:=ag (by omega) (by omega)
  simp only [kB,Oa,LT.ok,Cr,Cs,and_true,tp,EM,EN,EO,EP,EQ,vH,vI,ER,Bool.or_eq_true,Bool.and_eq_true]
  repeat' (first | refine And.intro ?_ ?_ | intro _)
  all_goals first
   |assumption
   |exact trivial
   |rfl
   |omega
   |(repeat (first | assumption | apply fk | apply oH | apply qK | refine Or.inr ?_ | refine And.intro ?_ ?_ | exact trivial | exact rf _ _ | rfl)
     done)
   |((repeat refine Or.inr ?_)
     exact br (by simp only [List.length_append,List.length_cons,List.length_nil];omega))
   |(simp only [List.length_append,List.length_cons,List.length_nil]
     omega)
   |((repeat refine Or.inr ?_)
     exact br (by omega))
   |(repeat' apply mm
     all_goals first | omega | (simp only [List.length_append,List.length_cons,List.length_nil];omega))
   |(try simp only [Bool.or_false,Bool.false_eq_true,Bool.and_eq_true,ay,ax,aw,aE]at *
     rw [ag (by omega) (by omega)]
     omega)
   |(try simp only [Bool.or_false,Bool.false_eq_true,Bool.and_eq_true,ay,ax,aw,aE]at *
     rw [ag (by omega) (by omega)]
     simp only [List.length_append,List.length_cons,List.length_nil]
     omega)
   |(simp only [Bool.or_false,Bool.false_eq_true,Bool.and_eq_true,ay,ax,aw,aE]at *
     omega)
   |(exfalso
     simp only [Bool.or_false,Bool.false_eq_true,Bool.and_eq_true,ay,ax,aw,aE]at *
     omega)
   |(exfalso;simp_all;done)
 ·obtain⟨y0,y1,y2,y3,y4⟩:=x
  obtain⟨h0,h5,h1,h2,rfl⟩:=hx
  have nn:=Vm (n:=2) h1 (by omega);have hw:IntKind.i64.wrap (12 + nxV 2 y1 y2 y4)=12 + nxV 2 y1 y2 y4:=ag (by omega) (by omega)
  skip
  simp only [kB,Oa,LT.ok,Cr,Cs,and_true,tp,EM,EN,EO,EP,EQ,vH,vI,ER,Bool.or_eq_true,Bool.and_eq_true]
  repeat' (first | refine And.intro ?_ ?_ | intro _)
  all_goals first
   |assumption
   |exact trivial
   |rfl
   |omega
   |(repeat (first | assumption | apply fk | apply oH | apply qK | refine Or.inr ?_ | refine And.intro ?_ ?_ | exact trivial | exact rf _ _ | rfl)
     done)
   |((repeat refine Or.inr ?_)
     exact br (by simp only [List.length_append,List.length_cons,List.length_nil];omega))
   |(simp only [List.length_append,List.length_cons,List.length_nil]
     omega)
   |((repeat refine Or.inr ?_)
     exact br (by omega))
   |(repeat' apply mm
     all_goals first | omega | (simp only [List.length_append,List.length_cons,List.length_nil];omega))
   |(try simp only [Bool.or_false,Bool.false_eq_true,Bool.and_eq_true,ay,ax,aw,aE]at *
     rw [ag (by omega) (by omega)]
     omega)
   |(try simp only [Bool.or_false,Bool.false_eq_true,Bool.and_eq_true,ay,ax,aw,aE]at *
     rw [ag (by omega) (by omega)]
     simp only [List.length_append,List.length_cons,List.length_nil]
     omega)
   |(simp only [Bool.or_false,Bool.false_eq_true,Bool.and_eq_true,ay,ax,aw,aE]at *
     omega)
   |(exfalso
     simp only [Bool.or_false,Bool.false_eq_true,Bool.and_eq_true,ay,ax,aw,aE]at *
     omega)
   |(exfalso;simp_all;done)
theorem Xs(a s:Int)(c:List Int)(h:aq a s c=true):DC a s c=true∧aq (vE a s c) (vF a s c) c=true∧(vG a s c).length≤20:=by
 have n5:=Vm (n:=5) h (by omega)
 obtain⟨f0,j0,⟨z0,z1,z2,z3,z4⟩,g0,hq0⟩:=adf c (wn a s c) (by
  simp only [wn,At,qU,wo,Au,jV,nx,sX,sY,qV,ue,xj,xk,uf,xl,rr,ug,vE,vF,vG,DC]
  repeat' refine And.intro ?_ ?_
  all_goals first
   |assumption
   |exact trivial
   |rfl
   |omega
   |(repeat (first | assumption | apply fk | apply oH | apply qK | refine Or.inr ?_ | refine And.intro ?_ ?_ | exact trivial | exact rf _ _ | rfl | apply mm)
     done)
   |((repeat refine Or.inr ?_)
     exact br (by simp only [List.length_append,List.length_cons,List.length_nil];omega))
   |(simp only [List.length_append,List.length_cons,List.length_nil]
     omega)
   |((repeat refine Or.inr ?_)
     exact br (by omega))
   |(repeat' apply mm
     all_goals first | omega | (simp only [List.length_append,List.length_cons,List.length_nil];omega))
   |(try simp only [Bool.or_false,Bool.false_eq_true,Bool.and_eq_true,ay,ax,aw,aE]at *
     rw [ag (by omega) (by omega)]
     omega)
   |(try simp only [Bool.or_false,Bool.false_eq_true,Bool.and_eq_true,ay,ax,aw,aE]at *
     rw [ag (by omega) (by omega)]
     simp only [List.length_append,List.length_cons,List.length_nil]
     omega)
   |(simp only [Bool.or_false,Bool.false_eq_true,Bool.and_eq_true,ay,ax,aw,aE]at *
     omega)
   |(exfalso
     simp only [Bool.or_false,Bool.false_eq_true,Bool.and_eq_true,ay,ax,aw,aE]at *
     omega)
   |(exfalso;simp_all;done))
 obtain⟨p1,p2,rfl⟩:=hq0
 simp only [wn,At,qU,wo,Au,jV,nx,sX,sY,qV,ue,xj,xk,uf,xl,rr,ug,vE,vF,vG,DC]at f0 g0
 obtain⟨f1,j1,⟨u0,u1,u2,u3,u4⟩,g1,hq1⟩:=adg c (ue a s c) (by
  simp only [wn,At,qU,wo,Au,jV,nx,sX,sY,qV,ue,xj,xk,uf,xl,rr,ug,vE,vF,vG,DC,f0,g0,tp,EM,EN,EO,EP,EQ,vH,vI,ER]
  repeat' refine And.intro ?_ ?_
  all_goals first
   |assumption
   |exact trivial
   |rfl
   |omega
   |(repeat (first | assumption | apply fk | apply oH | apply qK | refine Or.inr ?_ | refine And.intro ?_ ?_ | exact trivial | exact rf _ _ | rfl | apply mm)
     done)
   |((repeat refine Or.inr ?_)
     exact br (by simp only [List.length_append,List.length_cons,List.length_nil];omega))
   |(simp only [List.length_append,List.length_cons,List.length_nil]
     omega)
   |((repeat refine Or.inr ?_)
     exact br (by omega))
   |(repeat' apply mm
     all_goals first | omega | (simp only [List.length_append,List.length_cons,List.length_nil];omega))
   |(try simp only [Bool.or_false,Bool.false_eq_true,Bool.and_eq_true,ay,ax,aw,aE]at *
     rw [ag (by omega) (by omega)]
     omega)
   |(try simp only [Bool.or_false,Bool.false_eq_true,Bool.and_eq_true,ay,ax,aw,aE]at *
     rw [ag (by omega) (by omega)]
     simp only [List.length_append,List.length_cons,List.length_nil]
     omega)
   |(simp only [Bool.or_false,Bool.false_eq_true,Bool.and_eq_true,ay,ax,aw,aE]at *
     omega)
   |(exfalso
     simp only [Bool.or_false,Bool.false_eq_true,Bool.and_eq_true,ay,ax,aw,aE]at *
     omega)
   |(exfalso;simp_all;done))
 obtain⟨p3,p4,rfl⟩:=hq1
 simp only [wn,At,qU,wo,Au,jV,nx,sX,sY,qV,ue,xj,xk,uf,xl,rr,ug,vE,vF,vG,DC,f0,g0]at f1 g1
 refine⟨?_,?_,?_⟩
 all_goals simp only [wn,At,qU,wo,Au,jV,nx,sX,sY,qV,ue,xj,xk,uf,xl,rr,ug,vE,vF,vG,DC,f0,g0,f1,g1,tl,tm,xm,xo,KA,KB,KC,KD,KE,KF,KG,KH,KI,KJ,tp,EM,EN,EO,EP,EQ,vH,vI,ER,Cr,Cs,and_true,Bool.or_eq_true,Bool.and_eq_true]
 all_goals repeat' refine And.intro ?_ ?_
 all_goals first
   |assumption
   |exact trivial
   |rfl
   |omega
   |(repeat (first | assumption | apply fk | apply oH | apply qK | refine Or.inr ?_ | refine And.intro ?_ ?_ | exact trivial | exact rf _ _ | rfl | apply mm)
     done)
   |((repeat refine Or.inr ?_)
     exact br (by simp only [List.length_append,List.length_cons,List.length_nil];omega))
   |(simp only [List.length_append,List.length_cons,List.length_nil]
     omega)
   |((repeat refine Or.inr ?_)
     exact br (by omega))
   |(repeat' apply mm
     all_goals first | omega | (simp only [List.length_append,List.length_cons,List.length_nil];omega))
   |(try simp only [Bool.or_false,Bool.false_eq_true,Bool.and_eq_true,ay,ax,aw,aE]at *
     rw [ag (by omega) (by omega)]
     omega)
   |(try simp only [Bool.or_false,Bool.false_eq_true,Bool.and_eq_true,ay,ax,aw,aE]at *
     rw [ag (by omega) (by omega)]
     simp only [List.length_append,List.length_cons,List.length_nil]
     omega)
   |(simp only [Bool.or_false,Bool.false_eq_true,Bool.and_eq_true,ay,ax,aw,aE]at *
     omega)
   |(exfalso
     simp only [Bool.or_false,Bool.false_eq_true,Bool.and_eq_true,ay,ax,aw,aE]at *
     omega)
   |(exfalso;simp_all;done)
theorem WB(c:List Int)(x:iH)(hx:match x with | (y0,y1,y2,y3,y4,y5)=>y0≤((5:Nat):Int)∧aq y3 y4 y5=true∧y2.length + (5:Nat)≤5∧y5=c):
  fD.fin x=true∧ ∃ j y,fD.res x=(j,y)∧(match y with | (y0,y1,y2,y3,y4,y5)=>aq y3 y4 c=true∧y2.length≤5∧c=y5):=by
 refine fD.inv2 (fun k x=>match x with | (y0,y1,y2,y3,y4,y5)=>y0≤(k:Int)∧aq y3 y4 y5=true∧y2.length + k≤5∧y5=c) (fun y=>match y with | (y0,y1,y2,y3,y4,y5)=>aq y3 y4 c=true∧y2.length≤5∧c=y5) (fun k x hx=> ?_) (fun x hx=> ?_) 5 x (by omega) hx
 ·obtain⟨y0,y1,y2,y3,y4,y5⟩:=x
  obtain⟨h0,h1,h2,rfl⟩:=hx
  skip
  simp only [fD,GE,LT.ok,Cr,Cs,and_true,pH,Bq,Br,Bs,Bt,Bu,Bv,Bw,Bx,Bz,BA,Bool.or_eq_true,Bool.and_eq_true]
  repeat' (first | refine And.intro ?_ ?_ | intro _)
  all_goals first
   |assumption
   |exact trivial
   |rfl
   |omega
   |(repeat (first | assumption | apply fk | apply oH | apply qK | refine Or.inr ?_ | refine And.intro ?_ ?_ | exact trivial | exact rf _ _ | rfl)
     done)
   |((repeat refine Or.inr ?_)
     exact br (by simp only [List.length_append,List.length_cons,List.length_nil];omega))
   |(simp only [List.length_append,List.length_cons,List.length_nil]
     omega)
   |((repeat refine Or.inr ?_)
     exact br (by omega))
   |(repeat' apply mm
     all_goals first | omega | (simp only [List.length_append,List.length_cons,List.length_nil];omega))
   |(try simp only [Bool.or_false,Bool.false_eq_true,Bool.and_eq_true,ay,ax,aw,aE]at *
     rw [ag (by omega) (by omega)]
     omega)
   |(try simp only [Bool.or_false,Bool.false_eq_true,Bool.and_eq_true,ay,ax,aw,aE]at *
     rw [ag (by omega) (by omega)]
     simp only [List.length_append,List.length_cons,List.length_nil]
     omega)
   |(simp only [Bool.or_false,Bool.false_eq_true,Bool.and_eq_true,ay,ax,aw,aE]at *
     omega)
   |(exfalso
     simp only [Bool.or_false,Bool.false_eq_true,Bool.and_eq_true,ay,ax,aw,aE]at *
     omega)
   |(exfalso;simp_all;done)
 ·obtain⟨y0,y1,y2,y3,y4,y5⟩:=x
  obtain⟨h0,h1,h2,rfl⟩:=hx
  skip
  skip
  simp only [fD,GE,LT.ok,Cr,Cs,and_true,pH,Bq,Br,Bs,Bt,Bu,Bv,Bw,Bx,Bz,BA,Bool.or_eq_true,Bool.and_eq_true]
  repeat' (first | refine And.intro ?_ ?_ | intro _)
  all_goals first
   |assumption
   |exact trivial
   |rfl
   |omega
   |(repeat (first | assumption | apply fk | apply oH | apply qK | refine Or.inr ?_ | refine And.intro ?_ ?_ | exact trivial | exact rf _ _ | rfl)
     done)
   |((repeat refine Or.inr ?_)
     exact br (by simp only [List.length_append,List.length_cons,List.length_nil];omega))
   |(simp only [List.length_append,List.length_cons,List.length_nil]
     omega)
   |((repeat refine Or.inr ?_)
     exact br (by omega))
   |(repeat' apply mm
     all_goals first | omega | (simp only [List.length_append,List.length_cons,List.length_nil];omega))
   |(try simp only [Bool.or_false,Bool.false_eq_true,Bool.and_eq_true,ay,ax,aw,aE]at *
     rw [ag (by omega) (by omega)]
     omega)
   |(try simp only [Bool.or_false,Bool.false_eq_true,Bool.and_eq_true,ay,ax,aw,aE]at *
     rw [ag (by omega) (by omega)]
     simp only [List.length_append,List.length_cons,List.length_nil]
     omega)
   |(simp only [Bool.or_false,Bool.false_eq_true,Bool.and_eq_true,ay,ax,aw,aE]at *
     omega)
   |(exfalso
     simp only [Bool.or_false,Bool.false_eq_true,Bool.and_eq_true,ay,ax,aw,aE]at *
     omega)
   |(exfalso;simp_all;done)
theorem WC(c:List Int)(x:iI)(hx:match x with | (y0,y1,y2,y3,y4)=>y0=(9:Int) - (9:Nat)∧(9:Nat)≤9∧aq y1 y2 y4=true∧y3.length + (9:Nat)≤9∧y4=c):
  fE.fin x=true∧ ∃ j y,fE.res x=(j,y)∧(match y with | (y0,y1,y2,y3,y4)=>aq y1 y2 c=true∧y3.length≤9∧c=y4):=by
 refine fE.inv2 (fun k x=>match x with | (y0,y1,y2,y3,y4)=>y0=(9:Int) - k∧k≤9∧aq y1 y2 y4=true∧y3.length + k≤9∧y4=c) (fun y=>match y with | (y0,y1,y2,y3,y4)=>aq y1 y2 c=true∧y3.length≤9∧c=y4) (fun k x hx=> ?_) (fun x hx=> ?_) 9 x (by omega) hx
 ·obtain⟨y0,y1,y2,y3,y4⟩:=x
  obtain⟨h0,h5,h1,h2,rfl⟩:=hx
  have nn:=Vm (n:=2) h1 (by omega);have hw:IntKind.i64.wrap (8 + nxV 2 y1 y2 y4)=8 + nxV 2 y1 y2 y4:=ag (by omega) (by omega)
  simp only [fE,GF,LT.ok,Cr,Cs,and_true,md,vu,vv,vz,vA,vB,vC,mX,mY,vD,Bool.or_eq_true,Bool.and_eq_true]
  repeat' (first | refine And.intro ?_ ?_ | intro _)
  all_goals first
   |assumption
   |exact trivial
   |rfl
   |omega
   |(repeat (first | assumption | apply fk | apply oH | apply qK | refine Or.inr ?_ | refine And.intro ?_ ?_ | exact trivial | exact rf _ _ | rfl)
     done)
   |((repeat refine Or.inr ?_)
     exact br (by simp only [List.length_append,List.length_cons,List.length_nil];omega))
   |(simp only [List.length_append,List.length_cons,List.length_nil]
     omega)
   |((repeat refine Or.inr ?_)
     exact br (by omega))
   |(repeat' apply mm
     all_goals first | omega | (simp only [List.length_append,List.length_cons,List.length_nil];omega))
   |(try simp only [Bool.or_false,Bool.false_eq_true,Bool.and_eq_true,ay,ax,aw,aE]at *
     rw [ag (by omega) (by omega)]
     omega)
   |(try simp only [Bool.or_false,Bool.false_eq_true,Bool.and_eq_true,ay,ax,aw,aE]at *
     rw [ag (by omega) (by omega)]
     simp only [List.length_append,List.length_cons,List.length_nil]
     omega)
   |(simp only [Bool.or_false,Bool.false_eq_true,Bool.and_eq_true,ay,ax,aw,aE]at *
     omega)
   |(exfalso
     simp only [Bool.or_false,Bool.false_eq_true,Bool.and_eq_true,ay,ax,aw,aE]at *
     omega)
   |(exfalso;simp_all;done)
 ·obtain⟨y0,y1,y2,y3,y4⟩:=x
  obtain⟨h0,h5,h1,h2,rfl⟩:=hx
  have nn:=Vm (n:=2) h1 (by omega);have hw:IntKind.i64.wrap (8 + nxV 2 y1 y2 y4)=8 + nxV 2 y1 y2 y4:=ag (by omega) (by omega)
  skip
  simp only [fE,GF,LT.ok,Cr,Cs,and_true,md,vu,vv,vz,vA,vB,vC,mX,mY,vD,Bool.or_eq_true,Bool.and_eq_true]
  repeat' (first | refine And.intro ?_ ?_ | intro _)
  all_goals first
   |assumption
   |exact trivial
   |rfl
   |omega
   |(repeat (first | assumption | apply fk | apply oH | apply qK | refine Or.inr ?_ | refine And.intro ?_ ?_ | exact trivial | exact rf _ _ | rfl)
     done)
   |((repeat refine Or.inr ?_)
     exact br (by simp only [List.length_append,List.length_cons,List.length_nil];omega))
   |(simp only [List.length_append,List.length_cons,List.length_nil]
     omega)
   |((repeat refine Or.inr ?_)
     exact br (by omega))
   |(repeat' apply mm
     all_goals first | omega | (simp only [List.length_append,List.length_cons,List.length_nil];omega))
   |(try simp only [Bool.or_false,Bool.false_eq_true,Bool.and_eq_true,ay,ax,aw,aE]at *
     rw [ag (by omega) (by omega)]
     omega)
   |(try simp only [Bool.or_false,Bool.false_eq_true,Bool.and_eq_true,ay,ax,aw,aE]at *
     rw [ag (by omega) (by omega)]
     simp only [List.length_append,List.length_cons,List.length_nil]
     omega)
   |(simp only [Bool.or_false,Bool.false_eq_true,Bool.and_eq_true,ay,ax,aw,aE]at *
     omega)
   |(exfalso
     simp only [Bool.or_false,Bool.false_eq_true,Bool.and_eq_true,ay,ax,aw,aE]at *
     omega)
   |(exfalso;simp_all;done)
theorem QJ(a s:Int)(c:List Int)(h:aq a s c=true):sb a s c=true∧aq (lx a s c) (ly a s c) c=true∧(lz a s c).length≤20:=by
 have n5:=Vm (n:=5) (fk (n:=3) h) (by omega)
 obtain⟨f0,j0,⟨z0,z1,z2,z3,z4,z5⟩,g0,hq0⟩:=WB c (mF a s c) (by
  simp only [mF,qv,jb,mG,mH,cG,fy,km,gU,gV,ld,oE,oF,iq,lg,oG,ct,lh,lx,ly,lz,sb]
  repeat' refine And.intro ?_ ?_
  all_goals first
   |assumption
   |exact trivial
   |rfl
   |omega
   |(repeat (first | assumption | apply fk | apply oH | apply qK | refine Or.inr ?_ | refine And.intro ?_ ?_ | exact trivial | exact rf _ _ | rfl | apply mm)
     done)
   |((repeat refine Or.inr ?_)
     exact br (by simp only [List.length_append,List.length_cons,List.length_nil];omega))
   |(simp only [List.length_append,List.length_cons,List.length_nil]
     omega)
   |((repeat refine Or.inr ?_)
     exact br (by omega))
   |(repeat' apply mm
     all_goals first | omega | (simp only [List.length_append,List.length_cons,List.length_nil];omega))
   |(try simp only [Bool.or_false,Bool.false_eq_true,Bool.and_eq_true,ay,ax,aw,aE]at *
     rw [ag (by omega) (by omega)]
     omega)
   |(try simp only [Bool.or_false,Bool.false_eq_true,Bool.and_eq_true,ay,ax,aw,aE]at *
     rw [ag (by omega) (by omega)]
     simp only [List.length_append,List.length_cons,List.length_nil]
     omega)
   |(simp only [Bool.or_false,Bool.false_eq_true,Bool.and_eq_true,ay,ax,aw,aE]at *
     omega)
   |(exfalso
     simp only [Bool.or_false,Bool.false_eq_true,Bool.and_eq_true,ay,ax,aw,aE]at *
     omega)
   |(exfalso;simp_all;done))
 obtain⟨p1,p2,rfl⟩:=hq0
 simp only [mF,qv,jb,mG,mH,cG,fy,km,gU,gV,ld,oE,oF,iq,lg,oG,ct,lh,lx,ly,lz,sb]at f0 g0
 obtain⟨f1,j1,⟨u0,u1,u2,u3,u4⟩,g1,hq1⟩:=WC c (ld a s c) (by
  simp only [mF,qv,jb,mG,mH,cG,fy,km,gU,gV,ld,oE,oF,iq,lg,oG,ct,lh,lx,ly,lz,sb,f0,g0,md,vu,vv,vz,vA,vB,vC,mX,mY,vD]
  repeat' refine And.intro ?_ ?_
  all_goals first
   |assumption
   |exact trivial
   |rfl
   |omega
   |(repeat (first | assumption | apply fk | apply oH | apply qK | refine Or.inr ?_ | refine And.intro ?_ ?_ | exact trivial | exact rf _ _ | rfl | apply mm)
     done)
   |((repeat refine Or.inr ?_)
     exact br (by simp only [List.length_append,List.length_cons,List.length_nil];omega))
   |(simp only [List.length_append,List.length_cons,List.length_nil]
     omega)
   |((repeat refine Or.inr ?_)
     exact br (by omega))
   |(repeat' apply mm
     all_goals first | omega | (simp only [List.length_append,List.length_cons,List.length_nil];omega))
   |(try simp only [Bool.or_false,Bool.false_eq_true,Bool.and_eq_true,ay,ax,aw,aE]at *
     rw [ag (by omega) (by omega)]
     omega)
   |(try simp only [Bool.or_false,Bool.false_eq_true,Bool.and_eq_true,ay,ax,aw,aE]at *
     rw [ag (by omega) (by omega)]
     simp only [List.length_append,List.length_cons,List.length_nil]
     omega)
   |(simp only [Bool.or_false,Bool.false_eq_true,Bool.and_eq_true,ay,ax,aw,aE]at *
     omega)
   |(exfalso
     simp only [Bool.or_false,Bool.false_eq_true,Bool.and_eq_true,ay,ax,aw,aE]at *
     omega)
   |(exfalso;simp_all;done))
 obtain⟨p3,p4,rfl⟩:=hq1
 simp only [mF,qv,jb,mG,mH,cG,fy,km,gU,gV,ld,oE,oF,iq,lg,oG,ct,lh,lx,ly,lz,sb,f0,g0]at f1 g1
 refine⟨?_,?_,?_⟩
 all_goals simp only [mF,qv,jb,mG,mH,cG,fy,km,gU,gV,ld,oE,oF,iq,lg,oG,ct,lh,lx,ly,lz,sb,f0,g0,f1,g1,pH,Bq,Br,Bs,Bt,Bu,Bv,Bw,Bx,Bz,BA,md,vu,vv,vz,vA,vB,vC,mX,mY,vD,Cr,Cs,and_true,Bool.or_eq_true,Bool.and_eq_true]
 all_goals repeat' refine And.intro ?_ ?_
 all_goals first
   |assumption
   |exact trivial
   |rfl
   |omega
   |(repeat (first | assumption | apply fk | apply oH | apply qK | refine Or.inr ?_ | refine And.intro ?_ ?_ | exact trivial | exact rf _ _ | rfl | apply mm)
     done)
   |((repeat refine Or.inr ?_)
     exact br (by simp only [List.length_append,List.length_cons,List.length_nil];omega))
   |(simp only [List.length_append,List.length_cons,List.length_nil]
     omega)
   |((repeat refine Or.inr ?_)
     exact br (by omega))
   |(repeat' apply mm
     all_goals first | omega | (simp only [List.length_append,List.length_cons,List.length_nil];omega))
   |(try simp only [Bool.or_false,Bool.false_eq_true,Bool.and_eq_true,ay,ax,aw,aE]at *
     rw [ag (by omega) (by omega)]
     omega)
   |(try simp only [Bool.or_false,Bool.false_eq_true,Bool.and_eq_true,ay,ax,aw,aE]at *
     rw [ag (by omega) (by omega)]
     simp only [List.length_append,List.length_cons,List.length_nil]
     omega)
   |(simp only [Bool.or_false,Bool.false_eq_true,Bool.and_eq_true,ay,ax,aw,aE]at *
     omega)
   |(exfalso
     simp only [Bool.or_false,Bool.false_eq_true,Bool.and_eq_true,ay,ax,aw,aE]at *
     omega)
   |(exfalso;simp_all;done)
theorem VT(c:List Int)(x:hY)(hx:match x with | (y0,y1,y2,y3,y4,y5)=>y0=(7:Int) - (7:Nat)∧(7:Nat)≤7∧aq y2 y3 y5=true∧y4.length + 2 * (7:Nat)≤14∧y5=c):
  eA.fin x=true∧ ∃ j y,eA.res x=(j,y)∧(match y with | (y0,y1,y2,y3,y4,y5)=>aq y2 y3 c=true∧y4.length≤14∧c=y5):=by
 refine eA.inv2 (fun k x=>match x with | (y0,y1,y2,y3,y4,y5)=>y0=(7:Int) - k∧k≤7∧aq y2 y3 y5=true∧y4.length + 2 * k≤14∧y5=c) (fun y=>match y with | (y0,y1,y2,y3,y4,y5)=>aq y2 y3 c=true∧y4.length≤14∧c=y5) (fun k x hx=> ?_) (fun x hx=> ?_) 7 x (by omega) hx
 ·obtain⟨y0,y1,y2,y3,y4,y5⟩:=x
  obtain⟨h0,h5,h1,h2,rfl⟩:=hx
  skip
  simp only [eA,Fv,LT.ok,Cr,Cs,and_true,cJ,sQ,kI,nL,nM,iZ,kJ,ja,kK,nN,zU,zV,zW,zX,zY,zZ,Aa,Ab,Ac,Ad,xT,kH,xU,xV,xW,xX,xY,xZ,ya,yc,yf,yg,yh,yj,Bool.or_eq_true,Bool.and_eq_true]
  repeat' (first | refine And.intro ?_ ?_ | intro _)
  all_goals first
   |assumption
   |exact trivial
   |rfl
   |omega
   |(repeat (first | assumption | apply fk | apply oH | apply qK | refine Or.inr ?_ | refine And.intro ?_ ?_ | exact trivial | exact rf _ _ | rfl)
     done)
   |((repeat refine Or.inr ?_)
     exact br (by simp only [List.length_append,List.length_cons,List.length_nil];omega))
   |(simp only [List.length_append,List.length_cons,List.length_nil]
     omega)
   |((repeat refine Or.inr ?_)
     exact br (by omega))
   |(repeat' apply mm
     all_goals first | omega | (simp only [List.length_append,List.length_cons,List.length_nil];omega))
   |(try simp only [Bool.or_false,Bool.false_eq_true,Bool.and_eq_true,ay,ax,aw,aE]at *
     rw [ag (by omega) (by omega)]
     omega)
   |(try simp only [Bool.or_false,Bool.false_eq_true,Bool.and_eq_true,ay,ax,aw,aE]at *
     rw [ag (by omega) (by omega)]
     simp only [List.length_append,List.length_cons,List.length_nil]
     omega)
   |(simp only [Bool.or_false,Bool.false_eq_true,Bool.and_eq_true,ay,ax,aw,aE]at *
     omega)
   |(exfalso
     simp only [Bool.or_false,Bool.false_eq_true,Bool.and_eq_true,ay,ax,aw,aE]at *
     omega)
   |(exfalso;simp_all;done)
 ·obtain⟨y0,y1,y2,y3,y4,y5⟩:=x
  obtain⟨h0,h5,h1,h2,rfl⟩:=hx
  skip
  have e0:(bif ltI y0 y1 then ltI y0 7 else false)=false:=by rw [show ltI y0 7=false from aiu (by omega)];cases ltI y0 y1 <;> rfl
  simp only [eA,Fv,LT.ok,Cr,Cs,and_true,cJ,sQ,kI,nL,nM,iZ,kJ,ja,kK,nN,zU,zV,zW,zX,zY,zZ,Aa,Ab,Ac,Ad,xT,kH,xU,xV,xW,xX,xY,xZ,ya,yc,yf,yg,yh,yj,Bool.or_eq_true,Bool.and_eq_true]
  repeat' (first | refine And.intro ?_ ?_ | intro _)
  all_goals first
   |assumption
   |exact trivial
   |rfl
   |omega
   |(repeat (first | assumption | apply fk | apply oH | apply qK | refine Or.inr ?_ | refine And.intro ?_ ?_ | exact trivial | exact rf _ _ | rfl)
     done)
   |((repeat refine Or.inr ?_)
     exact br (by simp only [List.length_append,List.length_cons,List.length_nil];omega))
   |(simp only [List.length_append,List.length_cons,List.length_nil]
     omega)
   |((repeat refine Or.inr ?_)
     exact br (by omega))
   |(repeat' apply mm
     all_goals first | omega | (simp only [List.length_append,List.length_cons,List.length_nil];omega))
   |(try simp only [Bool.or_false,Bool.false_eq_true,Bool.and_eq_true,ay,ax,aw,aE]at *
     rw [ag (by omega) (by omega)]
     omega)
   |(try simp only [Bool.or_false,Bool.false_eq_true,Bool.and_eq_true,ay,ax,aw,aE]at *
     rw [ag (by omega) (by omega)]
     simp only [List.length_append,List.length_cons,List.length_nil]
     omega)
   |(simp only [Bool.or_false,Bool.false_eq_true,Bool.and_eq_true,ay,ax,aw,aE]at *
     omega)
   |(exfalso
     simp only [Bool.or_false,Bool.false_eq_true,Bool.and_eq_true,ay,ax,aw,aE]at *
     omega)
   |(exfalso;simp_all;done)
theorem VU(c:List Int)(x:hZ)(hx:match x with | (y0,y1,y2,y3,y4)=>y0=(9:Int) - (9:Nat)∧(9:Nat)≤9∧aq y1 y2 y4=true∧y3.length + (9:Nat)≤9∧y4=c):
  eB.fin x=true∧ ∃ j y,eB.res x=(j,y)∧(match y with | (y0,y1,y2,y3,y4)=>aq y1 y2 c=true∧y3.length≤9∧c=y4):=by
 refine eB.inv2 (fun k x=>match x with | (y0,y1,y2,y3,y4)=>y0=(9:Int) - k∧k≤9∧aq y1 y2 y4=true∧y3.length + k≤9∧y4=c) (fun y=>match y with | (y0,y1,y2,y3,y4)=>aq y1 y2 c=true∧y3.length≤9∧c=y4) (fun k x hx=> ?_) (fun x hx=> ?_) 9 x (by omega) hx
 ·obtain⟨y0,y1,y2,y3,y4⟩:=x
  obtain⟨h0,h5,h1,h2,rfl⟩:=hx
  have nn:=Vm (n:=2) h1 (by omega);have hw:IntKind.i64.wrap (8 + nxV 2 y1 y2 y4)=8 + nxV 2 y1 y2 y4:=ag (by omega) (by omega)
  simp only [eB,Fw,LT.ok,Cr,Cs,and_true,kL,tY,tZ,pG,ua,ub,uc,mb,mc,ud,Bool.or_eq_true,Bool.and_eq_true]
  repeat' (first | refine And.intro ?_ ?_ | intro _)
  all_goals first
   |assumption
   |exact trivial
   |rfl
   |omega
   |(repeat (first | assumption | apply fk | apply oH | apply qK | refine Or.inr ?_ | refine And.intro ?_ ?_ | exact trivial | exact rf _ _ | rfl)
     done)
   |((repeat refine Or.inr ?_)
     exact br (by simp only [List.length_append,List.length_cons,List.length_nil];omega))
   |(simp only [List.length_append,List.length_cons,List.length_nil]
     omega)
   |((repeat refine Or.inr ?_)
     exact br (by omega))
   |(repeat' apply mm
     all_goals first | omega | (simp only [List.length_append,List.length_cons,List.length_nil];omega))
   |(try simp only [Bool.or_false,Bool.false_eq_true,Bool.and_eq_true,ay,ax,aw,aE]at *
     rw [ag (by omega) (by omega)]
     omega)
   |(try simp only [Bool.or_false,Bool.false_eq_true,Bool.and_eq_true,ay,ax,aw,aE]at *
     rw [ag (by omega) (by omega)]
     simp only [List.length_append,List.length_cons,List.length_nil]
     omega)
   |(simp only [Bool.or_false,Bool.false_eq_true,Bool.and_eq_true,ay,ax,aw,aE]at *
     omega)
   |(exfalso
     simp only [Bool.or_false,Bool.false_eq_true,Bool.and_eq_true,ay,ax,aw,aE]at *
     omega)
   |(exfalso;simp_all;done)
 ·obtain⟨y0,y1,y2,y3,y4⟩:=x
  obtain⟨h0,h5,h1,h2,rfl⟩:=hx
  have nn:=Vm (n:=2) h1 (by omega);have hw:IntKind.i64.wrap (8 + nxV 2 y1 y2 y4)=8 + nxV 2 y1 y2 y4:=ag (by omega) (by omega)
  skip
  simp only [eB,Fw,LT.ok,Cr,Cs,and_true,kL,tY,tZ,pG,ua,ub,uc,mb,mc,ud,Bool.or_eq_true,Bool.and_eq_true]
  repeat' (first | refine And.intro ?_ ?_ | intro _)
  all_goals first
   |assumption
   |exact trivial
   |rfl
   |omega
   |(repeat (first | assumption | apply fk | apply oH | apply qK | refine Or.inr ?_ | refine And.intro ?_ ?_ | exact trivial | exact rf _ _ | rfl)
     done)
   |((repeat refine Or.inr ?_)
     exact br (by simp only [List.length_append,List.length_cons,List.length_nil];omega))
   |(simp only [List.length_append,List.length_cons,List.length_nil]
     omega)
   |((repeat refine Or.inr ?_)
     exact br (by omega))
   |(repeat' apply mm
     all_goals first | omega | (simp only [List.length_append,List.length_cons,List.length_nil];omega))
   |(try simp only [Bool.or_false,Bool.false_eq_true,Bool.and_eq_true,ay,ax,aw,aE]at *
     rw [ag (by omega) (by omega)]
     omega)
   |(try simp only [Bool.or_false,Bool.false_eq_true,Bool.and_eq_true,ay,ax,aw,aE]at *
     rw [ag (by omega) (by omega)]
     simp only [List.length_append,List.length_cons,List.length_nil]
     omega)
   |(simp only [Bool.or_false,Bool.false_eq_true,Bool.and_eq_true,ay,ax,aw,aE]at *
     omega)
   |(exfalso
     simp only [Bool.or_false,Bool.false_eq_true,Bool.and_eq_true,ay,ax,aw,aE]at *
     omega)
   |(exfalso;simp_all;done)
theorem Pg(b a s:Int)(c:List Int)(h:aq a s c=true):qu b a s c=true∧aq (ke b a s c) (kf b a s c) c=true∧(kg b a s c).length≤20:=by
 skip
 obtain⟨f0,j0,⟨z0,z1,z2,z3,z4,z5⟩,g0,hq0⟩:=VT c (kZ b a s c) (by
  simp only [oA,kZ,oB,cP,oC,lc,oD,cQ,jA,jB,iO,iP,gP,kh,mU,mV,ki,kj,mW,iQ,kk,ke,kf,kg,qu]
  repeat' refine And.intro ?_ ?_
  all_goals first
   |assumption
   |exact trivial
   |rfl
   |omega
   |(repeat (first | assumption | apply fk | apply oH | apply qK | refine Or.inr ?_ | refine And.intro ?_ ?_ | exact trivial | exact rf _ _ | rfl | apply mm)
     done)
   |((repeat refine Or.inr ?_)
     exact br (by simp only [List.length_append,List.length_cons,List.length_nil];omega))
   |(simp only [List.length_append,List.length_cons,List.length_nil]
     omega)
   |((repeat refine Or.inr ?_)
     exact br (by omega))
   |(repeat' apply mm
     all_goals first | omega | (simp only [List.length_append,List.length_cons,List.length_nil];omega))
   |(try simp only [Bool.or_false,Bool.false_eq_true,Bool.and_eq_true,ay,ax,aw,aE]at *
     rw [ag (by omega) (by omega)]
     omega)
   |(try simp only [Bool.or_false,Bool.false_eq_true,Bool.and_eq_true,ay,ax,aw,aE]at *
     rw [ag (by omega) (by omega)]
     simp only [List.length_append,List.length_cons,List.length_nil]
     omega)
   |(simp only [Bool.or_false,Bool.false_eq_true,Bool.and_eq_true,ay,ax,aw,aE]at *
     omega)
   |(exfalso
     simp only [Bool.or_false,Bool.false_eq_true,Bool.and_eq_true,ay,ax,aw,aE]at *
     omega)
   |(exfalso;simp_all;done))
 obtain⟨p1,p2,rfl⟩:=hq0
 simp only [oA,kZ,oB,cP,oC,lc,oD,cQ,jA,jB,iO,iP,gP,kh,mU,mV,ki,kj,mW,iQ,kk,ke,kf,kg,qu]at f0 g0
 obtain⟨f1,j1,⟨u0,u1,u2,u3,u4⟩,g1,hq1⟩:=VU c (kh b a s c) (by
  simp only [oA,kZ,oB,cP,oC,lc,oD,cQ,jA,jB,iO,iP,gP,kh,mU,mV,ki,kj,mW,iQ,kk,ke,kf,kg,qu,f0,g0,kL,tY,tZ,pG,ua,ub,uc,mb,mc,ud]
  repeat' refine And.intro ?_ ?_
  all_goals first
   |assumption
   |exact trivial
   |rfl
   |omega
   |(repeat (first | assumption | apply fk | apply oH | apply qK | refine Or.inr ?_ | refine And.intro ?_ ?_ | exact trivial | exact rf _ _ | rfl | apply mm)
     done)
   |((repeat refine Or.inr ?_)
     exact br (by simp only [List.length_append,List.length_cons,List.length_nil];omega))
   |(simp only [List.length_append,List.length_cons,List.length_nil]
     omega)
   |((repeat refine Or.inr ?_)
     exact br (by omega))
   |(repeat' apply mm
     all_goals first | omega | (simp only [List.length_append,List.length_cons,List.length_nil];omega))
   |(try simp only [Bool.or_false,Bool.false_eq_true,Bool.and_eq_true,ay,ax,aw,aE]at *
     rw [ag (by omega) (by omega)]
     omega)
   |(try simp only [Bool.or_false,Bool.false_eq_true,Bool.and_eq_true,ay,ax,aw,aE]at *
     rw [ag (by omega) (by omega)]
     simp only [List.length_append,List.length_cons,List.length_nil]
     omega)
   |(simp only [Bool.or_false,Bool.false_eq_true,Bool.and_eq_true,ay,ax,aw,aE]at *
     omega)
   |(exfalso
     simp only [Bool.or_false,Bool.false_eq_true,Bool.and_eq_true,ay,ax,aw,aE]at *
     omega)
   |(exfalso;simp_all;done))
 obtain⟨p3,p4,rfl⟩:=hq1
 simp only [oA,kZ,oB,cP,oC,lc,oD,cQ,jA,jB,iO,iP,gP,kh,mU,mV,ki,kj,mW,iQ,kk,ke,kf,kg,qu,f0,g0]at f1 g1
 refine⟨?_,?_,?_⟩
 all_goals simp only [oA,kZ,oB,cP,oC,lc,oD,cQ,jA,jB,iO,iP,gP,kh,mU,mV,ki,kj,mW,iQ,kk,ke,kf,kg,qu,f0,g0,f1,g1,cJ,sQ,kI,nL,nM,iZ,kJ,ja,kK,nN,zU,zV,zW,zX,zY,zZ,Aa,Ab,Ac,Ad,xT,kH,xU,xV,xW,xX,xY,xZ,ya,yc,yf,yg,yh,yj,kL,tY,tZ,pG,ua,ub,uc,mb,mc,ud,Cr,Cs,and_true,Bool.or_eq_true,Bool.and_eq_true]
 all_goals repeat' refine And.intro ?_ ?_
 all_goals first
   |assumption
   |exact trivial
   |rfl
   |omega
   |(repeat (first | assumption | apply fk | apply oH | apply qK | refine Or.inr ?_ | refine And.intro ?_ ?_ | exact trivial | exact rf _ _ | rfl | apply mm)
     done)
   |((repeat refine Or.inr ?_)
     exact br (by simp only [List.length_append,List.length_cons,List.length_nil];omega))
   |(simp only [List.length_append,List.length_cons,List.length_nil]
     omega)
   |((repeat refine Or.inr ?_)
     exact br (by omega))
   |(repeat' apply mm
     all_goals first | omega | (simp only [List.length_append,List.length_cons,List.length_nil];omega))
   |(try simp only [Bool.or_false,Bool.false_eq_true,Bool.and_eq_true,ay,ax,aw,aE]at *
     rw [ag (by omega) (by omega)]
     omega)
   |(try simp only [Bool.or_false,Bool.false_eq_true,Bool.and_eq_true,ay,ax,aw,aE]at *
     rw [ag (by omega) (by omega)]
     simp only [List.length_append,List.length_cons,List.length_nil]
     omega)
   |(simp only [Bool.or_false,Bool.false_eq_true,Bool.and_eq_true,ay,ax,aw,aE]at *
     omega)
   |(exfalso
     simp only [Bool.or_false,Bool.false_eq_true,Bool.and_eq_true,ay,ax,aw,aE]at *
     omega)
   |(exfalso;simp_all;done)
theorem Ru(b a s:Int)(c:List Int)(h:aq a s c=true):Oz b a s c=true∧aq (Dw b a s c) (Dx b a s c) c=true:=by
 skip
 refine⟨?_,?_⟩
 all_goals simp only [vV,gH,Gs,MO,rZ,sa,vW,MP,MQ,AY,LB,IV,IW,Dw,Dx,Oz,Cr,Cs,and_true,Bool.or_eq_true,Bool.and_eq_true]
 all_goals repeat' refine And.intro ?_ ?_
 all_goals first
   |assumption
   |exact trivial
   |rfl
   |omega
   |(repeat (first | assumption | apply fk | apply oH | apply qK | refine Or.inr ?_ | refine And.intro ?_ ?_ | exact trivial | exact rf _ _ | rfl | apply mm)
     done)
   |((repeat refine Or.inr ?_)
     exact br (by simp only [List.length_append,List.length_cons,List.length_nil];omega))
   |(simp only [List.length_append,List.length_cons,List.length_nil]
     omega)
   |((repeat refine Or.inr ?_)
     exact br (by omega))
   |(repeat' apply mm
     all_goals first | omega | (simp only [List.length_append,List.length_cons,List.length_nil];omega))
   |(try simp only [Bool.or_false,Bool.false_eq_true,Bool.and_eq_true,ay,ax,aw,aE]at *
     rw [ag (by omega) (by omega)]
     omega)
   |(try simp only [Bool.or_false,Bool.false_eq_true,Bool.and_eq_true,ay,ax,aw,aE]at *
     rw [ag (by omega) (by omega)]
     simp only [List.length_append,List.length_cons,List.length_nil]
     omega)
   |(simp only [Bool.or_false,Bool.false_eq_true,Bool.and_eq_true,ay,ax,aw,aE]at *
     omega)
   |(exfalso
     simp only [Bool.or_false,Bool.false_eq_true,Bool.and_eq_true,ay,ax,aw,aE]at *
     omega)
   |(exfalso;simp_all;done)
theorem Xr(a s:Int)(c:List Int)(h:aq a s c=true):VW a s c=true∧aq (LE a s c) (LF a s c) c=true:=by
 skip
 refine⟨?_,?_⟩
 all_goals simp only [wk,NM,NN,TA,wl,qT,wm,As,TB,NO,QF,QG,QH,LE,LF,VW,Cr,Cs,and_true,Bool.or_eq_true,Bool.and_eq_true]
 all_goals repeat' refine And.intro ?_ ?_
 all_goals first
   |assumption
   |exact trivial
   |rfl
   |omega
   |(repeat (first | assumption | apply fk | apply oH | apply qK | refine Or.inr ?_ | refine And.intro ?_ ?_ | exact trivial | exact rf _ _ | rfl | apply mm)
     done)
   |((repeat refine Or.inr ?_)
     exact br (by simp only [List.length_append,List.length_cons,List.length_nil];omega))
   |(simp only [List.length_append,List.length_cons,List.length_nil]
     omega)
   |((repeat refine Or.inr ?_)
     exact br (by omega))
   |(repeat' apply mm
     all_goals first | omega | (simp only [List.length_append,List.length_cons,List.length_nil];omega))
   |(try simp only [Bool.or_false,Bool.false_eq_true,Bool.and_eq_true,ay,ax,aw,aE]at *
     rw [ag (by omega) (by omega)]
     omega)
   |(try simp only [Bool.or_false,Bool.false_eq_true,Bool.and_eq_true,ay,ax,aw,aE]at *
     rw [ag (by omega) (by omega)]
     simp only [List.length_append,List.length_cons,List.length_nil]
     omega)
   |(simp only [Bool.or_false,Bool.false_eq_true,Bool.and_eq_true,ay,ax,aw,aE]at *
     omega)
   |(exfalso
     simp only [Bool.or_false,Bool.false_eq_true,Bool.and_eq_true,ay,ax,aw,aE]at *
     omega)
   |(exfalso;simp_all;done)
theorem adh(r:Int)(x:oK)(hx:match x with | (y0,y1,y2)=>y0≤((500:Nat):Int)∧0≤y0∧(y2.length:Int) + y0=r∧r≤500):
  kC.fin x=true∧ ∃ j y,kC.res x=(j,y)∧(match y with | (y0,y1,y2)=>(y2.length:Int)=r):=by
 refine kC.inv2 (fun k x=>match x with | (y0,y1,y2)=>y0≤(k:Int)∧0≤y0∧(y2.length:Int) + y0=r∧r≤500) (fun y=>match y with | (y0,y1,y2)=>(y2.length:Int)=r) (fun k x hx=> ?_) (fun x hx=> ?_) 500 x (by omega) hx
 ·obtain⟨y0,y1,y2⟩:=x
  obtain⟨h0,h1,h2,h3⟩:=hx
  skip
  simp only [kC,Ob,LT.ok,Cr,Cs,and_true,QP,QQ,QR,QS,QT,Bool.or_eq_true,Bool.and_eq_true]
  repeat' (first | refine And.intro ?_ ?_ | intro _)
  all_goals first
   |assumption
   |exact trivial
   |rfl
   |omega
   |(repeat (first | assumption | apply fk | apply oH | apply qK | refine Or.inr ?_ | refine And.intro ?_ ?_ | exact trivial | exact rf _ _ | rfl)
     done)
   |((repeat refine Or.inr ?_)
     exact br (by simp only [List.length_append,List.length_cons,List.length_nil];omega))
   |(simp only [List.length_append,List.length_cons,List.length_nil]
     omega)
   |((repeat refine Or.inr ?_)
     exact br (by omega))
   |(repeat' apply mm
     all_goals first | omega | (simp only [List.length_append,List.length_cons,List.length_nil];omega))
   |(try simp only [Bool.or_false,Bool.false_eq_true,Bool.and_eq_true,ay,ax,aw,aE]at *
     rw [ag (by omega) (by omega)]
     omega)
   |(try simp only [Bool.or_false,Bool.false_eq_true,Bool.and_eq_true,ay,ax,aw,aE]at *
     rw [ag (by omega) (by omega)]
     simp only [List.length_append,List.length_cons,List.length_nil]
     omega)
   |(simp only [Bool.or_false,Bool.false_eq_true,Bool.and_eq_true,ay,ax,aw,aE]at *
     omega)
   |(exfalso
     simp only [Bool.or_false,Bool.false_eq_true,Bool.and_eq_true,ay,ax,aw,aE]at *
     omega)
   |(exfalso;simp_all;done)
 ·obtain⟨y0,y1,y2⟩:=x
  obtain⟨h0,h1,h2,h3⟩:=hx
  skip
  skip
  simp only [kC,Ob,LT.ok,Cr,Cs,and_true,QP,QQ,QR,QS,QT,Bool.or_eq_true,Bool.and_eq_true]
  repeat' (first | refine And.intro ?_ ?_ | intro _)
  all_goals first
   |assumption
   |exact trivial
   |rfl
   |omega
   |(repeat (first | assumption | apply fk | apply oH | apply qK | refine Or.inr ?_ | refine And.intro ?_ ?_ | exact trivial | exact rf _ _ | rfl)
     done)
   |((repeat refine Or.inr ?_)
     exact br (by simp only [List.length_append,List.length_cons,List.length_nil];omega))
   |(simp only [List.length_append,List.length_cons,List.length_nil]
     omega)
   |((repeat refine Or.inr ?_)
     exact br (by omega))
   |(repeat' apply mm
     all_goals first | omega | (simp only [List.length_append,List.length_cons,List.length_nil];omega))
   |(try simp only [Bool.or_false,Bool.false_eq_true,Bool.and_eq_true,ay,ax,aw,aE]at *
     rw [ag (by omega) (by omega)]
     omega)
   |(try simp only [Bool.or_false,Bool.false_eq_true,Bool.and_eq_true,ay,ax,aw,aE]at *
     rw [ag (by omega) (by omega)]
     simp only [List.length_append,List.length_cons,List.length_nil]
     omega)
   |(simp only [Bool.or_false,Bool.false_eq_true,Bool.and_eq_true,ay,ax,aw,aE]at *
     omega)
   |(exfalso
     simp only [Bool.or_false,Bool.false_eq_true,Bool.and_eq_true,ay,ax,aw,aE]at *
     omega)
   |(exfalso;simp_all;done)
theorem Xt(r s:Int)(h:(leI 0 r&&leI r 500)=true):Hs r s=true∧((qI r s).length:Int)=r:=by
 simp only [Bool.and_eq_true,ax]at h
 obtain⟨f0,j0,⟨z0,z1,z2⟩,g0,hq0⟩:=adh r (Av r s) (by
  simp only [Av,qI,Hs]
  refine⟨by omega,by omega,by simp,by omega⟩)
 simp only [Av,qI,Hs]at f0 g0
 refine⟨?_,?_⟩
 ·simp only [Av,qI,Hs,f0,g0,allT,cond_true]
 ·simp only [Av,qI,Hs,f0,g0];exact hq0
def acn:List SV→List Entry→Option Out
 | [.one ⟨false,[.ptr 0 0]⟩],[.box 157 [.ref 1,.val (.int .i64 x0),.val (.int .i64 x1)],.row false 5 (.int .u8) x2]=>some ⟨.one ⟨false,[.ref 2]⟩,[.box 157 [.ref 1,.val (.int .i64 (vE x0 x1 x2)),.val (.int .i64 (vF x0 x1 x2))],.row false 5 ajC x2],[.row true 173 acH (vG x0 x1 x2)],[aq x0 x1 x2]⟩
 |_,_=>none
def uZ:PF prog:=PF.alt akd acn (by
 intro args es o h bK;unfold acn at h;split at h
 ·rename_i x0 x1 x2
  cases h
  have bK:=iu bK
  have hh:=(Xs x0 x1 x2 bK).1
  have en:=hh
  exact kU rfl (gZ en) rfl rfl rfl
 ·cases h)
def TM:List SV→List Entry→Option Out
 | [.one ⟨false,[.ptr 0 0]⟩],[.box 157 [.ref 1,.val (.int .i64 x0),.val (.int .i64 x1)],.row false 5 (.int .u8) x2]=>some ⟨.one ⟨false,[.ref 2]⟩,[.box 157 [.ref 1,.val (.int .i64 (lx x0 x1 x2)),.val (.int .i64 (ly x0 x1 x2))],.row false 5 ajC x2],[.row true 176 acH (lz x0 x1 x2)],[aq x0 x1 x2]⟩
 |_,_=>none
def lu:PF prog:=PF.alt aee TM (by
 intro args es o h bK;unfold TM at h;split at h
 ·rename_i x0 x1 x2
  cases h
  have bK:=iu bK
  have hh:=(QJ x0 x1 x2 bK).1
  have en:=hh
  exact kU rfl (gZ en) rfl rfl rfl
 ·cases h)
def SL:List SV→List Entry→Option Out
 | [.one ⟨false,[.ptr 0 0]⟩,.one ⟨false,[.val (.int .i64 x0)]⟩],[.box 157 [.ref 1,.val (.int .i64 x1),.val (.int .i64 x2)],.row false 5 (.int .u8) x3]=>some ⟨.one ⟨false,[.ref 2]⟩,[.box 157 [.ref 1,.val (.int .i64 (ke x0 x1 x2 x3)),.val (.int .i64 (kf x0 x1 x2 x3))],.row false 5 ajC x3],[.row true 100 acG (kg x0 x1 x2 x3)],[aq x1 x2 x3]⟩
 |_,_=>none
def kb:PF prog:=PF.alt ac8 SL (by
 intro args es o h bK;unfold SL at h;split at h
 ·rename_i x0 x1 x2 x3
  cases h
  have bK:=iu bK
  have hh:=(Pg x0 x1 x2 x3 bK).1
  have en:=hh
  exact kU rfl (gZ en) rfl rfl rfl
 ·cases h)
def Ux:List SV→List Entry→Option Out
 | [.one ⟨false,[.ptr 0 0]⟩,.one ⟨false,[.val (.int .i64 x0)]⟩],[.box 157 [.ref 1,.val (.int .i64 x1),.val (.int .i64 x2)],.row false 5 (.int .u8) x3]=>some ⟨.one ⟨true,[.val (.int .i64 (IV x0 x1 x2 x3)),.val (.int .i64 (IW x0 x1 x2 x3))]⟩,[.box 157 [.ref 1,.val (.int .i64 (Dw x0 x1 x2 x3)),.val (.int .i64 (Dx x0 x1 x2 x3))],.row false 5 ajC x3],[],[aq x1 x2 x3]⟩
 |_,_=>none
def Oc:PF prog:=PF.alt afE Ux (by
 intro args es o h bK;unfold Ux at h;split at h
 ·rename_i x0 x1 x2 x3
  cases h
  have bK:=iu bK
  have hh:=(Ru x0 x1 x2 x3 bK).1
  have en:=hh
  exact kU rfl (gZ en) rfl rfl rfl
 ·cases h)
def acl:List SV→List Entry→Option Out
 | [.one ⟨false,[.ptr 0 0]⟩],[.box 157 [.ref 1,.val (.int .i64 x0),.val (.int .i64 x1)],.row false 5 (.int .u8) x2]=>some ⟨.one ⟨true,[.val (.int .i64 (QF x0 x1 x2)),.val (.int .i64 (QG x0 x1 x2)),.val (.bool (QH x0 x1 x2))]⟩,[.box 157 [.ref 1,.val (.int .i64 (LE x0 x1 x2)),.val (.int .i64 (LF x0 x1 x2))],.row false 5 ajC x2],[],[aq x0 x1 x2]⟩
 |_,_=>none
def Vk:PF prog:=PF.alt aj9 acl (by
 intro args es o h bK;unfold acl at h;split at h
 ·rename_i x0 x1 x2
  cases h
  have bK:=iu bK
  have hh:=(Xr x0 x1 x2 bK).1
  have en:=hh
  exact kU rfl (gZ en) rfl rfl rfl
 ·cases h)
def aco:List SV→List Entry→Option Out
 | [.one ⟨false,[.val (.int .i64 x0)]⟩,.one ⟨false,[.val (.int .i64 x1)]⟩],[]=>some ⟨.one ⟨false,[.ref 0]⟩,[],[.row true 2 aiQ (qI x0 x1)],[leI 0 x0&&leI x0 500]⟩
 |_,_=>none
def Vl:PF prog:=PF.alt ake aco (by
 intro args es o h bK;unfold aco at h;split at h
 ·rename_i x0 x1
  cases h
  have bK:=iu bK
  have hh:=(Xt x0 x1 bK).1
  have en:=hh
  exact kU rfl (gZ en) rfl rfl rfl
 ·cases h)
end Go.SX
namespace Go.SX
open Go.Proofs Go.Proofs.Tryz
set_option maxRecDepth 100000
def ahw(n day:Int)(fs lf:L3)(pl ls:L2)(s:RS):Int×Int×Int×Int×LI×LI×L3×List LI×L3×L2×L2:=(s.2.2.2.2,n,s.1,day,s.2.2.2.1,s.2.1,fs,s.2.2.1,lf,pl,ls)
def qY(b:Int×(Int×((Int×Int)×(Int×(Int×Bool))))):(Int×Int×Int×Int×List Int×List Int×List (Int×(Int×Int))×List (List Int)×List (Int×(Int×Int))×List (Int×Int)×List (Int×Int))→Nat ⊕ (Int×Int×Int×Int×List Int×List Int×List (Int×(Int×Int))×List (List Int)×List (Int×(Int×Int))×List (Int×Int)×List (Int×Int))
 |(y1,y3,y4,y5,y6,y7,y8,y9,y10,y11,y12)=>(.inr ((bif bif(bif(b.1)==(0:Int)then(HQ y3 y4 y5 b.1 (b.2.1) (b.2.2.1.1) (b.2.2.1.2) (b.2.2.2.1) (b.2.2.2.2.1) b.2.2.2.2.2 y7 y8 y9 y10 y11 y12)==(0:Int)else false)then cj y3 (b.2.1) y7 else false then IntKind.wrap .i64 (y1 + (1:Int))else y1),LV y3 y4 y5 b.1 (b.2.1) (b.2.2.1.1) (b.2.2.1.2) (b.2.2.2.1) (b.2.2.2.2.1) b.2.2.2.2.2 y7 y8 y9 y10 y11 y12,LW y3 y4 y5 b.1 (b.2.1) (b.2.2.1.1) (b.2.2.1.2) (b.2.2.2.1) (b.2.2.2.2.1) b.2.2.2.2.2 y7 y8 y9 y10 y11 y12,LX y3 y4 y5 b.1 (b.2.1) (b.2.2.1.1) (b.2.2.1.2) (b.2.2.2.1) (b.2.2.2.2.1) b.2.2.2.2.2 y7 y8 y9 y10 y11 y12,y6++([HQ y3 y4 y5 b.1 (b.2.1) (b.2.2.1.1) (b.2.2.1.2) (b.2.2.2.1) (b.2.2.2.2.1) b.2.2.2.2.2 y7 y8 y9 y10 y11 y12]),LY y3 y4 y5 b.1 (b.2.1) (b.2.2.1.1) (b.2.2.1.2) (b.2.2.2.1) (b.2.2.2.2.1) b.2.2.2.2.2 y7 y8 y9 y10 y11 y12,LZ y3 y4 y5 b.1 (b.2.1) (b.2.2.1.1) (b.2.2.1.2) (b.2.2.2.1) (b.2.2.2.2.1) b.2.2.2.2.2 y7 y8 y9 y10 y11 y12,Ma y3 y4 y5 b.1 (b.2.1) (b.2.2.1.1) (b.2.2.1.2) (b.2.2.2.1) (b.2.2.2.2.1) b.2.2.2.2.2 y7 y8 y9 y10 y11 y12,Mb y3 y4 y5 b.1 (b.2.1) (b.2.2.1.1) (b.2.2.1.2) (b.2.2.2.1) (b.2.2.2.2.1) b.2.2.2.2.2 y7 y8 y9 y10 y11 y12,Mc y3 y4 y5 b.1 (b.2.1) (b.2.2.1.1) (b.2.2.1.2) (b.2.2.2.1) (b.2.2.2.2.1) b.2.2.2.2.2 y7 y8 y9 y10 y11 y12,(Md y3 y4 y5 b.1 (b.2.1) (b.2.2.1.1) (b.2.2.1.2) (b.2.2.2.1) (b.2.2.2.2.1) b.2.2.2.2.2 y7 y8 y9 y10 y11 y12)))
def oU(y2:List (Int×(Int×((Int×Int)×(Int×(Int×Bool))))))(i:Nat):(Int×Int×Int×Int×List Int×List Int×List (Int×(Int×Int))×List (List Int)×List (Int×(Int×Int))×List (Int×Int)×List (Int×Int))→nE
 |(y1,y3,y4,y5,y6,y7,y8,y9,y10,y11,y12)=>((i:Int),y1,y2,y3,y4,y5,y6,y7,y8,y9,y10,y11,y12)
def Qa:nE→Int×Int×Int×Int×List Int×List Int×List (Int×(Int×Int))×List (List Int)×List (Int×(Int×Int))×List (Int×Int)×List (Int×Int)
 |(_,y1,_,y3,y4,y5,y6,y7,y8,y9,y10,y11,y12)=>(y1,y3,y4,y5,y6,y7,y8,y9,y10,y11,y12)
theorem aii(y2:List (Int×(Int×((Int×Int)×(Int×(Int×Bool))))))(y1 y3 y4 y5:Int)(y6 y7:List Int)(y8:List (Int×(Int×Int)))(y9:List (List Int))(y10:List (Int×(Int×Int)))(y11 y12:List (Int×Int))(hn:y2.length≤9223372036854775807)(n day:Int)(fs lf:L3)(pl ls:L2)(ps0:LI)(rs0:List LI)(hX: ∀ x∈y2,isX ps0 rs0 x=true)(s0:RS)(hs0:(y1,y3,y4,y5,y6,y7,y8,y9,y10,y11,y12)=ahw n day fs lf pl ls s0)(hi0:aiL n day fs lf pl ls ps0 rs0 0 s0)(h200:y2.length≤200):
  eK.fin ((0:Int),y1,y2,y3,y4,y5,y6,y7,y8,y9,y10,y11,y12)=true∧eK.res ((0:Int),y1,y2,y3,y4,y5,y6,y7,y8,y9,y10,y11,y12)=((aO (qY) 0 y2 0 (y1,y3,y4,y5,y6,y7,y8,y9,y10,y11,y12)).1,(oU y2) (aO (qY) 0 y2 0 (y1,y3,y4,y5,y6,y7,y8,y9,y10,y11,y12)).2.1 (aO (qY) 0 y2 0 (y1,y3,y4,y5,y6,y7,y8,y9,y10,y11,y12)).2.2):=by
 have ez:=eK.along (oU y2) Qa (qY) 0 (fun i a=> ∃ s,a=ahw n day fs lf pl ls s∧aiL n day fs lf pl ls ps0 rs0 i s) y2 (y1,y3,y4,y5,y6,y7,y8,y9,y10,y11,y12) ⟨s0,hs0,hi0⟩ (by simp only [eK,oU];omega) (fun i b a hb hI=> ?_) (fun a hI=> ?_)
 ·exact ez
 ·obtain⟨y1,y3,y4,y5,y6,y7,y8,y9,y10,y11,y12⟩:=a
  have dZ:=(List.getElem?_eq_some_iff.1 hb).1
  have gQ: ∀ d,Option.getD y2[i]? d=b:=fun d=>by rw [hb];rfl
  have hw:=tw dZ hn
  have cR:ltI (i:Int) (y2.length:Int)=true:=fj (by omega)
  have ta:leI (0:Int) (i:Int)=true:=da (by omega)
  have fB:ltN i y2.length=true:=gp dZ
  refine⟨?_,?_,?_,?_⟩
  ·have hm:=hX b (List.mem_of_getElem? hb)
   obtain⟨s,he,hI⟩:=hI
   obtain⟨hx,_⟩:=Mq hI hm
   obtain⟨o0,o1,o2,o3,o4,o5,o6,o7,o8,o9,o10⟩:=ade hI.1 hx
   simp only [ahw,Prod.mk.injEq]at he
   obtain⟨rfl,rfl,rfl,rfl,rfl,rfl,rfl,rfl,rfl,rfl,rfl⟩:=he
   have uF:s.2.2.2.1.length≤i:=hI.2.2.2
   have hst:b.1=0→rt b.2.1 s.2.1=true:=fun h0=>by
    rcases Ln hx with⟨_,ht⟩ | ⟨h1,_⟩ | ⟨h1,_⟩
    ·obtain⟨t1,t2,t3,_⟩:=hI.1.tn ht
     simp only [rt,t1,t2,t3,allT,cond_true]
    ·rw [h0]at h1;cases h1
    ·rw [h0]at h1;cases h1
   have hst2:b.1=0→(0≤b.2.1∧b.2.1 < s.2.1.length)∧b.2.1.toNat < s.2.1.length:=fun h0=>by
    rcases Ln hx with⟨_,ht⟩ | ⟨h1,_⟩ | ⟨h1,_⟩
    ·have:=UH.1 ht;omega
    ·rw [h0]at h1;cases h1
    ·rw [h0]at h1;cases h1
   have h6:leN (s.2.2.2.1.length + 1) 9223372036854775807=true:=br (by omega)
   have h7:leN ((s.2.2.2.1.length + 1) * 8) 140737488355328=true:=br (by omega)
   simp [Al,Am,An,dW,Ao,dw,sk,eW,eX,eY,bc,xw,xx,qJ,tv,xu,Co,Cp,HJ,HK,HL,HM,HN,HO,HP,Fd,Fe,Ff,Fg,Fh,Fi,Fj,Fk,Fl,Fm,Fo,Fp,Ev,eK,LT.nds,allT,oU,ahw,cR,ta,fB,gQ,o0,o1,o2,o3,o4,o5,o6,o7,o8,o9,o10,h6,h7]
   by_cases h0:b.1=0
   ·exact .inr (hst h0)
   ·exact .inl (.inl h0)
  ·simp [Al,Am,An,dW,Ao,dw,sk,eW,eX,eY,bc,xw,xx,qJ,tv,xu,Co,Cp,HJ,HK,HL,HM,HN,HO,HP,Fd,Fe,Ff,Fg,Fh,Fi,Fj,Fk,Fl,Fm,Fo,Fp,Ev,eK,LT.each,oU,Qa,hw]
  ·simp only [Al,Am,An,dW,Ao,dw,sk,eW,eX,eY,bc,xw,xx,qJ,tv,xu,Co,Cp,HJ,HK,HL,HM,HN,HO,HP,Fd,Fe,Ff,Fg,Fh,Fi,Fj,Fk,Fl,Fm,Fo,Fp,Ev,eK,LT.fn,oU,Qa,qY,Int.toNat_natCast,cR,ta,fB,gQ,cond_true,Bool.cond_self]
  ·intro a' hf
   obtain⟨s,he,hI⟩:=hI
   have hm:=hX b (List.mem_of_getElem? hb)
   obtain⟨hx,hk⟩:=Mq hI hm
   obtain⟨o0,o1,o2,o3,o4,o5,o6,o7,o8,o9,o10⟩:=ade hI.1 hx
   refine⟨stX n day fs lf pl ls s b,?_,hk⟩
   rw [he]at hf
   simp only [ahw,qY,Sum.inr.injEq,o0,o1,o2,o3,o4,o5,o6,o7,o8,o9]at hf
   rw [← hf]
   simp only [ahw,stX,vX,HR]
   generalize stV n s.1 day s.2.1 fs s.2.2.1 lf pl ls b.1 b.2.1 b.2.2.1.1 b.2.2.1.2 b.2.2.2.1 b.2.2.2.2.1 b.2.2.2.2.2=v
   cases b.1==0 <;> cases v==0 <;> rfl
 ·obtain⟨y1,y3,y4,y5,y6,y7,y8,y9,y10,y11,y12⟩:=a
  simp [Al,Am,An,dW,Ao,dw,sk,eW,eX,eY,bc,xw,xx,qJ,tv,xu,Co,Cp,HJ,HK,HL,HM,HN,HO,HP,Fd,Fe,Ff,Fg,Fh,Fi,Fj,Fk,Fl,Fm,Fo,Fp,Ev,eK,LT.out,oU]
def aiO(n day:Int)(fs lf:L3)(pl ls:L2)(s:RS):Int×Int×Int×Int×LI×L3×List LI×L3×L2×L2:=(s.2.2.2.2,n,s.1,day,s.2.1,fs,s.2.2.1,lf,pl,ls)
def dY(b:Int×(Int×((Int×Int)×(Int×(Int×Bool))))):(Int×Int×Int×Int×List Int×List (Int×(Int×Int))×List (List Int)×List (Int×(Int×Int))×List (Int×Int)×List (Int×Int))→Nat ⊕ (Int×Int×Int×Int×List Int×List (Int×(Int×Int))×List (List Int)×List (Int×(Int×Int))×List (Int×Int)×List (Int×Int))
 |(y2,y4,y5,y6,y7,y8,y9,y10,y11,y12)=>(.inr ((bif bif de b.1 (b.2.1) (b.2.2.1.1) (b.2.2.1.2) (b.2.2.2.1) (b.2.2.2.2.1) b.2.2.2.2.2 y4 y5 y6 y7 y8 y9 y10 y11 y12==(0:Int)then bif(b.1==(0:Int))then ad y4 (b.2.1) y7 else false else false then IntKind.wrap .i64 (y2 + (1:Int))else y2),df b.1 (b.2.1) (b.2.2.1.1) (b.2.2.1.2) (b.2.2.2.1) (b.2.2.2.2.1) b.2.2.2.2.2 y4 y5 y6 y7 y8 y9 y10 y11 y12,dg b.1 (b.2.1) (b.2.2.1.1) (b.2.2.1.2) (b.2.2.2.1) (b.2.2.2.2.1) b.2.2.2.2.2 y4 y5 y6 y7 y8 y9 y10 y11 y12,dh b.1 (b.2.1) (b.2.2.1.1) (b.2.2.1.2) (b.2.2.2.1) (b.2.2.2.2.1) b.2.2.2.2.2 y4 y5 y6 y7 y8 y9 y10 y11 y12,di b.1 (b.2.1) (b.2.2.1.1) (b.2.2.1.2) (b.2.2.2.1) (b.2.2.2.2.1) b.2.2.2.2.2 y4 y5 y6 y7 y8 y9 y10 y11 y12,dj b.1 (b.2.1) (b.2.2.1.1) (b.2.2.1.2) (b.2.2.2.1) (b.2.2.2.2.1) b.2.2.2.2.2 y4 y5 y6 y7 y8 y9 y10 y11 y12,dk b.1 (b.2.1) (b.2.2.1.1) (b.2.2.1.2) (b.2.2.2.1) (b.2.2.2.2.1) b.2.2.2.2.2 y4 y5 y6 y7 y9 y11 y12,dm b.1 (b.2.1) (b.2.2.1.1) (b.2.2.1.2) (b.2.2.2.1) (b.2.2.2.2.1) b.2.2.2.2.2 y4 y5 y6 y7 y8 y9 y10 y11 y12,dp b.1 (b.2.1) (b.2.2.1.1) (b.2.2.1.2) (b.2.2.2.1) (b.2.2.2.2.1) b.2.2.2.2.2 y4 y5 y6 y7 y8 y9 y10 y11 y12,(dq b.1 (b.2.1) (b.2.2.1.1) (b.2.2.1.2) (b.2.2.2.1) (b.2.2.2.2.1) b.2.2.2.2.2 y4 y5 y6 y7 y8 y9 y10 y11 y12)))
def eZ(y3:List (Int×(Int×((Int×Int)×(Int×(Int×Bool))))))(i:Nat):(Int×Int×Int×Int×List Int×List (Int×(Int×Int))×List (List Int)×List (Int×(Int×Int))×List (Int×Int)×List (Int×Int))→dX
 |(y2,y4,y5,y6,y7,y8,y9,y10,y11,y12)=>((i:Int),(↑y3.length:Int),y2,y3,y4,y5,y6,y7,y8,y9,y10,y11,y12)
def Da:dX→Int×Int×Int×Int×List Int×List (Int×(Int×Int))×List (List Int)×List (Int×(Int×Int))×List (Int×Int)×List (Int×Int)
 |(_,_,y2,_,y4,y5,y6,y7,y8,y9,y10,y11,y12)=>(y2,y4,y5,y6,y7,y8,y9,y10,y11,y12)
theorem WD(y3:List (Int×(Int×((Int×Int)×(Int×(Int×Bool))))))(y2 y4 y5 y6:Int)(y7:List Int)(y8:List (Int×(Int×Int)))(y9:List (List Int))(y10:List (Int×(Int×Int)))(y11 y12:List (Int×Int))(hn:y3.length≤9223372036854775807)(n day:Int)(fs lf:L3)(pl ls:L2)(ps0:LI)(rs0:List LI)(hX: ∀ x∈y3,isX ps0 rs0 x=true)(s0:RS)(hs0:(y2,y4,y5,y6,y7,y8,y9,y10,y11,y12)=aiO n day fs lf pl ls s0)(hi0:aiL n day fs lf pl ls ps0 rs0 0 s0)(h200:y3.length≤200):
  bz.fin ((0:Int),(↑y3.length:Int),y2,y3,y4,y5,y6,y7,y8,y9,y10,y11,y12)=true∧bz.res ((0:Int),(↑y3.length:Int),y2,y3,y4,y5,y6,y7,y8,y9,y10,y11,y12)=((aO (dY) 0 y3 0 (y2,y4,y5,y6,y7,y8,y9,y10,y11,y12)).1,(eZ y3) (aO (dY) 0 y3 0 (y2,y4,y5,y6,y7,y8,y9,y10,y11,y12)).2.1 (aO (dY) 0 y3 0 (y2,y4,y5,y6,y7,y8,y9,y10,y11,y12)).2.2):=by
 have ez:=bz.along (eZ y3) Da (dY) 0 (fun i a=> ∃ s,a=aiO n day fs lf pl ls s∧aiL n day fs lf pl ls ps0 rs0 i s) y3 (y2,y4,y5,y6,y7,y8,y9,y10,y11,y12) ⟨s0,hs0,hi0⟩ (by simp only [bz,eZ];omega) (fun i b a hb hI=> ?_) (fun a hI=> ?_)
 ·exact ez
 ·obtain⟨y2,y4,y5,y6,y7,y8,y9,y10,y11,y12⟩:=a
  have dZ:=(List.getElem?_eq_some_iff.1 hb).1
  have gQ: ∀ d,Option.getD y3[i]? d=b:=fun d=>by rw [hb];rfl
  have hw:=tw dZ hn
  have cR:ltI (i:Int) (y3.length:Int)=true:=fj (by omega)
  have ta:leI (0:Int) (i:Int)=true:=da (by omega)
  have fB:ltN i y3.length=true:=gp dZ
  refine⟨?_,?_,?_,?_⟩
  ·have hm:=hX b (List.mem_of_getElem? hb)
   obtain⟨s,he,hI⟩:=hI
   obtain⟨hx,_⟩:=Mq hI hm
   obtain⟨o0,o1,o2,o3,o4,o5,o6,o7,o8,o9,o10⟩:=aau hI.1 hx
   simp only [aiO,Prod.mk.injEq]at he
   obtain⟨rfl,rfl,rfl,rfl,rfl,rfl,rfl,rfl,rfl,rfl⟩:=he
   have hst:b.1=0→aU b.2.1 s.2.1=true:=fun h0=>by
    rcases Ln hx with⟨_,ht⟩ | ⟨h1,_⟩ | ⟨h1,_⟩
    ·obtain⟨t1,t2,t3,_⟩:=hI.1.tn ht
     simp only [aU,t1,t2,t3,allT,cond_true]
    ·rw [h0]at h1;cases h1
    ·rw [h0]at h1;cases h1
   simp [lH,bi,ac,lI,ba,gR,bv,bw,bx,ao,bC,bD,rv,rx,ry,rz,rA,rB,rC,rD,rE,rF,pT,pU,pV,pW,pX,pY,pZ,qb,bz,LT.nds,allT,eZ,aiO,aeP,cR,ta,fB,gQ,o0,o1,o2,o3,o4,o5,o6,o7,o8,o9,o10]
   by_cases h0:b.1=0
   ·exact .inr (hst h0)
   ·exact .inl h0
  ·simp [lH,bi,ac,lI,ba,gR,bv,bw,bx,ao,bC,bD,rv,rx,ry,rz,rA,rB,rC,rD,rE,rF,pT,pU,pV,pW,pX,pY,pZ,qb,bz,LT.each,eZ,Da,hw]
  ·simp only [lH,bi,ac,lI,ba,gR,bv,bw,bx,ao,bC,bD,rv,rx,ry,rz,rA,rB,rC,rD,rE,rF,pT,pU,pV,pW,pX,pY,pZ,qb,bz,LT.fn,eZ,Da,dY,Int.toNat_natCast,cR,ta,fB,gQ,cond_true,Bool.cond_self]
  ·intro a' hf
   obtain⟨s,he,hI⟩:=hI
   have hm:=hX b (List.mem_of_getElem? hb)
   obtain⟨hx,hk⟩:=Mq hI hm
   obtain⟨o0,o1,o2,o3,o4,o5,o6,o7,o8,o9,o10⟩:=aau hI.1 hx
   refine⟨stX n day fs lf pl ls s b,?_,hk⟩
   rw [he]at hf
   simp only [aiO,dY,Sum.inr.injEq,aeP,o0,o1,o2,o3,o4,o5,o6,o7,o8,o9]at hf
   rw [← hf]
   simp only [aiO,stX,vX,ads]
   generalize stV n s.1 day s.2.1 fs s.2.2.1 lf pl ls b.1 b.2.1 b.2.2.1.1 b.2.2.1.2 b.2.2.2.1 b.2.2.2.2.1 b.2.2.2.2.2=v
   cases b.1==0 <;> cases v==0 <;> rfl
 ·obtain⟨y2,y4,y5,y6,y7,y8,y9,y10,y11,y12⟩:=a
  simp [lH,bi,ac,lI,ba,gR,bv,bw,bx,ao,bC,bD,rv,rx,ry,rz,rA,rB,rC,rD,rE,rF,pT,pU,pV,pW,pX,pY,pZ,qb,bz,LT.out,eZ]
def dc(y6:List Int)(y8:List (List Int))(b:Int×(Int×((Int×Int)×(Int×(Int×Bool))))):(Unit)→Nat ⊕ (Unit)
 |_=>(bif(xN b.1 (b.2.1) (b.2.2.1.1) (b.2.2.1.2) (b.2.2.2.1) (b.2.2.2.2.1) b.2.2.2.2.2 y6 y8)then(.inl 0)else(.inr ()))
def bY(y2 y3 y4:Int)(y5:List (Int×(Int×((Int×Int)×(Int×(Int×Bool))))))(y6:List Int)(y7:List (Int×(Int×Int)))(y8:List (List Int))(y9:List (Int×(Int×Int)))(y10 y11:List (Int×Int))(i:Nat):(Unit)→bd
 |_=>((i:Int),(↑y5.length:Int),y2,y3,y4,y5,y6,y7,y8,y9,y10,y11)
def mN:bd→Unit
 |(_,_,_,_,_,_,_,_,_,_,_,_)=>()
theorem JB(y2 y3 y4:Int)(y5:List (Int×(Int×((Int×Int)×(Int×(Int×Bool))))))(y6:List Int)(y7:List (Int×(Int×Int)))(y8:List (List Int))(y9:List (Int×(Int×Int)))(y10 y11:List (Int×Int)) (hn:y5.length≤9223372036854775807) (f:RideF y2 y3 y4 y6 y7 y8 y9 y10 y11):
  ak.fin ((0:Int),(↑y5.length:Int),y2,y3,y4,y5,y6,y7,y8,y9,y10,y11)=true∧ak.res ((0:Int),(↑y5.length:Int),y2,y3,y4,y5,y6,y7,y8,y9,y10,y11)=((aO (dc y6 y8) 1 y5 0 ()).1,(bY y2 y3 y4 y5 y6 y7 y8 y9 y10 y11) (aO (dc y6 y8) 1 y5 0 ()).2.1 (aO (dc y6 y8) 1 y5 0 ()).2.2):=by
 have ez:=ak.along (bY y2 y3 y4 y5 y6 y7 y8 y9 y10 y11) mN (dc y6 y8) 1 (fun _ _=>True) y5 () (by trivial) (by simp only [ak,bY];omega) (fun i b a hb hI=> ?_) (fun a hI=> ?_)
 ·exact ez
 ·obtain⟨⟩:=a
  have dZ:=(List.getElem?_eq_some_iff.1 hb).1
  have gQ: ∀ d,Option.getD y5[i]? d=b:=fun d=>by rw [hb];rfl
  have hw:=tw dZ hn
  have cR:ltI (i:Int) (y5.length:Int)=true:=fj (by omega)
  have ta:leI (0:Int) (i:Int)=true:=da (by omega)
  have fB:ltN i y5.length=true:=gp dZ
  refine⟨?_,?_,?_,?_⟩
  ·have e:=(ajE b.1 b.2.1 b.2.2.1.1 b.2.2.1.2 b.2.2.2.1 b.2.2.2.2.1 b.2.2.2.2.2 f).2
   simp [cU,cV,cW,cX,bL,cY,fm,fo,fq,ft,fu,fv,fw,eL,ak,LT.nds,allT,bY,Fu,cR,ta,fB,gQ,e]
  ·simp [cU,cV,cW,cX,bL,cY,fm,fo,fq,ft,fu,fv,fw,eL,ak,LT.each,bY,mN,hw]
  ·simp only [cU,cV,cW,cX,bL,cY,fm,fo,fq,ft,fu,fv,fw,eL,ak,LT.fn,bY,mN,dc,Int.toNat_natCast,cR,ta,fB,gQ,cond_true,Bool.cond_self]
  ·exact fun _ _=>trivial
 ·obtain⟨⟩:=a
  simp [cU,cV,cW,cX,bL,cY,fm,fo,fq,ft,fu,fv,fw,eL,ak,LT.out,bY]
def ajo(ps:LI)(rs:List LI)(xs:List RX):Bool:=xs.any fun x=> !isX ps rs x
def rrC(n mode day:Int)(ps:LI)(fs:L3)(rs:List LI)(lf:L3)(pl ls:L2)(xs:List RX):Int:=bif !re n ps fs rs lf mode pl ls day then 1 else bif ltI 200 (xs.length:Int)then 3 else bif ajo ps rs xs then 2 else 0
def rrE(n mode day:Int)(ps:LI)(fs:L3)(rs:List LI)(lf:L3)(pl ls:L2)(xs:List RX):RS:=xs.foldl (stX n day fs lf pl ls) (mode,ps,rs,[],0)
def rrB(n mode day:Int)(ps:LI)(fs:L3)(rs:List LI)(lf:L3)(pl ls:L2)(xs:List RX):Bool:=rrC n mode day ps fs rs lf pl ls xs==0
def rrN(n mode day:Int)(ps:LI)(fs:L3)(rs:List LI)(lf:L3)(pl ls:L2)(xs:List RX):Int:=bif rrB n mode day ps fs rs lf pl ls xs then n else 0
def rrM(n mode day:Int)(ps:LI)(fs:L3)(rs:List LI)(lf:L3)(pl ls:L2)(xs:List RX):Int:=bif rrB n mode day ps fs rs lf pl ls xs then(rrE n mode day ps fs rs lf pl ls xs).1 else 0
def rrD(n mode day:Int)(ps:LI)(fs:L3)(rs:List LI)(lf:L3)(pl ls:L2)(xs:List RX):Int:=bif rrB n mode day ps fs rs lf pl ls xs then day else 0
def rrP(n mode day:Int)(ps:LI)(fs:L3)(rs:List LI)(lf:L3)(pl ls:L2)(xs:List RX):LI:=bif rrB n mode day ps fs rs lf pl ls xs then(rrE n mode day ps fs rs lf pl ls xs).2.1 else []
def rrF(n mode day:Int)(ps:LI)(fs:L3)(rs:List LI)(lf:L3)(pl ls:L2)(xs:List RX):L3:=bif rrB n mode day ps fs rs lf pl ls xs then fs else []
def rrR(n mode day:Int)(ps:LI)(fs:L3)(rs:List LI)(lf:L3)(pl ls:L2)(xs:List RX):List LI:=bif rrB n mode day ps fs rs lf pl ls xs then(rrE n mode day ps fs rs lf pl ls xs).2.2.1 else []
def rrL(n mode day:Int)(ps:LI)(fs:L3)(rs:List LI)(lf:L3)(pl ls:L2)(xs:List RX):L3:=bif rrB n mode day ps fs rs lf pl ls xs then lf else []
def apY(n mode day:Int)(ps:LI)(fs:L3)(rs:List LI)(lf:L3)(pl ls:L2)(xs:List RX):L2:=bif rrB n mode day ps fs rs lf pl ls xs then pl else []
def apX(n mode day:Int)(ps:LI)(fs:L3)(rs:List LI)(lf:L3)(pl ls:L2)(xs:List RX):L2:=bif rrB n mode day ps fs rs lf pl ls xs then ls else []
def rrV(n mode day:Int)(ps:LI)(fs:L3)(rs:List LI)(lf:L3)(pl ls:L2)(xs:List RX):LI:=bif rrB n mode day ps fs rs lf pl ls xs then(rrE n mode day ps fs rs lf pl ls xs).2.2.2.1 else []
def rrT(n mode day:Int)(ps:LI)(fs:L3)(rs:List LI)(lf:L3)(pl ls:L2)(xs:List RX):Int:=bif rrB n mode day ps fs rs lf pl ls xs then(rrE n mode day ps fs rs lf pl ls xs).2.2.2.2 else 0
theorem app{ps:LI}{rs:List LI}{xs:List RX}(h:ajo ps rs xs=false): ∀ x∈xs,isX ps rs x=true:=by
 simp only [ajo,List.any_eq_false,Bool.not_eq_true',Bool.not_eq_false]at h
 exact h
theorem am3{n mode day:Int}{ps:LI}{fs:L3}{rs:List LI}{lf:L3}{pl ls:L2}(f:RideF n mode day ps fs rs lf pl ls):aiL n day fs lf pl ls ps rs 0 (mode,ps,rs,[],0):=
 ⟨f,rfl,rfl,Nat.le_refl _⟩
theorem aqj{n day:Int}{fs lf:L3}{pl ls:L2}{ps0:LI}{rs0:List LI}{i:Nat}{s:RS}(hI:aiL n day fs lf pl ls ps0 rs0 i s){b:RX}(hm:isX ps0 rs0 b=true):
  qY b (ahw n day fs lf pl ls s)= .inr (ahw n day fs lf pl ls (stX n day fs lf pl ls s b)):=by
 obtain⟨hx,_⟩:=Mq hI hm
 obtain⟨o0,o1,o2,o3,o4,o5,o6,o7,o8,o9,o10⟩:=ade hI.1 hx
 simp only [ahw,qY,o0,o1,o2,o3,o4,o5,o6,o7,o8,o9,stX,vX,HR]
 generalize stV n s.1 day s.2.1 fs s.2.2.1 lf pl ls b.1 b.2.1 b.2.2.1.1 b.2.2.1.2 b.2.2.2.1 b.2.2.2.2.1 b.2.2.2.2.2=v
 cases b.1==0 <;> cases v==0 <;> rfl
theorem aom(n mode day:Int)(ps:LI)(fs:L3)(rs:List LI)(lf:L3)(pl ls:L2)(xs:List RX)(hN:Gb 9223372036854775807 ps fs rs lf pl ls=true):
  JF n mode day ps fs rs lf pl ls xs=rrN n mode day ps fs rs lf pl ls xs∧JG n mode day ps fs rs lf pl ls xs=rrM n mode day ps fs rs lf pl ls xs∧
  JH n mode day ps fs rs lf pl ls xs=rrD n mode day ps fs rs lf pl ls xs∧FT n mode day ps fs rs lf pl ls xs=rrT n mode day ps fs rs lf pl ls xs∧
  FU n mode day ps fs rs lf pl ls xs=rrC n mode day ps fs rs lf pl ls xs∧JI n mode day ps fs rs lf pl ls xs=rrP n mode day ps fs rs lf pl ls xs∧
  JJ n mode day ps fs rs lf pl ls xs=rrF n mode day ps fs rs lf pl ls xs∧JK n mode day ps fs rs lf pl ls xs=rrR n mode day ps fs rs lf pl ls xs∧
  JM n mode day ps fs rs lf pl ls xs=rrL n mode day ps fs rs lf pl ls xs∧JN n mode day ps fs rs lf pl ls xs=apY n mode day ps fs rs lf pl ls xs∧
  HB n mode day ps fs rs lf pl ls xs=apX n mode day ps fs rs lf pl ls xs∧HC n mode day ps fs rs lf pl ls xs=rrV n mode day ps fs rs lf pl ls xs∧
  DI n mode day ps fs rs lf pl ls xs=true:=by
 cases hO:re n ps fs rs lf mode pl ls day with
 |false=>
  have hc:rrC n mode day ps fs rs lf pl ls xs=1:=by simp [rrC,hO]
  have hb:rrB n mode day ps fs rs lf pl ls xs=false:=by rw [rrB,hc];rfl
  simp [JF,JG,JH,FT,FU,JI,JJ,JK,JM,JN,HB,HC,DI,rrN,rrM,rrD,rrT,rrP,rrF,rrR,rrL,apY,apX,rrV,hO,hc,hb,hN,allT]
 |true=>
  have f:=al6 hO
  cases h2:iE xs with
  |true=>
   have h2':ltI 200 (xs.length:Int)=true:=h2
   have hc:rrC n mode day ps fs rs lf pl ls xs=3:=by simp only [rrC,hO,h2',Bool.not_true,cond_false,cond_true]
   have hb:rrB n mode day ps fs rs lf pl ls xs=false:=by rw [rrB,hc];rfl
   simp [JF,JG,JH,FT,FU,JI,JJ,JK,JM,JN,HB,HC,DI,rrN,rrM,rrD,rrT,rrP,rrF,rrR,rrL,apY,apX,rrV,hO,h2,hc,hb,hN,allT]
  |false=>
   have h2':ltI 200 (xs.length:Int)=false:=h2
   have hl:xs.length≤200:=by have:=aw.1 h2';omega
   obtain⟨w1,w2⟩:=aih xs n mode day 0 0 0 ps fs rs lf pl ls [] [] [] [] [] [] (by omega) f
   rw [ru (P:=fun x=> !isX ps rs x) (j:=0) (fun b=>by
    simp only [BL,(ah9 n mode day b.1 b.2.1 b.2.2.1.1 b.2.2.1.2 b.2.2.2.1 b.2.2.2.2.1 b.2.2.2.2.2 ps fs rs lf pl ls hN).1,hO,Bool.true_and];rfl)]at w2
   have a2:iF n mode day ps fs rs lf pl ls xs=ajo ps rs xs:=by
    rw [iF,QW,w2]
    show Nat.beq (bif ajo ps rs xs then 0 else 1) 0=_
    cases ajo ps rs xs <;> rfl
   have w1':Lp.fin eJ (QW n mode day ps fs rs lf pl ls xs)=true:=w1
   cases hB:ajo ps rs xs with
   |true=>
    have hc:rrC n mode day ps fs rs lf pl ls xs=2:=by simp only [rrC,hO,h2',hB,Bool.not_true,cond_false,cond_true]
    have hb:rrB n mode day ps fs rs lf pl ls xs=false:=by rw [rrB,hc];rfl
    rw [hB]at a2
    simp [JF,JG,JH,FT,FU,JI,JJ,JK,JM,JN,HB,HC,DI,rrN,rrM,rrD,rrT,rrP,rrF,rrR,rrL,apY,apX,rrV,hO,h2,a2,w1',hc,hb,hN,allT]
   |false=>
    have hX:=app hB
    have hc:rrC n mode day ps fs rs lf pl ls xs=0:=by simp only [rrC,hO,h2',hB,Bool.not_true,cond_false]
    have hb:rrB n mode day ps fs rs lf pl ls xs=true:=by rw [rrB,hc];rfl
    obtain⟨o1,o2⟩:=ako n mode day f.cp
    obtain⟨v1,v2⟩:=aii xs 0 n mode day [] ps fs rs lf pl ls (by omega) n day fs lf pl ls ps rs hX (mode,ps,rs,[],0) rfl (am3 f) hl
    have hw:=(akt (e:=0) (i:=0) (r:=xs) (f:=qY) (g:=stX n day fs lf pl ls) (emb:=ahw n day fs lf pl ls) (Inv:=fun s=> ∃ i,aiL n day fs lf pl ls ps rs i s)
     (fun b hb s hs=>by obtain⟨i,hI⟩:=hs;exact⟨aqj hI (hX b hb),_,(Mq hI (hX b hb)).2⟩) ⟨0,am3 f⟩).1
    rw [show ((0:Int),n,mode,day,([]:LI),ps,fs,rs,lf,pl,ls)=ahw n day fs lf pl ls (mode,ps,rs,[],0) from rfl,hw]at v2
    rw [hB]at a2
    have v1':Lp.fin eK (HD n mode day ps fs rs lf pl ls xs)=true:=by rw [HD,o1];exact v1
    have v2':Lp.res eK (HD n mode day ps fs rs lf pl ls xs)=(0,oU xs xs.length (ahw n day fs lf pl ls (rrE n mode day ps fs rs lf pl ls xs))):=by
     rw [HD,o1,v2];simp only [Nat.zero_add];rfl
    simp only [JF,JG,JH,FT,FU,JI,JJ,JK,JM,JN,HB,HC,DI,Wc,Wd,We,Wf,Wg,Wh,TE,TF,TG,TH,v2',v1',w1',o2,oU,ahw,rrN,rrM,rrD,rrT,rrP,rrF,rrR,rrL,apY,apX,rrV,hO,h2,a2,hc,hb,hN,allT,Bool.not_true,cond_false,cond_true,Bool.or_true,Bool.and_self,and_self]
theorem amG(n mode day:Int)(ps:LI)(fs:L3)(rs:List LI)(lf:L3)(pl ls:L2)(xs:List RX)(hN:Gb 9223372036854775807 ps fs rs lf pl ls=true):
  wX n mode day ps fs rs lf pl ls xs=rrC n mode day ps fs rs lf pl ls xs∧BN n mode day ps fs rs lf pl ls xs=true:=by
 cases hO:re n ps fs rs lf mode pl ls day with
 |false=>simp [wX,BN,rrC,hO,hN,allT]
 |true=>
  have f:=al6 hO
  cases h2:PE xs with
  |true=>
   have h2':ltI 200 (xs.length:Int)=true:=h2
   simp only [wX,BN,rrC,hO,hN,h2,h2',allT,Bool.not_true,cond_false,cond_true,Bool.or_true,Bool.true_or,and_self,Bool.false_or]
  |false=>
   have h2':ltI 200 (xs.length:Int)=false:=h2
   have hl:xs.length≤200:=by have:=aw.1 h2';omega
   obtain⟨w1,w2⟩:=JB n mode day xs ps fs rs lf pl ls (by omega) f
   rw [ru (P:=fun x=> !isX ps rs x) (j:=0) (fun b=>by
    simp only [dc,xN,(ajE b.1 b.2.1 b.2.2.1.1 b.2.2.1.2 b.2.2.2.1 b.2.2.2.2.1 b.2.2.2.2.2 f).1];rfl)]at w2
   have w1':Lp.fin ak (gq xs n mode day ps fs rs lf pl ls)=true:=w1
   have e:ji xs n mode day ps fs rs lf pl ls=ajo ps rs xs:=by
    rw [ji,qf,gr,gq,w2]
    show leI 0 (bif Nat.beq (bif ajo ps rs xs then 0 else 1) 0 then _ else(-1:Int))=_
    cases ajo ps rs xs with
    |true=>exact da (Int.natCast_nonneg _)
    |false=>rfl
   simp only [wX,BN,nv,qg,rrC,hO,hN,h2,h2',e,w1',allT,Bool.not_true,cond_false,cond_true,Bool.or_true,Bool.true_or,and_self,Bool.false_or]
theorem am5{n mode day:Int}{ps:LI}{fs:L3}{rs:List LI}{lf:L3}{pl ls:L2}{xs:List RX}(h:rrB n mode day ps fs rs lf pl ls xs=true):
  RideF n mode day ps fs rs lf pl ls∧xs.length≤200∧ ∀ x∈xs,isX ps rs x=true:=by
 simp only [rrB,rrC]at h
 cases hO:re n ps fs rs lf mode pl ls day with
 |false=>rw [hO]at h;cases h
 |true=>
  cases h2:ltI 200 (xs.length:Int)with
  |true=>rw [hO,h2]at h;cases h
  |false=>
   cases hB:ajo ps rs xs with
   |true=>rw [hO,h2,hB]at h;cases h
   |false=>exact⟨al6 hO,by have:=aw.1 h2;omega,app hB⟩
theorem aqi{n day:Int}{fs lf:L3}{pl ls:L2}{ps0:LI}{rs0:List LI}{i:Nat}{s:RS}(hI:aiL n day fs lf pl ls ps0 rs0 i s){b:RX}(hm:isX ps0 rs0 b=true):
  dY b (aiO n day fs lf pl ls s)= .inr (aiO n day fs lf pl ls (stX n day fs lf pl ls s b)):=by
 obtain⟨hx,_⟩:=Mq hI hm
 obtain⟨o0,o1,o2,o3,o4,o5,o6,o7,o8,o9,o10⟩:=aau hI.1 hx
 simp only [aiO,dY,aeP,o0,o1,o2,o3,o4,o5,o6,o7,o8,o9,stX,vX,ads]
 generalize stV n s.1 day s.2.1 fs s.2.2.1 lf pl ls b.1 b.2.1 b.2.2.1.1 b.2.2.1.2 b.2.2.2.1 b.2.2.2.2.1 b.2.2.2.2.2=v
 cases b.1==0 <;> cases v==0 <;> rfl
theorem aqf(n mode day:Int)(ps:LI)(fs:L3)(rs:List LI)(lf:L3)(pl ls:L2)(xs:List RX):(rrC n mode day ps fs rs lf pl ls xs !=0)= !rrB n mode day ps fs rs lf pl ls xs:=rfl
theorem anS(n mode day:Int)(ps:LI)(fs:L3)(rs:List LI)(lf:L3)(pl ls:L2)(xs:List RX)(hN:Gb 9223372036854775807 ps fs rs lf pl ls=true):
  Bg n mode day ps fs rs lf pl ls xs=rrT n mode day ps fs rs lf pl ls xs∧Bh n mode day ps fs rs lf pl ls xs=rrC n mode day ps fs rs lf pl ls xs∧
  Bi n mode day ps fs rs lf pl ls xs=true:=by
 obtain⟨c1,c2⟩:=amG n mode day ps fs rs lf pl ls xs hN
 have a0:pA n mode day ps fs rs lf pl ls xs= !rrB n mode day ps fs rs lf pl ls xs:=by rw [pA,c1];rfl
 cases hb:rrB n mode day ps fs rs lf pl ls xs with
 |false=>
  rw [hb,Bool.not_false]at a0
  simp only [Bg,Bh,Bi,rrT,hb,c1,c2,a0,allT,cond_true,cond_false,Bool.true_or,and_self]
 |true=>
  rw [hb,Bool.not_true]at a0
  have hc:rrC n mode day ps fs rs lf pl ls xs=0:=beq_iff_eq.1 hb
  obtain⟨f,hl,hX⟩:=am5 hb
  obtain⟨o1,o2⟩:=alR n mode day f.cp
  obtain⟨v1,v2⟩:=WD xs 0 n mode day ps fs rs lf pl ls (by omega) n day fs lf pl ls ps rs hX (mode,ps,rs,[],0) rfl (am3 f) hl
  have hw:=(akt (e:=0) (i:=0) (r:=xs) (f:=dY) (g:=stX n day fs lf pl ls) (emb:=aiO n day fs lf pl ls) (Inv:=fun s=> ∃ i,aiL n day fs lf pl ls ps rs i s)
   (fun b hb s hs=>by obtain⟨i,hI⟩:=hs;exact⟨aqi hI (hX b hb),_,(Mq hI (hX b hb)).2⟩) ⟨0,am3 f⟩).1
  change aO dY 0 xs 0 ((0:Int),n,mode,day,ps,fs,rs,lf,pl,ls)=_ at hw
  rw [hw]at v2
  have v1':Lp.fin bz (pB n mode day ps fs rs lf pl ls xs)=true:=by rw [pB,o1];exact v1
  have v2':Lp.res bz (pB n mode day ps fs rs lf pl ls xs)=(0,eZ xs xs.length (aiO n day fs lf pl ls (rrE n mode day ps fs rs lf pl ls xs))):=by
   rw [pB,o1,v2];simp only [Nat.zero_add];rfl
  simp only [Bg,Bh,Bi,v2',v1',o2,eZ,aiO,rrT,hb,hc,c1,c2,a0,allT,cond_true,cond_false,Bool.or_true,Bool.and_self,and_self]
theorem aph(n mode day:Int)(ps:LI)(fs:L3)(rs:List LI)(lf:L3)(pl ls:L2)(xs:List RX)(hN:Gb 9223372036854775807 ps fs rs lf pl ls=true):
  Ql n mode day ps fs rs lf pl ls xs=rrT n mode day ps fs rs lf pl ls xs∧Qm n mode day ps fs rs lf pl ls xs=rrC n mode day ps fs rs lf pl ls xs∧
  IE n mode day ps fs rs lf pl ls xs=true:=by
 obtain⟨o0,o1,o2,o3,o4,o5,o6,o7,o8,o9,o10,o11,o12⟩:=aom n mode day ps fs rs lf pl ls xs hN
 exact⟨o3,o4,by simp only [IE,o12,allT,cond_true]⟩
def Pw:List SV→List Entry→Option Out
 | [.one ⟨true,[.val (.int .i64 x0),.ref 0,.ref 1,.ref 2,.ref 3,.val (.int .i64 x1),.ref 4,.ref 5,.val (.int .i64 x2)]⟩,.one ⟨false,[.ref 6]⟩],[.row false 2 (.int .i64) x3,.row false 169 (.pair (.int .i64) (.pair (.int .i64) (.int .i64))) x4,.row false 24 (.sl 2 (.int .i64)) x5,.row false 100 (.pair (.int .i64) (.pair (.int .i64) (.int .i64))) x6,.row false 173 (.pair (.int .i64) (.int .i64)) x7,.row false 176 (.pair (.int .i64) (.int .i64)) x8,.row false 49 (.pair (.int .i64) (.pair (.int .i64) (.pair (.pair (.int .i64) (.int .i64)) (.pair (.int .i64) (.pair (.int .i64) (.bool)))))) x9]=>some ⟨.tup [⟨false,[.val (.int .i64 (rrT x0 x1 x2 x3 x4 x5 x6 x7 x8 x9))]⟩,⟨false,[.val (.int .i64 (rrC x0 x1 x2 x3 x4 x5 x6 x7 x8 x9))]⟩],[.row false 2 aiQ x3,.row false 169 acG x4,.row false 24 (CTy.sl (2:TypeId) aiQ) x5,.row false 100 acG x6,.row false 173 acH x7,.row false 176 acH x8,.row false 49 aa6 x9],[],[Gb 9223372036854775807 x3 x4 x5 x6 x7 x8]⟩
 |_,_=>none
def rc:PF prog:=PF.alt aaJ Pw (by
 intro args es o h bK;unfold Pw at h;split at h
 ·rename_i x0 x1 x2 x3 x4 x5 x6 x7 x8 x9
  cases h
  have bK:=iu bK
  have hh:=aph x0 x1 x2 x3 x4 x5 x6 x7 x8 x9 bK
  obtain⟨e0,e1,en⟩:=hh
  exact kU rfl (gZ en) (by simp only [e0,e1] <;> rfl) rfl rfl
 ·cases h)
def Pu:List SV→List Entry→Option Out
 | [.one ⟨true,[.val (.int .i64 x0),.ref 0,.ref 1,.ref 2,.ref 3,.val (.int .i64 x1),.ref 4,.ref 5,.val (.int .i64 x2)]⟩,.one ⟨false,[.ref 6]⟩],[.row false 2 (.int .i64) x3,.row false 169 (.pair (.int .i64) (.pair (.int .i64) (.int .i64))) x4,.row false 24 (.sl 2 (.int .i64)) x5,.row false 100 (.pair (.int .i64) (.pair (.int .i64) (.int .i64))) x6,.row false 173 (.pair (.int .i64) (.int .i64)) x7,.row false 176 (.pair (.int .i64) (.int .i64)) x8,.row false 49 (.pair (.int .i64) (.pair (.int .i64) (.pair (.pair (.int .i64) (.int .i64)) (.pair (.int .i64) (.pair (.int .i64) (.bool)))))) x9]=>some ⟨.tup [⟨false,[.val (.int .i64 (rrT x0 x1 x2 x3 x4 x5 x6 x7 x8 x9))]⟩,⟨false,[.val (.int .i64 (rrC x0 x1 x2 x3 x4 x5 x6 x7 x8 x9))]⟩],[.row false 2 aiQ x3,.row false 169 acG x4,.row false 24 (CTy.sl (2:TypeId) aiQ) x5,.row false 100 acG x6,.row false 173 acH x7,.row false 176 acH x8,.row false 49 aa6 x9],[],[Gb 9223372036854775807 x3 x4 x5 x6 x7 x8]⟩
 |_,_=>none
def rb:PF prog:=PF.alt aaG Pu (by
 intro args es o h bK;unfold Pu at h;split at h
 ·rename_i x0 x1 x2 x3 x4 x5 x6 x7 x8 x9
  cases h
  have bK:=iu bK
  have hh:=anS x0 x1 x2 x3 x4 x5 x6 x7 x8 x9 bK
  obtain⟨e0,e1,en⟩:=hh
  exact kU rfl (gZ en) (by simp only [e0,e1] <;> rfl) rfl rfl
 ·cases h)
abbrev gL:=Int×Int×List Int×Int×Int×List Int
section
variable (y0 y1:Int)(y2:List Int)(y3 y4:Int)(y5:List Int)
def FK:Bool:=ltI y0 y1
def FL:Bool:=aq y3 y4 y5&&leN (1:Nat) (List.length [(2:Int),(2:Int),(1:Int),(0:Int)])
def FM:Bool:=leI (0:Int) y0
def FN:Bool:=ltI y0 (↑y2.length:Int)
def FO:Bool:=ltN y0.toNat y2.length
def FP:Int:=IntKind.wrap .i64 (y0 + (1:Int))
def FQ:List Int:=List.set y2 y0.toNat (pkV y3 y4 [(2:Int),(2:Int),(1:Int),(0:Int)] y5)
def FR:Int:=pkA y3 [(2:Int),(2:Int),(1:Int),(0:Int)] y5
def FS:Int:=pkS y3 y4 [(2:Int),(2:Int),(1:Int),(0:Int)] y5
end
def Wr:gL→List (Nat×SV)
 |(y0,y1,_,_,_,_)=> [(9,(.one ⟨false,[.val (.int .i64 y0)]⟩)),(4,(.one ⟨false,[.val (.int .i64 y1)]⟩)),(8,(.one ⟨false,[.ref 0]⟩)),(0,(.one ⟨false,[.ptr 1 0]⟩))]
def Wp:gL→List (Nat×Entry)
 |(_,_,y2,y3,y4,y5)=> [(0,(.row true 2 aiQ y2)),(1,(.box 157 [.ref 2,.val (.int .i64 y3),.val (.int .i64 y4)])),(2,(.row false 5 ajC y5))]
def Wv:Nat→gL→List (Nat×SV)
 |_,(_,_,_,_,_,_)=> []
def Wt:Nat→gL→List (Nat×Entry)
 |_,(_,_,y2,y3,y4,y5)=> [(0,(.row true 2 aiQ y2)),(1,(.box 157 [.ref 2,.val (.int .i64 y3),.val (.int .i64 y4)])),(2,(.row false 5 ajC y5))]
def DW:gL→LT gL
 |(y0,y1,y2,y3,y4,y5)=> .ite (FK y0 y1) (.need [FL y3 y4 y5,FM y0,FN y0 y2,FO y0 y2] (.nrm ((FP y0),y1,FQ y0 y2 y3 y4 y5,FR y3 y5,FS y3 y4 y5,y5) [(0,0),(1,1),(2,2)])) (.ext 0 [(0,0),(1,1),(2,2)])
def Ea(s:St):Option gL:=
 (match s.look 9 with
 |some ⟨none,.one ⟨false,[.val (.int .i64 y0)]⟩⟩=>
 (match s.look 4 with
 |some ⟨none,.one ⟨false,[.val (.int .i64 y1)]⟩⟩=>
 (match s.look 8 with
 |some ⟨none,.one ⟨false,[.ref 448]⟩⟩=>
 (match s.look 0 with
 |some ⟨none,.one ⟨false,[.ptr 1 0]⟩⟩=>
 (match s.ent 448 with
 |some (.row true 2 (.int .i64) y2)=>
 (match s.ent 1 with
 |some (.box 157 [.ref 4,.val (.int .i64 y3),.val (.int .i64 y4)])=>
 (match s.ent 4 with
 |some (.row false 5 (.int IntKind.u8) y5)=>
 some (y0,y1,y2,y3,y4,y5)
 |_=>none)
 |_=>none)
 |_=>none)
 |_=>none)
 |_=>none)
 |_=>none)
 |_=>none)
def ea:Lp gL where
 h:=⟨[57,58,59,62,63,64,65,66,67,60,61,9],[0,1,2],[],[]⟩
 JL:=Wr
 JE:=Wp
 XL:=Wv
 XE:=Wt
 q:=fun j=>match j with | _=> .exit 2
 tags:= [0]
 lt:=DW
 fuel:=fun(y0,y1,y2,y3,y4,y5)=>y0.natAbs + y1.natAbs + y2.length + y3.natAbs + y4.natAbs + y5.length
 fix:=fun(_,y1,_,_,_,y5) (y0,_,y2,y3,y4,_)=>(y0,y1,y2,y3,y4,y5)
 σ:= [(0,448),(1,1),(2,4)]
 rd:=Ea
theorem Uh:LoopOk prog (memN [32,33,34,35,36,39,40,8,41,42,43,44,45,46,47,48,49,50,51,52,53,54,55,56,9,57,58,59,62,63,64,65,66,67,60,61,68,69,70,71,6,37,38,7]) ea.F (acO (aL f51 0) 0):=by
 refine Lp.ok (tbl:= [uY,PF.lend uY,PF.fz uY,ka,PF.lend ka,PF.fz ka,kb,PF.lend kb,PF.fz kb,uZ,PF.lend uZ,PF.fz uZ,lu,PF.lend lu,PF.fz lu,af,PF.lend af,PF.fz af,ai,PF.lend ai,PF.fz ai,Vl]) (lf:= []) aM ea (by kernel_rfl) (LOk.nil _) (fun _=>rfl) (fun _ _=>rfl) ?_ ?_ ?_ ?_ (fun _=>rfl) ?_
 ·rintro⟨y0,y1,y2,y3,y4,y5⟩;kernel_rfl
 ·rintro⟨y0,y1,y2,y3,y4,y5⟩;kernel_rfl
 ·intro s x h
  have h:Ea s=some x:=h
  unfold Ea at h
  repeat' split at h
  all_goals cases h
  exact⟨aa (by assumption) rfl (aa (by assumption) rfl (aa (by assumption) rfl (aa (by assumption) rfl (rfl)))),ab rfl (by assumption) rfl (ab rfl (by assumption) rfl (ab rfl (by assumption) rfl (rfl)))⟩
 ·rintro⟨y0,y1,y2,y3,y4,y5⟩;kernel_rfl
 ·rintro⟨y0,y1,y2,y3,y4,y5⟩ z;exact(And.intro rfl trivial)
abbrev ju:=Int×Int×Int×Int×Int×List (List Int)×List Int×List Int
section
variable (y0 y1 y2 y3 y4:Int)(y5:List (List Int))(y6 y7:List Int)
def BB:Bool:=Option.getD y6[Int.toNat y0]? (0:Int)==IntKind.wrap .i64 (IntKind.wrap .i64 ((3:Int) * IntKind.wrap .i64 (y2 - (1:Int))) + (1:Int))
def na:Bool:=bif BB y0 y2 y6 then true else nxV (40:Int) y3 y4 y7==(0:Int)
def BC:Int:=bif !BB y0 y2 y6&&true then nxA (40:Int) y3 y7 else y3
def BD:Int:=bif !BB y0 y2 y6&&true then nxS (40:Int) y3 y4 y7 else y4
def BE:Int×Int×List Int×Int×Int×List Int:=((0:Int),y1,qI y1 (2:Int),BC y0 y2 y3 y6 y7,BD y0 y2 y3 y4 y6 y7,y7)
def BF:List Int×Int×Int×List Int:=(Lp.res ea (BE y0 y1 y2 y3 y4 y6 y7)).2.2.2
def vK:List (List Int):= [bif na y0 y2 y3 y4 y6 y7 then (BF y0 y1 y2 y3 y4 y6 y7).1else qI y1 (2:Int)]
def IY:Int×Int×List Int:=(BF y0 y1 y2 y3 y4 y6 y7).2
def DP:Bool:=ltI y0 (↑y6.length:Int)
def Rw:Bool:=leI (0:Int) y1&&leI y1 (500:Int)
def Rx:Bool:=leI (0:Int) y0
def Ry:Bool:=ltN y0.toNat y6.length
def Rz:Bool:= !(!BB y0 y2 y6&&true)||aq y3 y4 y7
def RA:Bool:= !na y0 y2 y3 y4 y6 y7||Lp.fin ea (BE y0 y1 y2 y3 y4 y6 y7)
def RB:Bool:=leN (List.length y5 + List.length (vK y0 y1 y2 y3 y4 y6 y7)) (9223372036854775807:Nat)
def RC:Bool:=leN ((List.length y5 + List.length (vK y0 y1 y2 y3 y4 y6 y7)) * (24:Nat)) (140737488355328:Nat)
def RD:Int:=IntKind.wrap .i64 (y0 + (1:Int))
def Kq:Int:=bif na y0 y2 y3 y4 y6 y7 then (IY y0 y1 y2 y3 y4 y6 y7).1else BC y0 y2 y3 y6 y7
def IX:Int:=bif na y0 y2 y3 y4 y6 y7 then ((IY y0 y1 y2 y3 y4 y6 y7).2).1else BD y0 y2 y3 y4 y6 y7
def QN:List (List Int):=y5++vK y0 y1 y2 y3 y4 y6 y7
def QO:List Int:=bif na y0 y2 y3 y4 y6 y7 then y7 else y7
end
def aae:ju→List (Nat×SV)
 |(y0,y1,_,_,_,_,_,_)=> [(7,(.one ⟨false,[.val (.int .i64 y0)]⟩)),(3,(.one ⟨false,[.ptr 0 0]⟩)),(4,(.one ⟨false,[.val (.int .i64 y1)]⟩)),(0,(.one ⟨false,[.ptr 1 0]⟩)),(6,(.one ⟨false,[.ref 2]⟩))]
def aac:ju→List (Nat×Entry)
 |(_,_,y2,y3,y4,y5,y6,y7)=> [(0,(.box 26 [.val (.int .i64 y2),.ref 3])),(1,(.box 157 [.ref 4,.val (.int .i64 y3),.val (.int .i64 y4)])),(3,(.row true 2 aiQ y6)),(4,(.row false 5 ajC y7)),(2,(.row true 24 (CTy.sl (2:Nat) aiQ) y5))]
def aai:Nat→ju→List (Nat×SV)
 |_,(_,_,_,_,_,_,_,_)=> [(6,(.one ⟨false,[.ref 2]⟩))]
def aag:Nat→ju→List (Nat×Entry)
 |_,(_,_,y2,y3,y4,y5,y6,y7)=> [(0,(.box 26 [.val (.int .i64 y2),.ref 3])),(1,(.box 157 [.ref 4,.val (.int .i64 y3),.val (.int .i64 y4)])),(2,(.row true 24 (CTy.sl (2:Nat) aiQ) y5)),(3,(.row true 2 aiQ y6)),(4,(.row false 5 ajC y7))]
def IA:ju→LT ju
 |(y0,y1,y2,y3,y4,y5,y6,y7)=> .ite (DP y0 y6) (.need [Rw y1] (.need [Rx y0,DP y0 y6,Ry y0 y6,Rz y0 y2 y3 y4 y6 y7] (.need [RA y0 y1 y2 y3 y4 y6 y7] (.need [RB y0 y1 y2 y3 y4 y5 y6 y7,RC y0 y1 y2 y3 y4 y5 y6 y7] (.nrm ((RD y0),y1,y2,Kq y0 y1 y2 y3 y4 y6 y7,IX y0 y1 y2 y3 y4 y6 y7,QN y0 y1 y2 y3 y4 y5 y6 y7,y6,(QO y0 y2 y3 y4 y6 y7)) [(0,0),(1,1),(2,1920),(3,3),(4,4)]))))) (.ext 0 [(0,0),(1,1),(2,2),(3,3),(4,4)])
def ID(s:St):Option ju:=
 (match s.look 7 with
 |some ⟨none,.one ⟨false,[.val (.int .i64 y0)]⟩⟩=>
 (match s.look 3 with
 |some ⟨none,.one ⟨false,[.ptr 384 0]⟩⟩=>
 (match s.look 4 with
 |some ⟨none,.one ⟨false,[.val (.int .i64 y1)]⟩⟩=>
 (match s.look 0 with
 |some ⟨none,.one ⟨false,[.ptr 0 0]⟩⟩=>
 (match s.look 6 with
 |some ⟨none,.one ⟨false,[.ref 1920]⟩⟩=>
 (match s.ent 384 with
 |some (.box 26 [.val (.int .i64 y2),.ref 320])=>
 (match s.ent 0 with
 |some (.box 157 [.ref 1,.val (.int .i64 y3),.val (.int .i64 y4)])=>
 (match s.ent 320 with
 |some (.row true 2 (.int .i64) y6)=>
 (match s.ent 1 with
 |some (.row false 5 (.int IntKind.u8) y7)=>
 (match s.ent 1920 with
 |some (.row true 24 (.sl 2 (.int .i64)) y5)=>
 some (y0,y1,y2,y3,y4,y5,y6,y7)
 |_=>none)
 |_=>none)
 |_=>none)
 |_=>none)
 |_=>none)
 |_=>none)
 |_=>none)
 |_=>none)
 |_=>none)
 |_=>none)
def gN:Lp ju where
 h:=⟨[32,33,34,35,36,39,40,8,41,42,43,44,45,46,47,48,49,50,51,52,53,54,55,56,9,57,58,59,62,63,64,65,66,67,60,61,68,69,70,71,6,37,38,7],[0,1,3,4],[2],[]⟩
 JL:=aae
 JE:=aac
 XL:=aai
 XE:=aag
 q:=fun j=>match j with | _=> .exit 0
 tags:= [0]
 lt:=IA
 fuel:=fun(y0,y1,y2,y3,y4,y5,y6,y7)=>y0.natAbs + y1.natAbs + y2.natAbs + y3.natAbs + y4.natAbs + y5.length + y6.length + y7.length
 fix:=fun(_,y1,y2,_,_,_,y6,_) (y0,_,_,y3,y4,y5,_,y7)=>(y0,y1,y2,y3,y4,y5,y6,y7)
 σ:= [(0,384),(1,0),(3,320),(4,1),(2,1920)]
 rd:=ID
theorem Yg:LoopOk prog (fun k=>Nat.blt k Tryz.f51.ntmps) gN.F (aL f51 0):=by
 refine Lp.ok (tbl:= [uY,PF.lend uY,PF.fz uY,ka,PF.lend ka,PF.fz ka,kb,PF.lend kb,PF.fz kb,uZ,PF.lend uZ,PF.fz uZ,lu,PF.lend lu,PF.fz lu,af,PF.lend af,PF.fz af,ai,PF.lend ai,PF.fz ai,Vl]) (lf:= [ea.F]) aM gN (by kernel_rfl) (LOk.allT (l:= [acO (aL f51 0) 0]) (by kernel_rfl) (.cons Uh (.nil _))) (fun _=>rfl) (fun _ _=>rfl) ?_ ?_ ?_ ?_ (fun _=>rfl) ?_
 ·rintro⟨y0,y1,y2,y3,y4,y5,y6,y7⟩;kernel_rfl
 ·rintro⟨y0,y1,y2,y3,y4,y5,y6,y7⟩;kernel_rfl
 ·intro s x h
  have h:ID s=some x:=h
  unfold ID at h
  repeat' split at h
  all_goals cases h
  exact⟨aa (by assumption) rfl (aa (by assumption) rfl (aa (by assumption) rfl (aa (by assumption) rfl (aa (by assumption) rfl (rfl))))),ab rfl (by assumption) rfl (ab rfl (by assumption) rfl (ab rfl (by assumption) rfl (ab rfl (by assumption) rfl (ab rfl (by assumption) rfl (rfl)))))⟩
 ·rintro⟨y0,y1,y2,y3,y4,y5,y6,y7⟩;kernel_rfl
 ·rintro⟨y0,y1,y2,y3,y4,y5,y6,y7⟩ z;exact(And.intro rfl trivial)
section
variable (x0 x1:Int)(x2:List Int)
def sc:Int:=IntKind.wrap .i64 ((1:Int) + nxV (3:Int) (lY x0 x1 x2) (yV x0 x1 x2) x2)
def AZ:Int:=nxS (3:Int) (lY x0 x1 x2) (yV x0 x1 x2) x2
def Ba:Int:=zi (jr x0 x1 x2) (nxA (3:Int) (lY x0 x1 x2) x2) (AZ x0 x1 x2) x2
def Bb:Int:=zj (jr x0 x1 x2) (nxA (3:Int) (lY x0 x1 x2) x2) (AZ x0 x1 x2) x2
def lA:Int:=ke (sc x0 x1 x2) (Ba x0 x1 x2) (Bb x0 x1 x2) x2
def Gt:Int:=kf (sc x0 x1 x2) (Ba x0 x1 x2) (Bb x0 x1 x2) x2
def Bc:List Int:= [(3:Int),(3:Int),(3:Int),(2:Int),nxV (6:Int) (lA x0 x1 x2) (Gt x0 x1 x2) x2]
def Bd:Int:=pkA (nxA (6:Int) (lA x0 x1 x2) x2) (Bc x0 x1 x2) x2
def Gu:Int:=nxS (6:Int) (lA x0 x1 x2) (Gt x0 x1 x2) x2
def Gv:Int:=pkS (nxA (6:Int) (lA x0 x1 x2) x2) (Gu x0 x1 x2) (Bc x0 x1 x2) x2
def EZ:Int×Int×Int×Int×Int×List (List Int)×List Int×List Int:=((0:Int),sc x0 x1 x2,jr x0 x1 x2,nxA (40:Int) (Bd x0 x1 x2) x2,nxS (40:Int) (Bd x0 x1 x2) (Gv x0 x1 x2) x2,[],qt x0 x1 x2,x2)
def uh:Int×Int×List (List Int)×List Int×List Int:=(Lp.res gN (EZ x0 x1 x2)).2.2.2.2
def ui:Int:=(uh x0 x1 x2).1
def zA:Int×List (List Int)×List Int×List Int:=(uh x0 x1 x2).2
def zB:Int:=(zA x0 x1 x2).1
def Fa:List (List Int)×List Int×List Int:=(zA x0 x1 x2).2
def ap:List Int:=(Fa x0 x1 x2).2.2
def aG:Bool:=nxV (3:Int) (ui x0 x1 x2) (zB x0 x1 x2) (ap x0 x1 x2)==(0:Int)
def kn:Int:=nxA (3:Int) (ui x0 x1 x2) (ap x0 x1 x2)
def mI:Int:=nxS (3:Int) (ui x0 x1 x2) (zB x0 x1 x2) (ap x0 x1 x2)
def uj:Int:=vE (kn x0 x1 x2) (mI x0 x1 x2) (ap x0 x1 x2)
def uk:Int:=vF (kn x0 x1 x2) (mI x0 x1 x2) (ap x0 x1 x2)
def ul:Int:=lx (uj x0 x1 x2) (uk x0 x1 x2) (ap x0 x1 x2)
def zC:Int:=ly (uj x0 x1 x2) (uk x0 x1 x2) (ap x0 x1 x2)
def LH:Int:=nxV (40:Int) (ul x0 x1 x2) (zC x0 x1 x2) (ap x0 x1 x2)
def bh:Bool:=LH x0 x1 x2==(0:Int)
def bn:Bool:=LH x0 x1 x2==(1:Int)
def qB:Bool:=LH x0 x1 x2==(2:Int)
def LJ:Int:=nxV (40:Int) (kn x0 x1 x2) (mI x0 x1 x2) (ap x0 x1 x2)
def bo:Bool:=LJ x0 x1 x2==(0:Int)
def bB:Bool:=LJ x0 x1 x2==(1:Int)
def qC:Bool:=LJ x0 x1 x2==(2:Int)
def gW:Int:=nxA (40:Int) (ul x0 x1 x2) (ap x0 x1 x2)
def ko:Int:=nxS (40:Int) (ul x0 x1 x2) (zC x0 x1 x2) (ap x0 x1 x2)
def um:Int:=pkV (nxA (6:Int) (lA x0 x1 x2) x2) (Gu x0 x1 x2) (Bc x0 x1 x2) x2
def gX:Int:=nxA (40:Int) (kn x0 x1 x2) (ap x0 x1 x2)
def kq:Int:=nxS (40:Int) (kn x0 x1 x2) (mI x0 x1 x2) (ap x0 x1 x2)
def uo:Int:=nxV (40:Int) (Bd x0 x1 x2) (Gv x0 x1 x2) x2
def qD:List (Int×Int×Int):=zk (jr x0 x1 x2) (nxA (3:Int) (lY x0 x1 x2) x2) (AZ x0 x1 x2) x2
def kr:List (List Int):=(Fa x0 x1 x2).1
def uq:List (List Int):=kr x0 x1 x2++ [[(2:Int)]]
def qE:List (Int×Int×Int):=kg (sc x0 x1 x2) (Ba x0 x1 x2) (Bb x0 x1 x2) x2
def zD:List (Int×Int):=vG (kn x0 x1 x2) (mI x0 x1 x2) (ap x0 x1 x2)
def Fb:List (Int×Int):=bif bo x0 x1 x2 then []else bif bB x0 x1 x2 then []else []
def zE:List (Int×Int):=lz (uj x0 x1 x2) (uk x0 x1 x2) (ap x0 x1 x2)
def LK:Bool:=aq (kn x0 x1 x2) (mI x0 x1 x2) (ap x0 x1 x2)
def LL:Bool:=aq (gW x0 x1 x2) (ko x0 x1 x2) (ap x0 x1 x2)
def LM:Bool:=leN (List.length (kr x0 x1 x2) + List.length [[(2:Int)]]) (9223372036854775807:Nat)
def LN:Bool:=leN ((List.length (kr x0 x1 x2) + List.length [[(2:Int)]]) * (24:Nat)) (140737488355328:Nat)
def LO:Bool:=aq (gX x0 x1 x2) (kq x0 x1 x2) (ap x0 x1 x2)
def DD:Int:=bif aG x0 x1 x2 then bif bh x0 x1 x2 then jr x0 x1 x2 else bif bn x0 x1 x2 then jr x0 x1 x2 else bif qB x0 x1 x2 then jr x0 x1 x2 else jr x0 x1 x2 else bif bo x0 x1 x2 then jr x0 x1 x2 else bif bB x0 x1 x2 then jr x0 x1 x2 else bif qC x0 x1 x2 then jr x0 x1 x2 else jr x0 x1 x2
def DE:Int:=bif aG x0 x1 x2 then bif bh x0 x1 x2 then pkV (gW x0 x1 x2) (ko x0 x1 x2) [(-1:Int),(6:Int)] (ap x0 x1 x2)else bif bn x0 x1 x2 then um x0 x1 x2 else bif qB x0 x1 x2 then um x0 x1 x2 else um x0 x1 x2 else bif bo x0 x1 x2 then pkV (gX x0 x1 x2) (kq x0 x1 x2) [(-1:Int),(6:Int)] (ap x0 x1 x2)else bif bB x0 x1 x2 then um x0 x1 x2 else bif qC x0 x1 x2 then um x0 x1 x2 else um x0 x1 x2
def DF:Int:=bif aG x0 x1 x2 then bif bh x0 x1 x2 then uo x0 x1 x2 else bif bn x0 x1 x2 then uo x0 x1 x2 else bif qB x0 x1 x2 then pkV (gW x0 x1 x2) (ko x0 x1 x2) [(-1:Int),(100000:Int),(100001:Int)] (ap x0 x1 x2)else uo x0 x1 x2 else bif bo x0 x1 x2 then uo x0 x1 x2 else bif bB x0 x1 x2 then uo x0 x1 x2 else bif qC x0 x1 x2 then pkV (gX x0 x1 x2) (kq x0 x1 x2) [(-1:Int),(100000:Int),(100001:Int)] (ap x0 x1 x2)else uo x0 x1 x2
def qw:Int:=bif aG x0 x1 x2 then bif bh x0 x1 x2 then pkA (gW x0 x1 x2) [(-1:Int),(6:Int)] (ap x0 x1 x2)else bif bn x0 x1 x2 then gW x0 x1 x2 else bif qB x0 x1 x2 then pkA (gW x0 x1 x2) [(-1:Int),(100000:Int),(100001:Int)] (ap x0 x1 x2)else gW x0 x1 x2 else bif bo x0 x1 x2 then pkA (gX x0 x1 x2) [(-1:Int),(6:Int)] (ap x0 x1 x2)else bif bB x0 x1 x2 then gX x0 x1 x2 else bif qC x0 x1 x2 then pkA (gX x0 x1 x2) [(-1:Int),(100000:Int),(100001:Int)] (ap x0 x1 x2)else gX x0 x1 x2
def tu:Int:=bif aG x0 x1 x2 then bif bh x0 x1 x2 then pkS (gW x0 x1 x2) (ko x0 x1 x2) [(-1:Int),(6:Int)] (ap x0 x1 x2)else bif bn x0 x1 x2 then ko x0 x1 x2 else bif qB x0 x1 x2 then pkS (gW x0 x1 x2) (ko x0 x1 x2) [(-1:Int),(100000:Int),(100001:Int)] (ap x0 x1 x2)else ko x0 x1 x2 else bif bo x0 x1 x2 then pkS (gX x0 x1 x2) (kq x0 x1 x2) [(-1:Int),(6:Int)] (ap x0 x1 x2)else bif bB x0 x1 x2 then kq x0 x1 x2 else bif qC x0 x1 x2 then pkS (gX x0 x1 x2) (kq x0 x1 x2) [(-1:Int),(100000:Int),(100001:Int)] (ap x0 x1 x2)else kq x0 x1 x2
def qx:List Int:=bif aG x0 x1 x2 then bif bh x0 x1 x2 then qt x0 x1 x2 else bif bn x0 x1 x2 then qt x0 x1 x2 else qt x0 x1 x2 else bif bo x0 x1 x2 then qt x0 x1 x2 else bif bB x0 x1 x2 then qt x0 x1 x2 else qt x0 x1 x2
def qy:List (Int×(Int×Int)):=bif aG x0 x1 x2 then bif bh x0 x1 x2 then qD x0 x1 x2 else bif bn x0 x1 x2 then qD x0 x1 x2 else qD x0 x1 x2 else bif bo x0 x1 x2 then qD x0 x1 x2 else bif bB x0 x1 x2 then qD x0 x1 x2 else qD x0 x1 x2
def mZ:List (List Int):=bif aG x0 x1 x2 then bif bh x0 x1 x2 then kr x0 x1 x2 else bif bn x0 x1 x2 then uq x0 x1 x2 else kr x0 x1 x2 else bif bo x0 x1 x2 then kr x0 x1 x2 else bif bB x0 x1 x2 then uq x0 x1 x2 else kr x0 x1 x2
def qz:List (Int×(Int×Int)):=bif aG x0 x1 x2 then bif bh x0 x1 x2 then qE x0 x1 x2 else bif bn x0 x1 x2 then qE x0 x1 x2 else qE x0 x1 x2 else bif bo x0 x1 x2 then qE x0 x1 x2 else bif bB x0 x1 x2 then qE x0 x1 x2 else qE x0 x1 x2
def qA:List (Int×Int):=bif aG x0 x1 x2 then bif bh x0 x1 x2 then zD x0 x1 x2 else bif bn x0 x1 x2 then zD x0 x1 x2 else zD x0 x1 x2 else Fb x0 x1 x2
def nU:List (Int×Int):=bif aG x0 x1 x2 then bif bh x0 x1 x2 then zE x0 x1 x2 else bif bn x0 x1 x2 then zE x0 x1 x2 else zE x0 x1 x2 else Fb x0 x1 x2
def MR:Bool:=allT [aq x0 x1 x2,aq (lY x0 x1 x2) (yV x0 x1 x2) x2,aq (nxA (3:Int) (lY x0 x1 x2) x2) (AZ x0 x1 x2) x2,aq (Ba x0 x1 x2) (Bb x0 x1 x2) x2,aq (lA x0 x1 x2) (Gt x0 x1 x2) x2,aq (nxA (6:Int) (lA x0 x1 x2) x2) (Gu x0 x1 x2) x2&&leN (1:Nat) (List.length (Bc x0 x1 x2)),aq (Bd x0 x1 x2) (Gv x0 x1 x2) x2,Lp.fin gN (EZ x0 x1 x2),aq (ui x0 x1 x2) (zB x0 x1 x2) (ap x0 x1 x2),!aG x0 x1 x2||LK x0 x1 x2,!aG x0 x1 x2||aq (uj x0 x1 x2) (uk x0 x1 x2) (ap x0 x1 x2),!aG x0 x1 x2||aq (ul x0 x1 x2) (zC x0 x1 x2) (ap x0 x1 x2),!aG x0 x1 x2||(!bh x0 x1 x2||LL x0 x1 x2&&leN (1:Nat) (List.length [(-1:Int),(6:Int)])),!aG x0 x1 x2||(bh x0 x1 x2||(!bn x0 x1 x2||LM x0 x1 x2)),!aG x0 x1 x2||(bh x0 x1 x2||(!bn x0 x1 x2||LN x0 x1 x2)),!aG x0 x1 x2||(bh x0 x1 x2||(bn x0 x1 x2||(!qB x0 x1 x2||LL x0 x1 x2&&leN (1:Nat) (List.length [(-1:Int),(100000:Int),(100001:Int)])))),aG x0 x1 x2||LK x0 x1 x2,aG x0 x1 x2||(!bo x0 x1 x2||LO x0 x1 x2&&leN (1:Nat) (List.length [(-1:Int),(6:Int)])),aG x0 x1 x2||(bo x0 x1 x2||(!bB x0 x1 x2||LM x0 x1 x2)),aG x0 x1 x2||(bo x0 x1 x2||(!bB x0 x1 x2||LN x0 x1 x2)),aG x0 x1 x2||(bo x0 x1 x2||(bB x0 x1 x2||(!qC x0 x1 x2||LO x0 x1 x2&&leN (1:Nat) (List.length [(-1:Int),(100000:Int),(100001:Int)]))))]
end
def Ut:List SV→List Entry→Option Out
 | [.one ⟨false,[.ptr 0 0]⟩],[.box 157 [.ref 1,.val (.int .i64 x0),.val (.int .i64 x1)],.row false 5 (.int .u8) x2]=>some ⟨.one ⟨true,[.val (.int .i64 (DD x0 x1 x2)),.ref 2,.ref 3,.ref 4,.ref 5,.val (.int .i64 (DE x0 x1 x2)),.ref 6,.ref 7,.val (.int .i64 (DF x0 x1 x2))]⟩,[.box 157 [.ref 1,.val (.int .i64 (qw x0 x1 x2)),.val (.int .i64 (tu x0 x1 x2))],.row false 5 ajC x2],[.row true 2 aiQ (qx x0 x1 x2),.row true 169 acG (qy x0 x1 x2),.row true 24 (CTy.sl (2:Nat) aiQ) (mZ x0 x1 x2),.row true 100 acG (qz x0 x1 x2),.row true 173 acH (qA x0 x1 x2),.row true 176 acH (nU x0 x1 x2)],[MR x0 x1 x2]⟩
 |_,_=>none
def afF:PF prog:=PF.ofG prog [uY,PF.lend uY,PF.fz uY,ka,PF.lend ka,PF.fz ka,kb,PF.lend kb,PF.fz kb,uZ,PF.lend uZ,PF.fz uZ,lu,PF.lend lu,PF.fz lu,af,PF.lend af,PF.fz af,ai,PF.lend ai,PF.fz ai,Vl] [gN.F] aM 51 f51 func51 (LOk.fnT (l:= [aL f51 0]) (by kernel_rfl) (.cons Yg (.nil _))) Ut (by
 intro vs es r h;unfold Ut at h;split at h
 ·cases h;kernel_rfl
 ·cases h)
section
variable (x3 x4:Int)(x7:List (List Int))(x11:List Int)
def MS:Int:=nxV (6:Int) (nxA (↑x7.length:Int) x3 x11) (nxS (↑x7.length:Int) x3 x4 x11) x11
def TZ:Bool:=MS x3 x4 x7 x11==(0:Int)
def dU:Bool:=bif TZ x3 x4 x7 x11 then TZ x3 x4 x7 x11 else MS x3 x4 x7 x11==(1:Int)
def vZ:Bool:=ltI (0:Int) (↑x7.length:Int)
def Be:Int:=bif vZ x7 then(↑(List.length (Option.getD x7[Int.toNat (0:Int)]? (Ei (CTy.sl (2:TypeId) aiQ)))):Int)else(1:Int)
def fg:Int:=nxA (6:Int) (nxA (↑x7.length:Int) x3 x11) x11
def fh:Int:=nxS (6:Int) (nxA (↑x7.length:Int) x3 x11) (nxS (↑x7.length:Int) x3 x4 x11) x11
def lB:Bool:=MS x3 x4 x7 x11==(2:Int)
def dV:Int:=bif dU x3 x4 x7 x11 then Dw (Be x7) (fg x3 x7 x11) (fh x3 x4 x7 x11) x11 else bif lB x3 x4 x7 x11 then LE (fg x3 x7 x11) (fh x3 x4 x7 x11) x11 else fg x3 x7 x11
def Bf:Int:=bif dU x3 x4 x7 x11 then Dx (Be x7) (fg x3 x7 x11) (fh x3 x4 x7 x11) x11 else bif lB x3 x4 x7 x11 then LF (fg x3 x7 x11) (fh x3 x4 x7 x11) x11 else fh x3 x4 x7 x11
def Ta:Int:=nxV (80:Int) (dV x3 x4 x7 x11) (Bf x3 x4 x7 x11) x11
def gY:Bool:=Ta x3 x4 x7 x11==(0:Int)
def qG:Int:=nxS (80:Int) (dV x3 x4 x7 x11) (Bf x3 x4 x7 x11) x11
def je:Bool:=Ta x3 x4 x7 x11==(1:Int)
def Tb:Int:=bif dU x3 x4 x7 x11 then(1:Int)else bif lB x3 x4 x7 x11 then(2:Int)else(0:Int)
def Tc:Int:=bif dU x3 x4 x7 x11 then nxV (↑x7.length:Int) x3 x4 x11 else bif lB x3 x4 x7 x11 then(0:Int)else nxV (↑x7.length:Int) x3 x4 x11
def qH:List Int:= [(-1:Int),(↑x7.length:Int)]
def Td:Int:=bif lB x3 x4 x7 x11 then(0:Int)else(0:Int)
def LP:Int:=bif dU x3 x4 x7 x11 then IV (Be x7) (fg x3 x7 x11) (fh x3 x4 x7 x11) x11 else Td x3 x4 x7 x11
def LQ:Int:=bif dU x3 x4 x7 x11 then IW (Be x7) (fg x3 x7 x11) (fh x3 x4 x7 x11) x11 else Td x3 x4 x7 x11
def LR:Int:=bif dU x3 x4 x7 x11 then(0:Int)else bif lB x3 x4 x7 x11 then QF (fg x3 x7 x11) (fh x3 x4 x7 x11) x11 else(0:Int)
def LS:Int:=bif dU x3 x4 x7 x11 then(0:Int)else bif lB x3 x4 x7 x11 then QG (fg x3 x7 x11) (fh x3 x4 x7 x11) x11 else(0:Int)
def LU:Bool:=bif dU x3 x4 x7 x11 then false else bif lB x3 x4 x7 x11 then QH (fg x3 x7 x11) (fh x3 x4 x7 x11) x11 else false
def Fc:Bool:=aq (nxA (80:Int) (dV x3 x4 x7 x11) x11) (qG x3 x4 x7 x11) x11
def DG:Int:=bif gY x3 x4 x7 x11 then pkV (nxA (80:Int) (dV x3 x4 x7 x11) x11) (qG x3 x4 x7 x11) [(-1:Int),(3:Int),(0:Int),(1:Int),(2:Int)] x11 else bif je x3 x4 x7 x11 then Tb x3 x4 x7 x11 else Tb x3 x4 x7 x11
def DH:Int:=bif gY x3 x4 x7 x11 then Tc x3 x4 x7 x11 else bif je x3 x4 x7 x11 then pkV (nxA (80:Int) (dV x3 x4 x7 x11) x11) (qG x3 x4 x7 x11) (qH x7) x11 else Tc x3 x4 x7 x11
def IZ:Int:=bif gY x3 x4 x7 x11 then LP x3 x4 x7 x11 else bif je x3 x4 x7 x11 then LP x3 x4 x7 x11 else LP x3 x4 x7 x11
def Ja:Int:=bif gY x3 x4 x7 x11 then LQ x3 x4 x7 x11 else bif je x3 x4 x7 x11 then LQ x3 x4 x7 x11 else LQ x3 x4 x7 x11
def Jb:Int:=bif gY x3 x4 x7 x11 then LR x3 x4 x7 x11 else bif je x3 x4 x7 x11 then LR x3 x4 x7 x11 else LR x3 x4 x7 x11
def Jc:Int:=bif gY x3 x4 x7 x11 then LS x3 x4 x7 x11 else bif je x3 x4 x7 x11 then LS x3 x4 x7 x11 else LS x3 x4 x7 x11
def Jd:Bool:=bif gY x3 x4 x7 x11 then LU x3 x4 x7 x11 else bif je x3 x4 x7 x11 then LU x3 x4 x7 x11 else LU x3 x4 x7 x11
def nb:Int:=bif gY x3 x4 x7 x11 then pkA (nxA (80:Int) (dV x3 x4 x7 x11) x11) [(-1:Int),(3:Int),(0:Int),(1:Int),(2:Int)] x11 else bif je x3 x4 x7 x11 then pkA (nxA (80:Int) (dV x3 x4 x7 x11) x11) (qH x7) x11 else nxA (80:Int) (dV x3 x4 x7 x11) x11
def qF:Int:=bif gY x3 x4 x7 x11 then pkS (nxA (80:Int) (dV x3 x4 x7 x11) x11) (qG x3 x4 x7 x11) [(-1:Int),(3:Int),(0:Int),(1:Int),(2:Int)] x11 else bif je x3 x4 x7 x11 then pkS (nxA (80:Int) (dV x3 x4 x7 x11) x11) (qG x3 x4 x7 x11) (qH x7) x11 else qG x3 x4 x7 x11
def Je:Bool:=allT [aq x3 x4 x11,aq (nxA (↑x7.length:Int) x3 x11) (nxS (↑x7.length:Int) x3 x4 x11) x11,!dU x3 x4 x7 x11||(!vZ x7||leI (0:Int) (0:Int)),!dU x3 x4 x7 x11||(!vZ x7||vZ x7),!dU x3 x4 x7 x11||(!vZ x7||ltN (Int.toNat (0:Int)) x7.length),!dU x3 x4 x7 x11||aq (fg x3 x7 x11) (fh x3 x4 x7 x11) x11,dU x3 x4 x7 x11||(!lB x3 x4 x7 x11||aq (fg x3 x7 x11) (fh x3 x4 x7 x11) x11),aq (dV x3 x4 x7 x11) (Bf x3 x4 x7 x11) x11,!gY x3 x4 x7 x11||Fc x3 x4 x7 x11&&leN (1:Nat) (List.length [(-1:Int),(3:Int),(0:Int),(1:Int),(2:Int)]),gY x3 x4 x7 x11||(!je x3 x4 x7 x11||Fc x3 x4 x7 x11&&leN (1:Nat) (List.length (qH x7)))]
end
def Uu:List SV→List Entry→Option Out
 | [.one ⟨false,[.ptr 0 0]⟩,.one ⟨true,[.val (.int .i64 _x0),.ref 1,.ref 2,.ref 3,.ref 4,.val (.int .i64 _x1),.ref 5,.ref 6,.val (.int .i64 _x2)]⟩],[.box 157 [.ref 7,.val (.int .i64 x3),.val (.int .i64 x4)],.row false 2 (.int .i64) x5,.row false 169 (.pair (.int .i64) (.pair (.int .i64) (.int .i64))) x6,.row false 24 (.sl 2 (.int .i64)) x7,.row false 100 (.pair (.int .i64) (.pair (.int .i64) (.int .i64))) x8,.row false 173 (.pair (.int .i64) (.int .i64)) x9,.row false 176 (.pair (.int .i64) (.int .i64)) x10,.row false 5 (.int .u8) x11]=>some ⟨.one ⟨true,[.val (.int .i64 (DG x3 x4 x7 x11)),.val (.int .i64 (DH x3 x4 x7 x11)),.val (.int .i64 (IZ x3 x4 x7 x11)),.val (.int .i64 (Ja x3 x4 x7 x11)),.val (.int .i64 (Jb x3 x4 x7 x11)),.val (.int .i64 (Jc x3 x4 x7 x11)),.val (.bool (Jd x3 x4 x7 x11))]⟩,[.box 157 [.ref 7,.val (.int .i64 (nb x3 x4 x7 x11)),.val (.int .i64 (qF x3 x4 x7 x11))],.row false 2 aiQ x5,.row false 169 acG x6,.row false 24 (CTy.sl (2:TypeId) aiQ) x7,.row false 100 acG x8,.row false 173 acH x9,.row false 176 acH x10,.row false 5 ajC x11],[],[Je x3 x4 x7 x11]⟩
 |_,_=>none
def afG:PF prog:=PF.ofG prog [Oc,PF.lend Oc,PF.fz Oc,Vk,PF.lend Vk,PF.fz Vk,af,PF.lend af,PF.fz af,ai,PF.lend ai,PF.fz ai] [] aM 53 f53 func53 (fun c _=>LOk.nil c) Uu (by
 intro vs es r h;unfold Uu at h;split at h
 ·cases h;kernel_rfl
 ·cases h)
 attribute [local irreducible] nxA nxS nxV pkA pkS pkV
def ajk(n:Nat)(l:List (List Int)):Prop:= ∀ x∈l,x.length≤n
theorem apo(n:Nat):ajk n []:=fun _ h=>by cases h
theorem aml{n:Nat}{l:List (List Int)}{x:List Int}(h:ajk n l)(hx:x.length≤n):ajk n (l++ [x]):=fun y hy=>by
 simp only [List.mem_append,List.mem_cons,List.not_mem_nil,or_false]at hy
 rcases hy with hy | rfl
 ·exact h y hy
 ·exact hx
theorem apn{n:Nat}{l:List (List Int)}{x:List Int}(h:ajk n l)(hx:x∈l):x.length≤n:=h x hx
 attribute [local irreducible] ajk
theorem Ui(c:List Int)(x:gL)(hx:match x with | (y0,y1,y2,y3,y4,y5)=>y1 - y0≤((500:Nat):Int)∧0≤y0∧(y2.length:Int)=y1∧y1≤500∧aq y3 y4 y5=true∧y5=c):
  ea.fin x=true∧ ∃ j y,ea.res x=(j,y)∧(match y with | (y0,y1,y2,y3,y4,y5)=>(y2.length:Int)≤500∧aq y3 y4 c=true∧c=y5):=by
 refine ea.inv2 (fun k x=>match x with | (y0,y1,y2,y3,y4,y5)=>y1 - y0≤(k:Int)∧0≤y0∧(y2.length:Int)=y1∧y1≤500∧aq y3 y4 y5=true∧y5=c) (fun y=>match y with | (y0,y1,y2,y3,y4,y5)=>(y2.length:Int)≤500∧aq y3 y4 c=true∧c=y5) (fun k x hx=> ?_) (fun x hx=> ?_) 500 x (by omega) hx
 ·obtain⟨y0,y1,y2,y3,y4,y5⟩:=x
  obtain⟨h0,h1,h2,h3,h4,rfl⟩:=hx
  skip
  simp only [ea,DW,LT.ok,Cr,Cs,and_true,FK,FL,FM,FN,FO,FP,FQ,FR,FS,Bool.or_eq_true,Bool.and_eq_true]
  repeat' (first | refine And.intro ?_ ?_ | intro _)
  all_goals first
   |assumption
   |exact trivial
   |rfl
   |omega
   |(repeat (first | assumption | apply fk | apply oH | apply qK | refine Or.inr ?_ | refine And.intro ?_ ?_ | exact trivial | exact rf _ _ | rfl)
     done)
   |((repeat refine Or.inr ?_)
     exact br (by simp only [List.length_append,List.length_cons,List.length_nil];omega))
   |(simp only [List.length_append,List.length_cons,List.length_nil]
     omega)
   |((repeat refine Or.inr ?_)
     exact br (by omega))
   |(repeat' apply mm
     all_goals first | omega | (simp only [List.length_append,List.length_cons,List.length_nil];omega))
   |(try simp only [Bool.or_false,Bool.false_eq_true,Bool.and_eq_true,ay,ax,aw,aE,Iy,fH,List.length_set]at *
     rw [ag (by omega) (by omega)]
     omega)
   |(try simp only [Bool.or_false,Bool.false_eq_true,Bool.and_eq_true,ay,ax,aw,aE,Iy,fH,List.length_set]at *
     rw [ag (by omega) (by omega)]
     simp only [List.length_append,List.length_cons,List.length_nil]
     omega)
   |(simp only [Bool.or_false,Bool.false_eq_true,Bool.and_eq_true,ay,ax,aw,aE,Iy,fH,List.length_set]at *
     omega)
   |(exfalso
     simp only [Bool.or_false,Bool.false_eq_true,Bool.and_eq_true,ay,ax,aw,aE,Iy,fH,List.length_set]at *
     omega)
   |(exfalso;simp_all;done)
 ·obtain⟨y0,y1,y2,y3,y4,y5⟩:=x
  obtain⟨h0,h1,h2,h3,h4,rfl⟩:=hx
  skip
  skip
  simp only [ea,DW,LT.ok,Cr,Cs,and_true,FK,FL,FM,FN,FO,FP,FQ,FR,FS,Bool.or_eq_true,Bool.and_eq_true]
  repeat' (first | refine And.intro ?_ ?_ | intro _)
  all_goals first
   |assumption
   |exact trivial
   |rfl
   |omega
   |(repeat (first | assumption | apply fk | apply oH | apply qK | refine Or.inr ?_ | refine And.intro ?_ ?_ | exact trivial | exact rf _ _ | rfl)
     done)
   |((repeat refine Or.inr ?_)
     exact br (by simp only [List.length_append,List.length_cons,List.length_nil];omega))
   |(simp only [List.length_append,List.length_cons,List.length_nil]
     omega)
   |((repeat refine Or.inr ?_)
     exact br (by omega))
   |(repeat' apply mm
     all_goals first | omega | (simp only [List.length_append,List.length_cons,List.length_nil];omega))
   |(try simp only [Bool.or_false,Bool.false_eq_true,Bool.and_eq_true,ay,ax,aw,aE,Iy,fH,List.length_set]at *
     rw [ag (by omega) (by omega)]
     omega)
   |(try simp only [Bool.or_false,Bool.false_eq_true,Bool.and_eq_true,ay,ax,aw,aE,Iy,fH,List.length_set]at *
     rw [ag (by omega) (by omega)]
     simp only [List.length_append,List.length_cons,List.length_nil]
     omega)
   |(simp only [Bool.or_false,Bool.false_eq_true,Bool.and_eq_true,ay,ax,aw,aE,Iy,fH,List.length_set]at *
     omega)
   |(exfalso
     simp only [Bool.or_false,Bool.false_eq_true,Bool.and_eq_true,ay,ax,aw,aE,Iy,fH,List.length_set]at *
     omega)
   |(exfalso;simp_all;done)
theorem Yz(c:List Int)(x:ju)(hx:match x with | (y0,y1,y2,y3,y4,y5,y6,y7)=>0≤y0∧(y6.length:Int) - y0≤((9:Nat):Int)∧y6.length≤9∧(1≤y1∧y1≤500)∧aq y3 y4 y7=true∧y5.length + (9:Nat)≤9∧ajk 500 y5∧y7=c):
  gN.fin x=true∧ ∃ j y,gN.res x=(j,y)∧(match y with | (y0,y1,y2,y3,y4,y5,y6,y7)=>aq y3 y4 c=true∧y5.length≤9∧ajk 500 y5∧c=y7):=by
 refine gN.inv2 (fun k x=>match x with | (y0,y1,y2,y3,y4,y5,y6,y7)=>0≤y0∧(y6.length:Int) - y0≤(k:Int)∧y6.length≤9∧(1≤y1∧y1≤500)∧aq y3 y4 y7=true∧y5.length + k≤9∧ajk 500 y5∧y7=c) (fun y=>match y with | (y0,y1,y2,y3,y4,y5,y6,y7)=>aq y3 y4 c=true∧y5.length≤9∧ajk 500 y5∧c=y7) (fun k x hx=> ?_) (fun x hx=> ?_) 9 x (by omega) hx
 ·obtain⟨y0,y1,y2,y3,y4,y5,y6,y7⟩:=x
  obtain⟨h0,h1,h2,h3,h4,h5,h6,rfl⟩:=hx
  have hs:aq (BC y0 y2 y3 y6 y7) (BD y0 y2 y3 y4 y6 y7) y7=true:=by simp only [BC,BD];exact qK (fk h4) h4
  have hf:=Xt y1 2 (by rw [da (by omega),da (by omega)];rfl)
  obtain⟨f1,j1,⟨z0,z1,z2,z3,z4,z5⟩,g1,q1,q2,q3⟩:=Ui y7 (BE y0 y1 y2 y3 y4 y6 y7) (by
   simp only [BE]
   refine⟨by omega,by omega,hf.2,by omega,?_⟩
   exact⟨hs,trivial⟩)
  subst q3
  have hr:leI 0 y1=true∧leI y1 500=true:=⟨da (by omega),da (by omega)⟩
  have hl:(bif na y0 y2 y3 y4 y6 y7 then z2 else qI y1 2).length≤500:=mm (by omega) (by omega)
  have e9:aq (Kq y0 y1 y2 y3 y4 y6 y7) (IX y0 y1 y2 y3 y4 y6 y7) y7=true:=by
   simp only [Kq,IX,IY,BF,g1]
   exact qK q2 hs
  have e6:vK y0 y1 y2 y3 y4 y6 y7= [bif na y0 y2 y3 y4 y6 y7 then z2 else qI y1 2]:=by simp only [vK,BF,g1]
  simp only [gN,IA,LT.ok,Cr,Cs,and_true,DP,Rw,Rx,Ry,Rz,RA,RB,RC,RD,QN,QO,Bool.cond_self,f1,e6,Bool.or_eq_true,Bool.and_eq_true]
  repeat' (first | refine And.intro ?_ ?_ | intro _)
  all_goals first
   |exact aml h6 hl
   |exact e9
   |exact hr.1
   |exact hr.2
   |assumption
   |exact trivial
   |rfl
   |omega
   |(repeat (first | assumption | apply fk | apply oH | apply qK | refine Or.inr ?_ | refine And.intro ?_ ?_ | exact trivial | exact rf _ _ | rfl | exact fk h4 | exact h4)
     done)
   |((repeat refine Or.inr ?_)
     exact br (by simp only [List.length_append,List.length_cons,List.length_nil];omega))
   |(simp only [List.length_append,List.length_cons,List.length_nil]
     omega)
   |((repeat refine Or.inr ?_)
     exact br (by omega))
   |(repeat' apply mm
     all_goals first | omega | (simp only [List.length_append,List.length_cons,List.length_nil];omega))
   |(try simp only [Bool.or_false,Bool.false_eq_true,Bool.and_eq_true,ay,ax,aw,aE,Iy,fH,List.length_set]at *
     rw [ag (by omega) (by omega)]
     omega)
   |(try simp only [Bool.or_false,Bool.false_eq_true,Bool.and_eq_true,ay,ax,aw,aE,Iy,fH,List.length_set]at *
     rw [ag (by omega) (by omega)]
     simp only [List.length_append,List.length_cons,List.length_nil]
     omega)
   |(simp only [Bool.or_false,Bool.false_eq_true,Bool.and_eq_true,ay,ax,aw,aE,Iy,fH,List.length_set]at *
     omega)
   |(exfalso
     simp only [Bool.or_false,Bool.false_eq_true,Bool.and_eq_true,ay,ax,aw,aE,Iy,fH,List.length_set]at *
     omega)
   |(exfalso;simp_all;done)
 ·obtain⟨y0,y1,y2,y3,y4,y5,y6,y7⟩:=x
  obtain⟨h0,h1,h2,h3,h4,h5,h6,rfl⟩:=hx
  have e0:ltI y0 (y6.length:Int)=false:=aiu (by omega)
  simp only [gN,IA,LT.ok,DP,e0,Bool.false_eq_true,false_implies,true_implies,true_and,and_true]
  exact⟨h4,by omega,h6⟩
theorem Rv(a s:Int)(c:List Int)(h:aq a s c=true):MR a s c=true∧aq (qw a s c) (tu a s c) c=true∧
  Gb 1000000 (qx a s c) (qy a s c) (mZ a s c) (qz a s c) (qA a s c) (nU a s c)=true:=by
 obtain⟨_,d1,d2⟩:=ajH a s c h
 have s1:aq (nxA 3 (lY a s c) c) (AZ a s c) c=true:=fk d1
 have n1:=Vm (n:=3) d1 (by omega)
 have r0:sc a s c=1 + nxV 3 (lY a s c) (yV a s c) c:=by simp only [sc];exact ag (by omega) (by omega)
 obtain⟨_,d3,d4⟩:=aeC (jr a s c) _ _ c s1
 have s2:aq (Ba a s c) (Bb a s c) c=true:=d3
 obtain⟨_,d5,d6⟩:=Pg (sc a s c) _ _ c s2
 have s3:aq (lA a s c) (Gt a s c) c=true:=d5
 have s4:aq (nxA 6 (lA a s c) c) (Gu a s c) c=true:=fk s3
 have s5:aq (Bd a s c) (Gv a s c) c=true:=oH s4
 obtain⟨f0,j0,⟨z0,z1,z2,z3,z4,z5,z6,z7⟩,g0,q1,q2,q3,q4⟩:=Yz c (EZ a s c) (by
  simp only [EZ]
  exact⟨by omega,by omega,d2,by omega,fk s5,by simp,apo _,trivial⟩)
 subst q4
 have e12:ui a s c=z3:=by simp only [ui,uh,g0]
 have e14:zB a s c=z4:=by simp only [zB,zA,uh,g0]
 have e16:ap a s c=c:=by simp only [ap,Fa,zA,uh,g0]
 have e39:kr a s c=z5:=by simp only [kr,Fa,zA,uh,g0]
 have s6:aq (kn a s c) (mI a s c) c=true:=by simp only [kn,mI,e12,e14,e16];exact fk q1
 obtain⟨_,d7,d8⟩:=Xs _ _ c s6
 have s7:aq (uj a s c) (uk a s c) c=true:=by simp only [uj,uk,e16];exact d7
 obtain⟨_,d9,d10⟩:=QJ _ _ c s7
 have s8:aq (ul a s c) (zC a s c) c=true:=by simp only [ul,zC,e16];exact d9
 have s9:aq (gW a s c) (ko a s c) c=true:=by simp only [gW,ko,e16];exact fk s8
 have s10:aq (gX a s c) (kq a s c) c=true:=by simp only [gX,kq,e16];exact fk s6
 have l5:z5.length≤9:=q2
 refine⟨?_,?_,?_⟩
 ·have k1:leN (z5.length + [[(2:Int)]].length) 9223372036854775807=true:=br (by simp only [List.length_cons,List.length_nil];omega)
  have k2:leN ((z5.length + [[(2:Int)]].length) * 24) 140737488355328=true:=br (by simp only [List.length_cons,List.length_nil];omega)
  have s11:aq z3 z4 c=true:=q1
  simp only [MR,LK,LL,LM,LN,LO,Bc,e12,e14,e16,e39,h,d1,s1,s2,s3,s4,s5,s6,s7,s8,s9,s10,s11,f0,k1,k2,rf,allT,Bool.or_true,Bool.and_self,cond_true]
 ·simp only [qw,tu,e16]
  cases aG a s c <;> cases bh a s c <;> cases bn a s c <;> cases qB a s c <;> cases bo a s c <;> cases bB a s c <;> cases qC a s c <;> first | exact s9 | exact s10 | exact oH s9 | exact oH s10
 ·have m0:ajk 500 (uq a s c):=by simp only [uq,e39];exact aml q3 (by simp)
  have m1:(uq a s c).length≤10:=by simp only [uq,e39,List.length_append,List.length_cons,List.length_nil];omega
  have m2:(mZ a s c).length≤10∧ajk 500 (mZ a s c):=by
   simp only [mZ,e39]
   cases aG a s c <;> cases bh a s c <;> cases bn a s c <;> cases bo a s c <;> cases bB a s c <;> (simp only [cond_true,cond_false];first | exact⟨by omega,q3⟩ | exact⟨m1,m0⟩)
  have m3:(qx a s c).length≤20:=by
   simp only [qx]
   cases aG a s c <;> cases bh a s c <;> cases bn a s c <;> cases bo a s c <;> cases bB a s c <;> (simp only [cond_true,cond_false];omega)
  have m4:(qy a s c).length≤20:=by
   have d4':(qD a s c).length≤15:=d4
   simp only [qy]
   cases aG a s c <;> cases bh a s c <;> cases bn a s c <;> cases bo a s c <;> cases bB a s c <;> (simp only [cond_true,cond_false];omega)
  have m5:(qz a s c).length≤20:=by
   have d6':(qE a s c).length≤20:=d6
   simp only [qz]
   cases aG a s c <;> cases bh a s c <;> cases bn a s c <;> cases bo a s c <;> cases bB a s c <;> (simp only [cond_true,cond_false];omega)
  have m6:(qA a s c).length≤20:=by
   have d8':(zD a s c).length≤20:=by simp only [zD,e16];exact d8
   simp only [qA,Fb]
   cases aG a s c <;> cases bh a s c <;> cases bn a s c <;> cases bo a s c <;> cases bB a s c <;> (simp only [cond_true,cond_false,List.length_nil];omega)
  have m7:(nU a s c).length≤20:=by
   have d10':(zE a s c).length≤20:=by simp only [zE,e16];exact d10
   simp only [nU,Fb]
   cases aG a s c <;> cases bh a s c <;> cases bn a s c <;> cases bo a s c <;> cases bB a s c <;> (simp only [cond_true,cond_false,List.length_nil];omega)
  have m8:=m2.2
  refine Un.2 ⟨by omega,by omega,⟨by omega,fun x hx=> ?_⟩,by omega,by omega,by omega⟩
  have:=apn m8 hx
  omega
def Uy:List SV→List Entry→Option Out
 | [.one ⟨false,[.ptr 0 0]⟩],[.box 157 [.ref 1,.val (.int .i64 x0),.val (.int .i64 x1)],.row false 5 (.int .u8) x2]=>some ⟨.one ⟨true,[.val (.int .i64 (DD x0 x1 x2)),.ref 2,.ref 3,.ref 4,.ref 5,.val (.int .i64 (DE x0 x1 x2)),.ref 6,.ref 7,.val (.int .i64 (DF x0 x1 x2))]⟩,[.box 157 [.ref 1,.val (.int .i64 (qw x0 x1 x2)),.val (.int .i64 (tu x0 x1 x2))],.row false 5 ajC x2],[.row true 2 aiQ (qx x0 x1 x2),.row true 169 acG (qy x0 x1 x2),.row true 24 (CTy.sl (2:Nat) aiQ) (mZ x0 x1 x2),.row true 100 acG (qz x0 x1 x2),.row true 173 acH (qA x0 x1 x2),.row true 176 acH (nU x0 x1 x2)],[aq x0 x1 x2]⟩
 |_,_=>none
def wY:PF prog:=PF.alt afF Uy (by
 intro args es o h bK;unfold Uy at h;split at h
 ·rename_i x0 x1 x2
  cases h
  have bK:=iu bK
  have hh:=(Rv x0 x1 x2 bK).1
  have en:=hh
  exact kU rfl (gZ en) rfl rfl rfl
 ·cases h)
theorem RE(a s:Int)(rs:List (List Int))(c:List Int)(h:aq a s c=true):Je a s rs c=true∧aq (nb a s rs c) (qF a s rs c) c=true:=by
 have s1:aq (nxA (rs.length:Int) a c) (nxS (rs.length:Int) a s c) c=true:=fk h
 have s2:aq (fg a rs c) (fh a s rs c) c=true:=fk s1
 have d1:=(Ru (Be rs) _ _ c s2).2
 have d2:=(Xr _ _ c s2).2
 have s3:aq (dV a s rs c) (Bf a s rs c) c=true:=by simp only [dV,Bf];exact qK d1 (qK d2 s2)
 have s4:aq (nxA 80 (dV a s rs c) c) (qG a s rs c) c=true:=fk s3
 refine⟨?_,?_⟩
 ·cases h3:vZ rs with
  |false=>simp only [Je,Fc,qH,h,h3,s1,s2,s3,s4,rf,agL,allT,Bool.not_false,Bool.true_or,Bool.or_true,Bool.and_self,cond_true]
  |true=>
   have h4:=ay.1 h3
   have h5:ltN (Int.toNat 0) rs.length=true:=gp (by simp only [Int.toNat_zero];omega)
   simp only [Je,Fc,qH,h,h3,h5,s1,s2,s3,s4,rf,agL,allT,Bool.not_true,Bool.false_or,Bool.or_true,Bool.and_self,cond_true]
 ·simp only [nb,qF,qH]
  exact qK (oH s4) (qK (oH s4) s4)
def Uz:List SV→List Entry→Option Out
 | [.one ⟨false,[.ptr 0 0]⟩,.one ⟨true,[.val (.int .i64 _x0),.ref 1,.ref 2,.ref 3,.ref 4,.val (.int .i64 _x1),.ref 5,.ref 6,.val (.int .i64 _x2)]⟩],[.box 157 [.ref 7,.val (.int .i64 x3),.val (.int .i64 x4)],.row false 2 (.int .i64) x5,.row false 169 (.pair (.int .i64) (.pair (.int .i64) (.int .i64))) x6,.row false 24 (.sl 2 (.int .i64)) x7,.row false 100 (.pair (.int .i64) (.pair (.int .i64) (.int .i64))) x8,.row false 173 (.pair (.int .i64) (.int .i64)) x9,.row false 176 (.pair (.int .i64) (.int .i64)) x10,.row false 5 (.int .u8) x11]=>some ⟨.one ⟨true,[.val (.int .i64 (DG x3 x4 x7 x11)),.val (.int .i64 (DH x3 x4 x7 x11)),.val (.int .i64 (IZ x3 x4 x7 x11)),.val (.int .i64 (Ja x3 x4 x7 x11)),.val (.int .i64 (Jb x3 x4 x7 x11)),.val (.int .i64 (Jc x3 x4 x7 x11)),.val (.bool (Jd x3 x4 x7 x11))]⟩,[.box 157 [.ref 7,.val (.int .i64 (nb x3 x4 x7 x11)),.val (.int .i64 (qF x3 x4 x7 x11))],.row false 2 aiQ x5,.row false 169 acG x6,.row false 24 (CTy.sl (2:TypeId) aiQ) x7,.row false 100 acG x8,.row false 173 acH x9,.row false 176 acH x10,.row false 5 ajC x11],[],[aq x3 x4 x11]⟩
 |_,_=>none
def wZ:PF prog:=PF.alt afG Uz (by
 intro args es o h bK;unfold Uz at h;split at h
 ·rename_i _x0 _x1 _x2 x3 x4 x5 x6 x7 x8 x9 x10 x11
  cases h
  have bK:=iu bK
  have hh:=(RE x3 x4 x7 x11 bK).1
  have en:=hh
  exact kU rfl (gZ en) rfl rfl rfl
 ·cases h)
end Go.SX
