/- What functions of the program come to, and what that says in plain words: part 4. -/
import Derived.Test.YtbiaajlhigmdhaaGreatDoorMc
import Derived.Test.YtbiaajlhigmdhaaGreatDoorTXh
import Derived.Test.YtbiaajlhigmdhaaGreatDoorProg
import Derived.Test.YtbiaajlhigmdhaaGreatDoorTXi
set_option linter.unusedSimpArgs false
set_option linter.unusedVariables false
open Bool renaming and_eq_true → q9
open List renaming length_singleton → w5
open List renaming length_append → w7
open List renaming length_cons → w8
open Bool renaming or_true → w9
open Bool renaming cond_self → j7
open List renaming length_replicate → j8
open Int renaming toNat → j9
open List renaming length → v4
open Option renaming getD → v5
open Go.IntKind renaming wrap → v6
open List renaming replicate → v7
namespace Go.SX
open Go.Proofs Go.Proofs.Tryz
set_option maxRecDepth 100000
theorem Yb(M m:Nat)(x:jq)(hx:match x with | (a,b,c,d,e,f,g,i,l,n)=>((iW b n).length:Int)≤a + (100:Nat)∧0≤a∧f.length + (100:Nat)≤M∧M≤20000∧(m≤f.length∧(0≤b∧b < (n.length:Int))∧aa4 100 n=true∧g.length≤50∧i.length≤50)):
  eR.fin x=true∧ ∃ j y,eR.res x=(j,y)∧(match y with | (a,b,c,d,e,f,g,i,l,n)=>f.length≤M∧m≤f.length):=by
 refine eR.inv2 (fun k x=>match x with | (a,b,c,d,e,f,g,i,l,n)=>((iW b n).length:Int)≤a + k∧0≤a∧f.length + k≤M∧M≤20000∧(m≤f.length∧(0≤b∧b < (n.length:Int))∧aa4 100 n=true∧g.length≤50∧i.length≤50)) (fun y=>match y with | (a,b,c,d,e,f,g,i,l,n)=>f.length≤M∧m≤f.length) (fun k x hx=> ?_) (fun x hx=> ?_) 100 x (by omega) hx
 ·obtain⟨a,b,c,d,e,f,g,i,l,n⟩:=x
  obtain⟨h0,h1,h2,h3,hm,⟨h4,h5⟩,h6,h7,h8⟩:=hx
  have p0:zJ b=true:=aS h4
  have p1:zK b n=true:=cI h5
  have p2:zL b n=true:=dE (by omega)
  cases ht:zM a b n with
  |false=>
   simp only [eR,yL,LT.ok,KV,KW,p0,p1,p2,ht,Bool.false_eq_true,false_implies,true_implies,true_and,and_true]
   omega
  |true=>
   have eG:a < ((iW b n).length:Int):=Kf.1 ht
   have hA:(iW b n).length≤100:=by
    have:=(NG.1 h6).2 (v5 n[b.toNat]? (ub (.pair .str (.sl 122 (.pair (.int .i64) (.pair .str (.int .i64))))))) (by
     rw [List.getElem?_eq_getElem (show b.toNat < n.length by omega)];exact List.getElem_mem _)
    exact(abu.1 this.2).1
   have p4:Qk a=true:=aS h1
   have p5:Ql a b n=true:=dE (by omega)
   have p6:Qm a b g i n=true:=by
    refine uq ?_
    simp only [GR,aG (show g.length≤9223372036854775807 by omega),aG (show i.length≤9223372036854775807 by omega),allT,w9,cond_true]
   have b1:leN (f.length + 1) 9223372036854775807=true:=aG (by omega)
   have b2:leN ((f.length + 1) * 16) 140737488355328=true:=aG (by omega)
   have p7:Qn a b f g i n=true:=uq b1
   have p8:Qo a b f g i n=true:=uq b2
   have p9:Qp a b f n=true:=uq (uq b1)
   have p10:NK a b f n=true:=uq (uq b2)
   have p11:NL a b f n=true:=uq (uq (uq b1))
   have p12:NM a b f n=true:=uq (uq (uq b2))
   have p13:NN a b f n=true:=uq (uq (uq (uq b1)))
   have p14:NO a b f n=true:=uq (uq (uq (uq b2)))
   have p15:NP a b c f n=true:=uq (uq (uq (uq b1)))
   have p16:NQ a b c f n=true:=uq (uq (uq (uq b2)))
   have w:kU a=a + 1:=aR (by omega) (by omega)
   have l19:(EV a b f g i n).length=f.length + 1:=by simp only [EV,yN,w7,w5]
   have l21:(EW f).length=f.length + 1:=by simp only [EW,w7,w5]
   have l23:(EX f).length=f.length + 1:=by simp only [EX,w7,w5]
   have l25:(EY a b f n).length=f.length + 1:=by simp only [EY,yO,w7,w5]
   have l27:(EZ c f).length=f.length + 1:=by simp only [EZ,wX,w7,w5]
   have nx: ∀ {q:List IN},q.length=f.length + 1→((iW b n).length:Int)≤(kU a) + (k:Int)∧0≤kU a∧q.length + k≤M∧M≤20000∧(m≤q.length∧(0≤b∧b < (n.length:Int))∧aa4 100 n=true∧g.length≤50∧i.length≤50):=fun hq=>⟨by omega,by omega,by omega,h3,by omega,⟨h4,h5⟩,h6,h7,h8⟩
   simp only [eR,yL,LT.ok,KV,KW,and_true,true_and,ht,p0,p1,p2,p4,p5,p6,p7,p8,p9,p10,p11,p12,p13,p14,p15,p16,Bool.false_eq_true,reduceCtorEq,false_implies,true_implies]
   exact⟨fun _=>nx l19,fun _=>⟨fun _=>nx l21,fun _=>⟨fun _=>nx l23,fun _=>⟨fun _=>nx l25,fun _=>nx l27⟩⟩⟩⟩
 ·obtain⟨a,b,c,d,e,f,g,i,l,n⟩:=x
  obtain⟨h0,h1,h2,h3,hm,⟨h4,h5⟩,h6,h7,h8⟩:=hx
  have p0:zJ b=true:=aS h4
  have p1:zK b n=true:=cI h5
  have p2:zL b n=true:=dE (by omega)
  have ht:zM a b n=false:=yV (by omega)
  simp only [eR,yL,LT.ok,KV,KW,p0,p1,p2,ht,Bool.false_eq_true,false_implies,true_implies,true_and,and_true]
  omega
theorem abo(c:Nat)(x:mN)(hx:match x with | (a,b,d,e,f,g,i,l,m)=>(m.length:Int)≤a + (100:Nat)∧0≤a∧f.length + 101 * (100:Nat)≤10100∧(a≤(f.length:Int)∧m.length=c)∧aa4 100 m=true∧g.length≤50∧i.length≤50∧l.length≤50):
  gR.fin x=true∧ ∃ j y,gR.res x=(j,y)∧(match y with | (a,b,d,e,f,g,i,l,m)=>f.length≤10100∧c≤f.length):=by
 refine gR.inv2 (fun k x=>match x with | (a,b,d,e,f,g,i,l,m)=>(m.length:Int)≤a + k∧0≤a∧f.length + 101 * k≤10100∧(a≤(f.length:Int)∧m.length=c)∧aa4 100 m=true∧g.length≤50∧i.length≤50∧l.length≤50) (fun y=>match y with | (a,b,d,e,f,g,i,l,m)=>f.length≤10100∧c≤f.length) (fun k x hx=> ?_) (fun x hx=> ?_) 100 x (by omega) hx
 ·obtain⟨a,b,d,e,f,g,i,l,m⟩:=x
  obtain⟨h0,h1,h2,⟨hy,hc⟩,h3,h4,h5,h6⟩:=hx
  have l8:=(NG.1 h3).1
  cases ht:Et a m with
  |false=>
   have hge:=YO.1 (show ltI a (m.length:Int)=false from ht)
   simp only [gR,Da,LT.ok,ht,Bool.false_eq_true,false_implies,true_implies,true_and,and_true]
   omega
  |true=>
   have eG:a < (m.length:Int):=Kf.1 ht
   have hA:(iW a m).length≤100:=by
    have:=(NG.1 h3).2 (v5 m[a.toNat]? (ub (.pair .str (.sl 122 (.pair (.int .i64) (.pair .str (.int .i64))))))) (by
     rw [List.getElem?_eq_getElem (show a.toNat < m.length by omega)];exact List.getElem_mem _)
    exact(abu.1 this.2).1
   obtain⟨f0,j0,⟨z0,z1,z2,z3,z4,z5,z6,z7,z8,z9⟩,g0,q1,q2⟩:=Yb (f.length + 100) f.length (Di a b d e f g i l m) (by
    simp only [Di]
    exact⟨by omega,by omega,by omega,by omega,Nat.le_refl _,⟨h1,eG⟩,h3,h4,h5⟩)
   have e5:oe a b d e f g i l m=z5:=by simp only [oe,JY,g0]
   have p1:UI a b d e f g i l m=true:=f0
   have p2:UJ a=true:=aS h1
   have p3:UK a m=true:=dE (by omega)
   have p4:UL i=true:=aG (by omega)
   have b1:leN (z5.length + 1) 9223372036854775807=true:=aG (by omega)
   have b2:leN ((z5.length + 1) * 16) 140737488355328=true:=aG (by omega)
   have p5:UM a b d e f g i l m=true:=uq (by rw [e5];exact b1)
   have p6:UN a b d e f g i l m=true:=uq (by rw [e5];exact b2)
   have p7:UO a i m=true:=uq (aS h1)
   have p8:UP a i m=true:=uq ht
   have p9:UQ a i m=true:=uq (dE (by omega))
   have p10:SC a i l m=true:=uq (aG (by omega))
   have p11:SD a b d e f g i l m=true:=uq (by rw [e5];exact b1)
   have p12:SE a b d e f g i l m=true:=uq (by rw [e5];exact b2)
   have w:tO a=a + 1:=aR (by omega) (by omega)
   have l16:(JW a b d e f g i l m).length=z5.length + 1:=by simp only [JW,e5,Dj,w7,w5]
   have l17:(JX a b d e f g i l m).length=z5.length + 1:=by simp only [JX,e5,Dk,w7,w5]
   have nx: ∀ {q:List IN},q.length=z5.length + 1→(m.length:Int)≤(tO a) + (k:Int)∧0≤tO a∧q.length + 101 * k≤10100∧(tO a≤(q.length:Int)∧m.length=c)∧aa4 100 m=true∧g.length≤50∧i.length≤50∧l.length≤50:=fun hq=>⟨by omega,by omega,by omega,⟨by omega,hc⟩,h3,h4,h5,h6⟩
   simp only [gR,Da,LT.ok,KV,KW,and_true,true_and,ht,p1,p2,p3,p4,p5,p6,p7,p8,p9,p10,p11,p12,Bool.false_eq_true,reduceCtorEq,false_implies,true_implies]
   exact⟨fun _=>nx l16,fun _=>nx l17⟩
 ·obtain⟨a,b,d,e,f,g,i,l,m⟩:=x
  obtain⟨h0,h1,h2,⟨hy,hc⟩,h3,h4,h5,h6⟩:=hx
  have ht:Et a m=false:=yV (by omega)
  simp only [gR,Da,LT.ok,ht,Bool.false_eq_true,false_implies,true_implies,true_and,and_true]
  omega
theorem asX{ls:List LN}(h:aa4 100 ls=true):(blL ls).length≤10000∧ ∀ t∈blL ls,t.2.1.size≤1000:=by
 obtain⟨h1,h2⟩:=NG.1 h
 refine⟨?_,fun t ht=> ?_⟩
 ·have mO: ∀ ls:List LN,(∀ l∈ls,l.2.length≤100)→(blL ls).length≤100 * ls.length:=by
   intro ls
   induction ls with
   |nil=>intro _;simp [blL]
   |cons l r ih=>
    intro hh
    have a:=ih fun x hx=>hh x (by simp [hx])
    have b:=hh l (by simp)
    have c:(blT l.2).length≤l.2.length:=List.length_filter_le ..
    have d:blL (l::r)=blT l.2++blL r:=rfl
    rw [d,w7,w8]
    omega
  have:=mO ls fun l hl=>(abu.1 (h2 l hl).2).1
  omega
 ·simp only [blL,List.mem_flatMap]at ht
  obtain⟨l,hl,ht⟩:=ht
  exact(abu.1 (h2 l hl).2).2 t (List.mem_filter.1 ht).1
def cdD(i v o:Int)(bs:List TM)(st:List IN):Bool:=(leI (-1) i&&leI i 60)&&((leI 0 v&&leI v 60)&&((leI 0 o&&leI o 60)&&((leN bs.length 10000&&bs.all fun t=>leN t.2.1.size 1000)&&leN st.length 30000)))
theorem VQ{i v o:Int}{bs:List TM}{st:List IN}:cdD i v o bs st=true↔(-1≤i∧i≤60)∧(0≤v∧v≤60)∧(0≤o∧o≤60)∧(bs.length≤10000∧ ∀ t∈bs,t.2.1.size≤1000)∧st.length≤30000:=by
 simp only [cdD,q9,CZ,fc,List.all_eq_true]
theorem Es(a b:asv)(c d e:List asv)(f:List LN)(hp:prD a c d e b f=true):
  RD a b c d e f=true∧cdD (cJ b c) (cK b d) (cL b e) (cM b f) (lq a b c d e f)=true∧((lq a b c d e f).length≤10101∧f.length≤(lq a b c d e f).length)∧0≤cJ b c:=by
 obtain⟨_,hi,hv,ho,_,hl⟩:=afM.1 hp
 have i0:=(sF.1 hi).1
 have v0:=(sF.1 hv).1
 have o0:=(sF.1 ho).1
 have l0:=(NG.1 hl).1
 obtain⟨f0,j0,⟨z0,z1,z2,z3,z4,z5,z6,z7,z8⟩,g0,q1,q2⟩:=abo f.length (Is a b c d e f) (by
  simp only [Is]
  exact⟨by omega,by omega,by simp,⟨by simp,trivial⟩,hl,i0,v0,o0⟩)
 have e2:yo a b c d e f=z4:=by simp only [yo,g0]
 have hL:=(afk.1 (at9 hp)).2.2.2.2.2.2
 obtain⟨t1,t2⟩:=asX hl
 have l3:(It b c d).length=1:=rfl
 have l4:(lq a b c d e f).length≤10101:=by
  simp only [lq,e2]
  exact fS (by rw [w7,l3];omega) (by omega)
 have l5:f.length≤(lq a b c d e f).length:=by
  simp only [lq,e2]
  cases lA b
  ·exact q2
  ·rw [cond_true,w7,l3];omega
 refine⟨?_,VQ.2 ⟨?_,?_,?_,?_,by omega⟩,⟨l4,l5⟩,?_⟩
 ·have k2:GR b c d=true:=by simp only [GR,aG (show c.length≤9223372036854775807 by omega),aG (show d.length≤9223372036854775807 by omega),allT,w9,cond_true]
  have b1:leN (z4.length + 1) 9223372036854775807=true:=aG (by omega)
  have b2:leN ((z4.length + 1) * 16) 140737488355328=true:=aG (by omega)
  simp only [RD,f0,e2,l3,k2,b1,b2,hL,allT,w9,cond_true]
 ·simp only [cJ,j7];omega
 ·simp only [cK,j7];omega
 ·simp only [cL,j7];omega
 ·simp only [cM,j7];exact⟨t1,t2⟩
 ·simp only [cJ,j7];omega
def YG:awE
 | [.one ⟨true,[.val (.string a),.ref 0,.ref 1,.ref 2,.val (.string b),.ref 3]⟩],[.row false 9 (.str) c,.row false 9 (.str) d,.row false 9 (.str) e,.row false 142 (.pair (.str) (.sl 122 (.pair (.int .i64) (.pair (.str) (.int .i64))))) f]=>some ⟨.one ⟨true,[awF (cJ b c),awF (cK b d),awF (cL b e),.ref 4,.ref 5]⟩,[.row false 9 arE c,.row false 9 arE d,.row false 9 arE e,.row false 142 (CTy.pair CTy.str (CTy.sl (122:TypeId) ab5)) f],[.row true 122 ab5 (cM b f),.row true 83 aeK (lq a b c d e f)],[prD a c d e b f]⟩
 |_,_=>none
def dV:PF prog:=PF.alt ajS YG (by
 intro args es o h bA;unfold YG at h;split at h
 ·rename_i a b c d e f
  cases h
  have bA:=fv bA
  have hh:=(Es a b c d e f bA).1
  have en:=hh
  exact kj rfl (eT en) rfl rfl rfl
 ·cases h)
abbrev qz:=List (Int×Int)×Int×Int×List Int
section
variable (a:arD)(b c:Int)(d:arG)
def RF:Bool:=aJ b c d
def RG:Bool:=ltI (↑a.length:Int) (v6 .i64 ((2000:Int) + nxV 2 b c d))
def Zs:Bool:=leN (v4 a + v4 [((10:Int),(0:Int))]) 9223372036854775807
def Zt:Bool:=leN ((v4 a + v4 [((10:Int),(0:Int))]) * 16) 140737488355328
def RH:arD:=a++ [((10:Int),(0:Int))]
def Eu:Int:=nxA 2 b d
def Ev:Int:=nxS 2 b c d
end
def ahy:qz→List (Nat×SV)
 |(_,_,_,_)=> [(4,(.one ⟨false,[.ref 0]⟩)),(0,(.one ⟨false,[.ptr 1 0]⟩))]
def ahp:qz→List (Nat×Entry)
 |(a,b,c,d)=> [(1,(.box 113 [.ref 2,awF b,awF c])),(2,(.row false 5 apN d)),(0,(.row true 83 aeK a))]
def ahQ:Nat→qz→List (Nat×SV)
 |_,(_,_,_,_)=> [(4,(.one ⟨false,[.ref 0]⟩))]
def ahH:Nat→qz→List (Nat×Entry)
 |_,(a,b,c,d)=> [(0,(.row true 83 aeK a)),(1,(.box 113 [.ref 2,awF (Eu b d),awF (Ev b c d)])),(2,(.row false 5 apN d))]
def OL:qz→LT qz
 |(a,b,c,d)=> .need [RF b c d] (.ite (RG a b c d) (.need [Zs a,Zt a] (.nrm ((RH a),Eu b d,Ev b c d,d) [(0,640),(1,1),(2,2)])) (.ext 0 [(0,0),(1,1),(2,2)]))
def OY(s:St):Option qz:=do
 let some ⟨none,.one ⟨false,[.ref 768]⟩⟩:=s.look 4|none
 let some ⟨none,.one ⟨false,[.ptr 0 0]⟩⟩:=s.look 0|none
 let some (.box 113 [.ref 1,.val (.int .i64 b),.val (.int .i64 c)]):=s.ent 0|none
 let some (.row false 5 (.int IntKind.u8) d):=s.ent 1|none
 let some (.row true 83 (.pair (.int .i64) (.int .i64)) a):=s.ent 768|none
 some (a,b,c,d)
def jQ:Lp qz where
 h:=⟨[74,75,76,77,78,79,80,81,82,83,4],[1,2],[0],[]⟩
 JL:=ahy
 JE:=ahp
 XL:=ahQ
 XE:=ahH
 q:=fun j=>match j with | _=> .exit 1
 tags:= [0]
 lt:=OL
 fuel:=fun(a,b,c,d)=>a.length + b.natAbs + c.natAbs + d.length
 fix:=fun(_,_,_,d) (a,b,c,_)=>(a,b,c,d)
 σ:= [(1,0),(2,1),(0,768)]
 rd:=OY
theorem aeW:LoopOk prog (fun k=>Nat.blt k Tryz.f79.ntmps) jQ.F (bB f79 0):=by
 refine Lp.ok (tbl:= (PF.parts prog::T3z [am,gV,dV,aX])) (lf:= []) bj jQ (by kernel_rfl) (LOk.nil _) (fun _=>rfl) (fun _ _=>rfl) ?_ ?_ ?_ ?_ (fun _=>rfl) ?_
 ·rintro⟨a,b,c,d⟩;kernel_rfl
 ·rintro⟨a,b,c,d⟩;kernel_rfl
 ·intro s x h
  have h:OY s=some x:=h
  unfold OY at h
  repeat' split at h
  all_goals cases h
  constructor<;>repeat(first|refine ab (by assumption) rfl ?_|refine aa rfl (by assumption) rfl ?_|exact rfl)
 ·rintro⟨a,b,c,d⟩;kernel_rfl
 ·rintro⟨a,b,c,d⟩ z;exact(And.intro rfl trivial)
abbrev qA:=Int×List (Int×Int)
section
variable (a:Int)(b:arD)
def RI:Bool:=ltI 0 a
def Zu:Bool:=leN (v4 b + v4 [((1:Int),(0:Int))]) 9223372036854775807
def Zv:Bool:=leN ((v4 b + v4 [((1:Int),(0:Int))]) * 16) 140737488355328
def Zw:Int:=v6 .i64 (a - (1:Int))
def RJ:arD:=b++ [((1:Int),(0:Int))]
end
def ahz:qA→List (Nat×SV)
 |(a,_)=> [(8,(.one ⟨false,[awF a]⟩)),(7,(.one ⟨false,[.ref 0]⟩))]
def ahq:qA→List (Nat×Entry)
 |(_,a)=> [(0,(.row true 83 aeK a))]
def ahR:Nat→qA→List (Nat×SV)
 |_,(_,_)=> [(7,(.one ⟨false,[.ref 0]⟩))]
def HF:qA→LT qA
 |(a,b)=> .ite (RI a) (.need [Zu b,Zv b] (.nrm ((Zw a),(RJ b)) [(0,384)])) (.ext 0 [(0,0)])
def OZ(s:St):Option qA:=do
 let some ⟨none,.one ⟨false,[.val (.int .i64 a)]⟩⟩:=s.look 8|none
 let some ⟨none,.one ⟨false,[.ref 2240]⟩⟩:=s.look 7|none
 let some (.row true 83 (.pair (.int .i64) (.int .i64)) b):=s.ent 2240|none
 some (a,b)
def lw:Lp qA where
 h:=⟨[103,104,107,108,109,110,7,105,106,8],[],[0],[]⟩
 JL:=ahz
 JE:=ahq
 XL:=ahR
 XE:=fun _=>ahq
 q:=fun j=>match j with | _=> .exit 3
 tags:= [0]
 lt:=HF
 fuel:=fun(a,b)=>a.natAbs + b.length
 fix:=fun(_,_) (a,b)=>(a,b)
 σ:= [(0,2240)]
 rd:=OZ
theorem aeX:LoopOk prog (fun k=>Nat.blt k Tryz.f79.ntmps) lw.F (bB f79 1):=by
 refine Lp.ok (tbl:= (PF.parts prog::T3z [am,gV,dV,aX])) (lf:= []) bj lw (by kernel_rfl) (LOk.nil _) (fun _=>rfl) (fun _ _=>rfl) ?_ ?_ ?_ ?_ (fun _=>rfl) ?_
 ·rintro⟨a,b⟩;kernel_rfl
 ·rintro⟨a,b⟩;kernel_rfl
 ·intro s x h
  have h:OZ s=some x:=h
  unfold OZ at h
  repeat' split at h
  all_goals cases h
  constructor<;>repeat(first|refine ab (by assumption) rfl ?_|refine aa rfl (by assumption) rfl ?_|exact rfl)
 ·rintro⟨a,b⟩;kernel_rfl
 ·rintro⟨a,b⟩ z;exact(And.intro rfl trivial)
abbrev qB:=Int×List (Int×Int)
section
variable (a:Int)(b:arD)
def RK:Bool:=ltI 1 a
def Zx:Bool:=leN (v4 b + v4 [((6:Int),(0:Int))]) 9223372036854775807
def Zy:Bool:=leN ((v4 b + v4 [((6:Int),(0:Int))]) * 16) 140737488355328
def Zz:Int:=v6 .i64 (a - (1:Int))
def RL:arD:=b++ [((6:Int),(0:Int))]
end
def ahA:qB→List (Nat×SV)
 |(a,_)=> [(9,(.one ⟨false,[awF a]⟩)),(7,(.one ⟨false,[.ref 0]⟩))]
def ahr:qB→List (Nat×Entry)
 |(_,a)=> [(0,(.row true 83 aeK a))]
def ahS:Nat→qB→List (Nat×SV)
 |_,(_,_)=> [(7,(.one ⟨false,[.ref 0]⟩))]
def HG:qB→LT qB
 |(a,b)=> .ite (RK a) (.need [Zx b,Zy b] (.nrm ((Zz a),(RL b)) [(0,384)])) (.ext 0 [(0,0)])
def Pa(s:St):Option qB:=do
 let some ⟨none,.one ⟨false,[.val (.int .i64 a)]⟩⟩:=s.look 9|none
 let some ⟨none,.one ⟨false,[.ref 2624]⟩⟩:=s.look 7|none
 let some (.row true 83 (.pair (.int .i64) (.int .i64)) b):=s.ent 2624|none
 some (a,b)
def lx:Lp qB where
 h:=⟨[113,114,117,118,119,120,7,115,116,9],[],[0],[]⟩
 JL:=ahA
 JE:=ahr
 XL:=ahS
 XE:=fun _=>ahr
 q:=fun j=>match j with | _=> .exit 5
 tags:= [0]
 lt:=HG
 fuel:=fun(a,b)=>a.natAbs + b.length
 fix:=fun(_,_) (a,b)=>(a,b)
 σ:= [(0,2624)]
 rd:=Pa
theorem aeY:LoopOk prog (fun k=>Nat.blt k Tryz.f79.ntmps) lx.F (bB f79 2):=by
 refine Lp.ok (tbl:= (PF.parts prog::T3z [am,gV,dV,aX])) (lf:= []) bj lx (by kernel_rfl) (LOk.nil _) (fun _=>rfl) (fun _ _=>rfl) ?_ ?_ ?_ ?_ (fun _=>rfl) ?_
 ·rintro⟨a,b⟩;kernel_rfl
 ·rintro⟨a,b⟩;kernel_rfl
 ·intro s x h
  have h:Pa s=some x:=h
  unfold Pa at h
  repeat' split at h
  all_goals cases h
  constructor<;>repeat(first|refine ab (by assumption) rfl ?_|refine aa rfl (by assumption) rfl ?_|exact rfl)
 ·rintro⟨a,b⟩;kernel_rfl
 ·rintro⟨a,b⟩ z;exact(And.intro rfl trivial)
section
variable (a b:Int)(c:arG)
def bW:arD:=lq (jg a b c) (ae a b c) (bF a b c) (bN a b c) (bO a b c) (bp a b c)
def cE:Int:=nxA (↑(v4 (bW a b c)):Int) (na a b c) c
def Ow:Int:=nxS (↑(v4 (bW a b c)):Int) (na a b c) (oC a b c) c
def zX:Int:=nxV 20 (cE a b c) (Ow a b c) c
def aL:Bool:=zX a b c==0
def ba:Bool:=zX a b c==1
def bq:Bool:=zX a b c==2
def dc:Bool:=zX a b c==3
def jV:Bool:=zX a b c==4
def lr:Bool:=zX a b c==5
def eN:Int:=nxS 20 (cE a b c) (Ow a b c) c
def kX:Bool:=zX a b c==6
def BC:arD×Int×Int×arG:=(bW a b c,nxA 20 (cE a b c) c,eN a b c,c)
def yp:Int×Int×arG:=(Lp.res jQ (BC a b c)).2.2
def eO:Int:=nxV (↑(v4 (bW a b c)):Int) (na a b c) (oC a b c) c
def abp:Int×Int:=v5 (bW a b c)[j9 (eO a b c)]? ((0:Int),(0:Int))
def kY:arD:=MI 0 (j9 (eO a b c)) (bW a b c)
def vg:Int:=v6 .i64 (eO a b c + (1:Int))
def GN:arD:=MI (CTy.size aeK) (j9 (vg a b c)) (bW a b c)
def BD:arD:=kY a b c++ [((1:Int),(1:Int)),((4:Int),(0:Int)),((4:Int),(0:Int)),((9:Int),(0:Int))]
def GO:arD:=MI (CTy.size aeK) (j9 (eO a b c)) (bW a b c)
def Mk:Int×arD:=(v6 .i64 ((40:Int) + nxV 2 (nxA 20 (cE a b c) c) (eN a b c) c),[])
def Ml:arD:=(Lp.res lw (Mk a b c)).2.2
def Mm:Int×arD:=((↑(v4 (Ml a b c)):Int),Ml a b c)
def GP:arD:=(Lp.res lx (Mm a b c)).2.2
def GQ:Bool:=aJ (nxA 20 (cE a b c) c) (eN a b c) c
def Tw:Bool:=ltI (eO a b c) (↑(v4 (bW a b c)):Int)
def Tx:Bool:=ltN (j9 (eO a b c)) (v4 (bW a b c))
def Ty:Bool:=leI (eO a b c) (↑(v4 (bW a b c)):Int)
def Tz:Bool:=leN (j9 (eO a b c)) (v4 (bW a b c))
def TA:Bool:=leN (0 + v4 (kY a b c)) 9223372036854775807
def TB:Bool:=leN ((0 + v4 (kY a b c)) * 16) 140737488355328
def TC:Bool:=aL a b c||(ba a b c||(bq a b c||(!dc a b c||leI 0 (eO a b c))))
def TD:Bool:=aL a b c||(ba a b c||(bq a b c||(!dc a b c||Ty a b c)))
def TE:Bool:=aL a b c||(ba a b c||(bq a b c||(!dc a b c||Tz a b c)))
def GL:Int:=bif aL a b c then cJ (ae a b c) (bF a b c)else bif ba a b c then cJ (ae a b c) (bF a b c)else bif bq a b c then cJ (ae a b c) (bF a b c)else bif dc a b c then cJ (ae a b c) (bF a b c)else bif jV a b c then cJ (ae a b c) (bF a b c)else bif lr a b c then pkV (nxA 20 (cE a b c) c) (eN a b c) [(-1:Int),(20:Int),(21:Int)] c else bif kX a b c then cJ (ae a b c) (bF a b c)else cJ (ae a b c) (bF a b c)
def CI:Int:=bif aL a b c then cK (ae a b c) (bN a b c)else bif ba a b c then cK (ae a b c) (bN a b c)else bif bq a b c then cK (ae a b c) (bN a b c)else bif dc a b c then cK (ae a b c) (bN a b c)else bif jV a b c then cK (ae a b c) (bN a b c)else bif lr a b c then cK (ae a b c) (bN a b c)else bif kX a b c then cK (ae a b c) (bN a b c)else cK (ae a b c) (bN a b c)
def CJ:Int:=bif aL a b c then cL (ae a b c) (bO a b c)else bif ba a b c then cL (ae a b c) (bO a b c)else bif bq a b c then cL (ae a b c) (bO a b c)else bif dc a b c then cL (ae a b c) (bO a b c)else bif jV a b c then cL (ae a b c) (bO a b c)else bif lr a b c then cL (ae a b c) (bO a b c)else bif kX a b c then cL (ae a b c) (bO a b c)else cL (ae a b c) (bO a b c)
def LJ:Int:=bif aL a b c then pkA (nxA 20 (cE a b c) c) [(0:Int),(1:Int),(2:Int),(3:Int),(4:Int),(5:Int),(12:Int)] c else bif ba a b c then pkA (nxA 20 (cE a b c) c) [(-1:Int),(0:Int),(1:Int),(2:Int),(9:Int)] c else bif bq a b c then nxA 20 (cE a b c) c else bif dc a b c then nxA 20 (cE a b c) c else bif jV a b c then Eu ((yp a b c).1) c else bif lr a b c then pkA (nxA 20 (cE a b c) c) [(-1:Int),(20:Int),(21:Int)] c else bif kX a b c then nxA 2 (nxA 20 (cE a b c) c) c else nxA 20 (cE a b c) c
def LK:Int:=bif aL a b c then pkS (nxA 20 (cE a b c) c) (eN a b c) [(0:Int),(1:Int),(2:Int),(3:Int),(4:Int),(5:Int),(12:Int)] c else bif ba a b c then pkS (nxA 20 (cE a b c) c) (eN a b c) [(-1:Int),(0:Int),(1:Int),(2:Int),(9:Int)] c else bif bq a b c then eN a b c else bif dc a b c then eN a b c else bif jV a b c then Ev ((yp a b c).1) (((yp a b c).2).1) c else bif lr a b c then pkS (nxA 20 (cE a b c) c) (eN a b c) [(-1:Int),(20:Int),(21:Int)] c else bif kX a b c then nxS 2 (nxA 20 (cE a b c) c) (eN a b c) c else eN a b c
def CL:aov:=bif aL a b c then cM (ae a b c) (bp a b c)else bif ba a b c then cM (ae a b c) (bp a b c)else bif bq a b c then cM (ae a b c) (bp a b c)else bif dc a b c then cM (ae a b c) (bp a b c)else bif jV a b c then cM (ae a b c) (bp a b c)else bif lr a b c then cM (ae a b c) (bp a b c)else bif kX a b c then cM (ae a b c) (bp a b c)else cM (ae a b c) (bp a b c)
def GM:arD:=bif aL a b c then List.set (bW a b c) (j9 (eO a b c)) (pkV (nxA 20 (cE a b c) c) (eN a b c) [(0:Int),(1:Int),(2:Int),(3:Int),(4:Int),(5:Int),(12:Int)] c,(abp a b c).2)else bif ba a b c then List.set (bW a b c) (j9 (eO a b c)) ((abp a b c).1,pkV (nxA 20 (cE a b c) c) (eN a b c) [(-1:Int),(0:Int),(1:Int),(2:Int),(9:Int)] c)else bif bq a b c then kY a b c++GN a b c else bif dc a b c then BD a b c++GO a b c else bif jV a b c then ((Lp.res jQ (BC a b c)).2).1else bif lr a b c then bW a b c else bif kX a b c then GP a b c++ [((9:Int),(0:Int))]else bW a b c
def Yc:Bool:=allT [aJ a b c,prD (jg a b c) (bF a b c) (bN a b c) (bO a b c) (ae a b c) (bp a b c),leN (0 + v4 (bW a b c)) 9223372036854775807,leN ((0 + v4 (bW a b c)) * 16) 140737488355328,aJ (na a b c) (oC a b c) c,aJ (cE a b c) (Ow a b c) c,!aL a b c||GQ a b c&&leN 1 (v4 [(0:Int),(1:Int),(2:Int),(3:Int),(4:Int),(5:Int),(12:Int)]),!aL a b c||leI 0 (eO a b c),!aL a b c||Tw a b c,!aL a b c||Tx a b c,aL a b c||(!ba a b c||GQ a b c&&leN 1 (v4 [(-1:Int),(0:Int),(1:Int),(2:Int),(9:Int)])),aL a b c||(!ba a b c||leI 0 (eO a b c)),aL a b c||(!ba a b c||Tw a b c),aL a b c||(!ba a b c||Tx a b c),aL a b c||(ba a b c||(!bq a b c||leI 0 (eO a b c))),aL a b c||(ba a b c||(!bq a b c||Ty a b c)),aL a b c||(ba a b c||(!bq a b c||Tz a b c)),aL a b c||(ba a b c||(!bq a b c||TA a b c)),aL a b c||(ba a b c||(!bq a b c||TB a b c)),aL a b c||(ba a b c||(!bq a b c||leI 0 (vg a b c))),aL a b c||(ba a b c||(!bq a b c||leI (vg a b c) (↑(v4 (bW a b c)):Int))),aL a b c||(ba a b c||(!bq a b c||leN (j9 (vg a b c)) (v4 (bW a b c)))),aL a b c||(ba a b c||(!bq a b c||leN (v4 (kY a b c) + v4 (GN a b c)) 9223372036854775807)),aL a b c||(ba a b c||(!bq a b c||leN ((v4 (kY a b c) + v4 (GN a b c)) * 16) 140737488355328)),TC a b c,TD a b c,TE a b c,aL a b c||(ba a b c||(bq a b c||(!dc a b c||TA a b c))),aL a b c||(ba a b c||(bq a b c||(!dc a b c||TB a b c))),aL a b c||(ba a b c||(bq a b c||(!dc a b c||leN (v4 (kY a b c) + v4 [((1:Int),(1:Int)),((4:Int),(0:Int)),((4:Int),(0:Int)),((9:Int),(0:Int))]) 9223372036854775807))),aL a b c||(ba a b c||(bq a b c||(!dc a b c||leN ((v4 (kY a b c) + v4 [((1:Int),(1:Int)),((4:Int),(0:Int)),((4:Int),(0:Int)),((9:Int),(0:Int))]) * 16) 140737488355328))),TC a b c,TD a b c,TE a b c,aL a b c||(ba a b c||(bq a b c||(!dc a b c||leN (v4 (BD a b c) + v4 (GO a b c)) 9223372036854775807))),aL a b c||(ba a b c||(bq a b c||(!dc a b c||leN ((v4 (BD a b c) + v4 (GO a b c)) * 16) 140737488355328))),aL a b c||(ba a b c||(bq a b c||(dc a b c||(!jV a b c||Lp.fin jQ (BC a b c))))),aL a b c||(ba a b c||(bq a b c||(dc a b c||(jV a b c||(!lr a b c||GQ a b c&&leN 1 (v4 [(-1:Int),(20:Int),(21:Int)])))))),aL a b c||(ba a b c||(bq a b c||(dc a b c||(jV a b c||(lr a b c||(!kX a b c||GQ a b c)))))),aL a b c||(ba a b c||(bq a b c||(dc a b c||(jV a b c||(lr a b c||(!kX a b c||Lp.fin lw (Mk a b c))))))),aL a b c||(ba a b c||(bq a b c||(dc a b c||(jV a b c||(lr a b c||(!kX a b c||Lp.fin lx (Mm a b c))))))),aL a b c||(ba a b c||(bq a b c||(dc a b c||(jV a b c||(lr a b c||(!kX a b c||leN (v4 (GP a b c) + v4 [((9:Int),(0:Int))]) 9223372036854775807)))))),aL a b c||(ba a b c||(bq a b c||(dc a b c||(jV a b c||(lr a b c||(!kX a b c||leN ((v4 (GP a b c) + v4 [((9:Int),(0:Int))]) * 16) 140737488355328))))))]
end
def adX:awE
 | [.one ⟨false,[.ptr 0 0]⟩],[.box 113 [.ref 1,.val (.int .i64 a),.val (.int .i64 b)],.row false 5 (.int .u8) c]=>some ⟨.one ⟨true,[awF (GL a b c),awF (CI a b c),awF (CJ a b c),.ref 2,.ref 3]⟩,[.box 113 [.ref 1,awF (LJ a b c),awF (LK a b c)],.row false 5 apN c],[.row true 122 ab5 (CL a b c),.row true 83 aeK (GM a b c)],[Yc a b c]⟩
 |_,_=>none
def ann:PF prog:=PF.ofG prog (PF.parts prog::T3z [am,gV,dV,aX]) [jQ.F,lw.F,lx.F] bj 79 f79 func79 (LOk.fnT (l:= [bB f79 0,bB f79 1,bB f79 2]) (by kernel_rfl) (.cons aeW (.cons aeX (.cons aeY (.nil _))))) adX (by
 intro _ _ _ h;unfold adX at h;split at h<;>cases h;kernel_rfl)
section
variable (a b c:Int)(d:aow)(e:arD)
def Ce:Int:=bif !cA a b c d e then(0:Int)else a
def Cf:Int:=bif !cA a b c d e then(0:Int)else b
def Cg:Int:=bif !cA a b c d e then(0:Int)else c
def Xg:Int:=bif !cA a b c d e then(1:Int)else(0:Int)
def Ch:aov:=bif !cA a b c d e then []else d
def Ci:arD:=bif !cA a b c d e then []else imV (v4 e + 1) e
def Pf:Bool:=allT [afu d,!cA a b c d e||leN (0 + v4 d) 9223372036854775807,!cA a b c d e||leN ((0 + v4 d) * 32) 140737488355328,!cA a b c d e||leN e.length (1000000:Nat)]
end
def Wj:awE
 | [.one ⟨true,[.val (.int .i64 a),.val (.int .i64 b),.val (.int .i64 c),.ref 0,.ref 1]⟩],[.row false 122 (.pair (.int .i64) (.pair (.str) (.int .i64))) d,.row false 83 (.pair (.int .i64) (.int .i64)) e]=>some ⟨.tup [⟨true,[awF (Ce a b c d e),awF (Cf a b c d e),awF (Cg a b c d e),.ref 2,.ref 3]⟩,⟨false,[awF (Xg a b c d e)]⟩],[.row false 122 ab5 d,.row false 83 aeK e],[.row true 122 ab5 (Ch a b c d e),.row true 83 aeK (Ci a b c d e)],[Pf a b c d e]⟩
 |_,_=>none
def aih:PF prog:=PF.ofG prog (T3z [QI,fP]) [] bj 121 f121 func121 (fun c _=>LOk.nil c) Wj (by
 intro _ _ _ h;unfold Wj at h;split at h<;>cases h;kernel_rfl)
theorem auE{m n:Nat}(h:m≤1000001):m≤big n:=by
 rw [ard]
 exact Nat.le_trans (Nat.le_trans h (show 1000001≤1000 ^ 4 by decide)) (Nat.pow_le_pow_left (by omega) 4)
theorem Lp.inv3{X:Type}(p:Lp X)(I:Nat→X→Prop)(Q:X→Prop)(hs: ∀ k x,I (k + 1) x→(p.lt x).ok (I k) (fun _=>Q x))(he: ∀ x,I 0 x→(p.lt x).ok (fun _=>False) (fun _=>Q x))
  (N:Nat) (x:X) (hN:N≤1000000) (h:I N x):p.fin x=true∧ ∃ j y,p.res x=(j,y)∧Q y:=by
 have mO: ∀ (k:Nat) (x:X),I k x→ ∃ j y,LX p.lt (k + 1) x=some (j,y)∧Q y:=by
  intro k
  induction k with
  |zero=>
   intro x h
   rcases LT.ok_out (he x h)with⟨j,h1,h2⟩ | ⟨_,_,h⟩
   ·exact⟨j,x,Gb _ h1,h2⟩
   ·exact h.elim
  |succ k ih=>
   intro x h
   rcases LT.ok_out (hs k x h)with⟨j,h1,h2⟩ | ⟨y,h1,h2⟩
   ·exact⟨j,x,Gb _ h1,h2⟩
   ·obtain⟨j,z,h3,h4⟩:=ih y h2
    exact⟨j,z,by rw [Tk _ h1];exact h3,h4⟩
 obtain⟨j,y,h1,h2⟩:=mO N x h
 obtain⟨r1,r2⟩:=p.run h1 (auE (by omega))
 exact⟨r1,j,y,r2,h2⟩
theorem anq{α:Type}(z k:Nat)(l:List α):(MI z k l).length≤l.length:=by
 simp only [MI]
 exact fS (by rw [List.length_take];omega) (by rw [List.length_drop];omega)
theorem aqg(a b c:Int)(d:List TM)(e:List IN)(h:cdD a b c d e=true):
  Pf a b c d e=true∧cdD (Ce a b c d e) (Cf a b c d e) (Cg a b c d e) (Ch a b c d e) (Ci a b c d e)=true:=by
 obtain⟨h0,h1,h2,⟨h3,h4⟩,h5⟩:=VQ.1 h
 have ht:afu d=true:=UR.2 ⟨by omega,fun t ht=>by have:=h4 t ht;omega⟩
 have b1:leN (0 + d.length) 9223372036854775807=true:=aG (by omega)
 have b2:leN ((0 + d.length) * 32) 140737488355328=true:=aG (by omega)
 have b3:leN e.length 1000000=true:=aG (by omega)
 have hi:=asy (e.length + 1) e (Nat.le_refl _) (by omega)
 refine⟨by simp only [Pf,ht,b1,b2,b3,allT,w9,cond_true],?_⟩
 simp only [Ce,Cf,Cg,Ch,Ci]
 cases cA a b c d e <;> simp only [Bool.not_false,Bool.not_true,cond_true,cond_false]
 ·exact VQ.2 ⟨by decide,by decide,by decide,⟨by simp,fun t ht=>(List.not_mem_nil ht).elim⟩,by simp⟩
 ·exact VQ.2 ⟨h0,h1,h2,⟨h3,h4⟩,by omega⟩
def Wv:awE
 | [.one ⟨true,[.val (.int .i64 a),.val (.int .i64 b),.val (.int .i64 c),.ref 0,.ref 1]⟩],[.row false 122 (.pair (.int .i64) (.pair (.str) (.int .i64))) d,.row false 83 (.pair (.int .i64) (.int .i64)) e]=>some ⟨.tup [⟨true,[awF (Ce a b c d e),awF (Cf a b c d e),awF (Cg a b c d e),.ref 2,.ref 3]⟩,⟨false,[awF (Xg a b c d e)]⟩],[.row false 122 ab5 d,.row false 83 aeK e],[.row true 122 ab5 (Ch a b c d e),.row true 83 aeK (Ci a b c d e)],[cdD a b c d e]⟩
 |_,_=>none
def OP:PF prog:=PF.alt aih Wv (by
 intro args es o h bA;unfold Wv at h;split at h
 ·rename_i a b c d e
  cases h
  have bA:=fv bA
  have hh:=(aqg a b c d e bA).1
  have en:=hh
  exact kj rfl (eT en) rfl rfl rfl
 ·cases h)
 attribute [local irreducible] nxA nxS nxV pkA pkS pkV
theorem afq(c:arG)(x:qz)(hx:match x with | (a,b,d,e)=>2002≤a.length + (2002:Nat)∧aJ b d e=true∧a.length + (2002:Nat)≤13000∧e=c):
  jQ.fin x=true∧ ∃ j y,jQ.res x=(j,y)∧(match y with | (a,b,d,e)=>aJ b d c=true∧a.length≤13000∧c=e):=by
 refine jQ.inv3 (fun k x=>match x with | (a,b,d,e)=>2002≤a.length + k∧aJ b d e=true∧a.length + k≤13000∧e=c) (fun y=>match y with | (a,b,d,e)=>aJ b d c=true∧a.length≤13000∧c=e) (fun k x hx=> ?_) (fun x hx=> ?_) 2002 x (by omega) hx
 ·obtain⟨a,b,d,e⟩:=x
  obtain⟨h0,h1,h2,rfl⟩:=hx
  have o1: [((10:Int),(0:Int))].length=1:=rfl
  have p0:RF b d e=true:=h1
  have p2:Zs a=true:=aG (by rw [o1];omega)
  have p3:Zt a=true:=aG (by rw [o1];omega)
  have l4:(RH a).length=a.length + 1:=by simp only [RH,w7,o1]
  have s7:aJ (Eu b e) (Ev b d e) e=true:=le h1
  simp only [jQ,OL,LT.ok,KV,KW,and_true,true_and,p0,p2,p3]
  exact⟨fun _=>⟨by omega,s7,by omega⟩,fun _=>⟨h1,by omega⟩⟩
 ·obtain⟨a,b,d,e⟩:=x
  obtain⟨h0,h1,h2,rfl⟩:=hx
  have nn:=Sn (n:=2) h1 (by omega)
  have hw:IntKind.i64.wrap (2000 + nxV 2 b d e)=2000 + nxV 2 b d e:=aR (by omega) (by omega)
  have e1:RG a b d e=false:=by simp only [RG,hw];exact yV (by omega)
  have p0:RF b d e=true:=h1
  simp only [jQ,OL,LT.ok,KV,KW,and_true,true_and,p0,e1,Bool.false_eq_true,false_implies,true_implies]
  exact⟨h1,by omega⟩
theorem afr(x:qA)(hx:match x with | (a,b)=>a≤((45:Nat):Int) + 0∧0≤a∧b.length + (45:Nat)≤50):
  lw.fin x=true∧ ∃ j y,lw.res x=(j,y)∧(match y with | (a,b)=>b.length≤50):=by
 refine lw.inv3 (fun k x=>match x with | (a,b)=>a≤(k:Int) + 0∧0≤a∧b.length + k≤50) (fun y=>match y with | (a,b)=>b.length≤50) (fun k x hx=> ?_) (fun x hx=> ?_) 45 x (by omega) hx
 ·obtain⟨a,b⟩:=x
  obtain⟨h0,h1,h2⟩:=hx
  have o1: [((1:Int),(0:Int))].length=1:=rfl
  have p1:Zu b=true:=aG (by rw [o1];omega)
  have p2:Zv b=true:=aG (by rw [o1];omega)
  have l4:(RJ b).length=b.length + 1:=by simp only [RJ,w7,o1]
  cases ht:RI a with
  |false=>
   simp only [lw,HF,LT.ok,ht,Bool.false_eq_true,false_implies,true_implies,true_and,and_true]
   omega
  |true=>
   have eG:0 < a:=Kf.1 ht
   have w:Zw a=a - 1:=aR (by omega) (by omega)
   simp only [lw,HF,LT.ok,KV,KW,and_true,true_and,ht,p1,p2,Bool.false_eq_true,reduceCtorEq,false_implies,true_implies]
   exact⟨by omega,by omega,by omega⟩
 ·obtain⟨a,b⟩:=x
  obtain⟨h0,h1,h2⟩:=hx
  have ht:RI a=false:=yV (by omega)
  simp only [lw,HF,LT.ok,ht,Bool.false_eq_true,false_implies,true_implies,true_and,and_true]
  omega
theorem afs(x:qB)(hx:match x with | (a,b)=>a≤((60:Nat):Int) + 1∧0≤a∧b.length + (60:Nat)≤120):
  lx.fin x=true∧ ∃ j y,lx.res x=(j,y)∧(match y with | (a,b)=>b.length≤120):=by
 refine lx.inv3 (fun k x=>match x with | (a,b)=>a≤(k:Int) + 1∧0≤a∧b.length + k≤120) (fun y=>match y with | (a,b)=>b.length≤120) (fun k x hx=> ?_) (fun x hx=> ?_) 60 x (by omega) hx
 ·obtain⟨a,b⟩:=x
  obtain⟨h0,h1,h2⟩:=hx
  have o1: [((6:Int),(0:Int))].length=1:=rfl
  have p1:Zx b=true:=aG (by rw [o1];omega)
  have p2:Zy b=true:=aG (by rw [o1];omega)
  have l4:(RL b).length=b.length + 1:=by simp only [RL,w7,o1]
  cases ht:RK a with
  |false=>
   simp only [lx,HG,LT.ok,ht,Bool.false_eq_true,false_implies,true_implies,true_and,and_true]
   omega
  |true=>
   have eG:1 < a:=Kf.1 ht
   have w:Zz a=a - 1:=aR (by omega) (by omega)
   simp only [lx,HG,LT.ok,KV,KW,and_true,true_and,ht,p1,p2,Bool.false_eq_true,reduceCtorEq,false_implies,true_implies]
   exact⟨by omega,by omega,by omega⟩
 ·obtain⟨a,b⟩:=x
  obtain⟨h0,h1,h2⟩:=hx
  have ht:RK a=false:=yV (by omega)
  simp only [lx,HG,LT.ok,ht,Bool.false_eq_true,false_implies,true_implies,true_and,and_true]
  omega
theorem RE(a c:Int)(d:arG)(h:aJ a c d=true):
  Yc a c d=true∧aJ (LJ a c d) (LK a c d) d=true∧cdD (GL a c d) (CI a c d) (CJ a c d) (CL a c d) (GM a c d)=true:=by
 obtain⟨_,s0,⟨hp,_⟩,l7,_⟩:=Kn a c d h
 obtain⟨_,hcd,⟨c1,c2⟩,c3⟩:=Es _ _ _ _ _ _ hp
 have c1:(bW a c d).length≤10101:=c1
 have c2:1≤(bW a c d).length:=Nat.le_trans l7 c2
 obtain⟨k0,k1,k2,k3,_⟩:=VQ.1 hcd
 obtain⟨i0,i1⟩:0≤eO a c d∧eO a c d < ((bW a c d).length:Int):=Sn s0 (by omega)
 have s1:aJ (cE a c d) (Ow a c d) d=true:=le s0
 have s2:aJ (nxA 20 (cE a c d) d) (eN a c d) d=true:=le s1
 have p25:GQ a c d=true:=s2
 have w17:vg a c d=eO a c d + 1:=aR (by omega) (by omega)
 have p26:Tw a c d=true:=cI i1
 have p27:Tx a c d=true:=dE (by omega)
 have p28:Ty a c d=true:=aS (by omega)
 have p29:Tz a c d=true:=aG (by omega)
 have l16:(kY a c d).length≤(bW a c d).length:=anq _ _ _
 have l18:(GN a c d).length≤(bW a c d).length:=anq _ _ _
 have l20:(GO a c d).length≤(bW a c d).length:=anq _ _ _
 have l19:(BD a c d).length=(kY a c d).length + 4:=by simp only [BD,w7];rfl
 obtain⟨f0,j0,⟨z0,z1,z2,z3⟩,g0,q1,q2,q3⟩:=afq d (BC a c d) (by
  simp only [BC]
  exact⟨by omega,s2,by omega,trivial⟩)
 have e1:(yp a c d).1=z1:=by simp only [yp,g0]
 have e2:((yp a c d).2).1=z2:=by simp only [yp,g0]
 have e0:((Lp.res jQ (BC a c d)).2).1=z0:=by rw [g0]
 have n2:=Sn (n:=2) s2 (by omega)
 have w40:IntKind.i64.wrap (40 + nxV 2 (nxA 20 (cE a c d) d) (eN a c d) d)=40 + nxV 2 (nxA 20 (cE a c d) d) (eN a c d) d:=aR (by omega) (by omega)
 obtain⟨f1,j1,⟨u0,u1⟩,g1,r1⟩:=afr (Mk a c d) (by
  simp only [Mk,w40]
  exact⟨by omega,by omega,by simp⟩)
 have e22:Ml a c d=u1:=by simp only [Ml,g1]
 obtain⟨f2,j2,⟨t0,t1⟩,g2,r2⟩:=afs (Mm a c d) (by
  simp only [Mm,e22]
  exact⟨by omega,by omega,by omega⟩)
 have e24:GP a c d=t1:=by simp only [GP,g2]
 refine⟨?_,?_,?_⟩
 ·have q5:leI 0 (eO a c d)=true:=aS i0
  have q6:leI 0 (vg a c d)=true:=aS (by omega)
  have q7:leI (vg a c d) ((bW a c d).length:Int)=true:=aS (by omega)
  have q8:leN (vg a c d).toNat (bW a c d).length=true:=aG (by omega)
  have b: ∀ (i j:Nat),i≤100000→j≤100000→leN (i + j) 9223372036854775807=true∧leN ((i + j) * 16) 140737488355328=true:=fun i j hi hj=>⟨aG (by omega),aG (by omega)⟩
  obtain⟨b1,b2⟩:=b 0 (bW a c d).length (by omega) (by omega)
  obtain⟨b3,b4⟩:=b 0 (kY a c d).length (by omega) (by omega)
  have p30:TA a c d=true:=b3
  have p31:TB a c d=true:=b4
  obtain⟨b5,b6⟩:=b (kY a c d).length (GN a c d).length (by omega) (by omega)
  obtain⟨b7,b8⟩:=b (kY a c d).length ([((1:Int),(1:Int)),((4:Int),(0:Int)),((4:Int),(0:Int)),((9:Int),(0:Int))]:List IN).length (by omega) (by decide)
  obtain⟨b9,b10⟩:=b (BD a c d).length (GO a c d).length (by omega) (by omega)
  obtain⟨b11,b12⟩:=b t1.length ([((9:Int),(0:Int))]:List IN).length (by omega) (by decide)
  have p32:TC a c d=true:=uq (uq (uq (uq q5)))
  have p33:TD a c d=true:=uq (uq (uq (uq p28)))
  have p34:TE a c d=true:=uq (uq (uq (uq p29)))
  have d1:leN 1 (v4 [(0:Int),1,2,3,4,5,12])=true:=rfl
  have d2:leN 1 (v4 [(-1:Int),0,1,2,9])=true:=rfl
  have d3:leN 1 (v4 [(-1:Int),20,21])=true:=rfl
  simp only [Yc,h,hp,s0,s1,s2,p25,p26,p27,p28,p29,p30,p31,p32,p33,p34,q5,q6,q7,q8,b1,b2,b5,b6,b7,b8,b9,b10,b11,b12,d1,d2,d3,e24,f0,f1,f2,allT,w9,Bool.and_self,cond_true]
 ·simp only [LJ,LK,e1,e2,Eu,Ev]
  exact qS (Se s2) (qS (Se s2) (qS s2 (qS s2 (qS (le q1) (qS (Se s2) (qS (le s2) s2))))))
 ·have hi: -1≤pkV (nxA 20 (cE a c d) d) (eN a c d) [(-1:Int),20,21] d∧pkV (nxA 20 (cE a c d) d) (eN a c d) [(-1:Int),20,21] d≤60:=by
   have:=(apw (l:= [(-1:Int),20,21]) (by rw [s2];rfl)).2.2
   simp only [List.mem_cons,List.not_mem_nil,or_false]at this
   rcases this with e | e | e <;> rw [e] <;> decide
  have e5:CL a c d=cM (ae a c d) (bp a c d):=by simp only [CL,j7]
  have e1':CI a c d=cK (ae a c d) (bN a c d):=by simp only [CI,j7]
  have e2':CJ a c d=cL (ae a c d) (bO a c d):=by simp only [CJ,j7]
  rw [e5,e1',e2']
  refine VQ.2 ⟨?_,k1,k2,k3,?_⟩
  ·simp only [GL]
   cases aL a c d <;> cases ba a c d <;> cases bq a c d <;> cases dc a c d <;> cases jV a c d <;> cases lr a c d <;> cases kX a c d <;> first | exact k0 | exact hi
  ·simp only [GM,e0,e24]
   refine fS (by rw [List.length_set];omega) (fS (by rw [List.length_set];omega) (fS (by rw [w7];omega) (fS (by rw [w7];omega) (fS (by omega) (fS (by omega) (fS (by rw [w7,w5];omega) (by omega)))))))
def aen:awE
 | [.one ⟨false,[.ptr 0 0]⟩],[.box 113 [.ref 1,.val (.int .i64 a),.val (.int .i64 b)],.row false 5 (.int .u8) c]=>some ⟨.one ⟨true,[awF (GL a b c),awF (CI a b c),awF (CJ a b c),.ref 2,.ref 3]⟩,[.box 113 [.ref 1,awF (LJ a b c),awF (LK a b c)],.row false 5 apN c],[.row true 122 ab5 (CL a b c),.row true 83 aeK (GM a b c)],[aJ a b c]⟩
 |_,_=>none
def FU:PF prog:=PF.alt ann aen (by
 intro args es o h bA;unfold aen at h;split at h
 ·rename_i a b c
  cases h
  have bA:=fv bA
  have hh:=(RE a b c bA).1
  have en:=hh
  exact kj rfl (eT en) rfl rfl rfl
 ·cases h)
end Go.SX
namespace Go.SX
open Go.Proofs Go.Proofs.Tryz
set_option maxRecDepth 100000
def arP(k:Int)(stk xs os:arG)(ss:List BS3)(k':Int)(stk' xs' os':arG)(ss':List BS3):Bool:=k==k'&&(eqL stk stk'&&(eqL os os'&&lkM xs ss xs' ss'))
def lkN(stk xs os:arG)(ss:List BS3):Bool:=leN stk.length 9223372036854775807&&(leN xs.length 9223372036854775807&&(leN os.length 9223372036854775807&&leN ss.length 9223372036854775807))
theorem atb(k k':Int)(stk xs os:arG)(ss:List BS3)(stk' xs' os':arG)(ss':List BS3)(h:lkN stk xs os ss=true):
  Lj k k' stk xs os ss stk' xs' os' ss'=arP k stk xs os ss k' stk' xs' os' ss'∧Lk k k' stk xs os ss stk' os'=true:=by
 simp only [lkN,q9]at h
 obtain⟨h1,h2,h3,h4⟩:=h
 simp only [Lj,Lk,CY,h1,h2,h3,h4,arP,allT,w9,Bool.and_self,cond_true,and_true]
 cases k==k' <;> cases eqL stk stk' <;> cases eqL os os' <;> rfl
def Ul:awE
 | [.one ⟨true,[.val (.int .i64 a),.ref 0,.ref 1,.ref 2,.ref 3]⟩,.one ⟨true,[.val (.int .i64 b),.ref 4,.ref 5,.ref 6,.ref 7]⟩],[.row false 2 (.int .i64) c,.row false 2 (.int .i64) d,.row false 2 (.int .i64) e,.row false 109 (.pair (.int .i64) (.pair (.int .i64) (.int .i64))) f,.row false 2 (.int .i64) g,.row false 2 (.int .i64) i,.row false 2 (.int .i64) j,.row false 109 (.pair (.int .i64) (.pair (.int .i64) (.int .i64))) k]=>some ⟨.one ⟨false,[.val (.bool (arP a c d e f b g i j k))]⟩,[.row false 2 aox c,.row false 2 aox d,.row false 2 aox e,.row false 109 abx f,.row false 2 aox g,.row false 2 aox i,.row false 2 aox j,.row false 109 abx k],[],[lkN c d e f]⟩
 |_,_=>none
def Lr:PF prog:=PF.alt afc Ul (by
 intro args es o h bA;unfold Ul at h;split at h
 ·rename_i a b c d e f g i j k
  cases h
  have bA:=fv bA
  have hh:=atb a b c d e f g i j k bA
  obtain⟨e0,en⟩:=hh
  exact kj rfl (eT en) (by simp only [e0] <;> rfl) rfl rfl
 ·cases h)
section
variable (a b:Int)(c:arG)
def DH:Int:=zm (jg a b c) (ae a b c) (na a b c) (oC a b c) (bF a b c) (bN a b c) (bO a b c) (bp a b c) c
def DI:Int:=zo (jg a b c) (ae a b c) (na a b c) (oC a b c) (bF a b c) (bN a b c) (bO a b c) (bp a b c) c
def jX:Int:=nh (jg a b c) (ae a b c) (DH a b c) (DI a b c) (bF a b c) (bN a b c) (bO a b c) (bp a b c) c
def Ox:Int:=oZ (jg a b c) (ae a b c) (DH a b c) (DI a b c) (bF a b c) (bN a b c) (bO a b c) (bp a b c) c
def ac0:Int:=nxV 8 (jX a b c) (Ox a b c) c
def cF:Bool:=ac0 a b c==0
def wQ:arD:=lq (jg a b c) (ae a b c) (bF a b c) (bN a b c) (bO a b c) (bp a b c)
def cU:Bool:=ac0 a b c==1
def pF:Int:=nxS 8 (jX a b c) (Ox a b c) c
def DJ:Int:=LJ (nxA 8 (jX a b c) c) (pF a b c) c
def Mn:Int:=LK (nxA 8 (jX a b c) c) (pF a b c) c
def di:Bool:=nxV 2 (DJ a b c) (Mn a b c) c==0
def GS:Int:=GL (nxA 8 (jX a b c) c) (pF a b c) c
def GU:Int:=CI (nxA 8 (jX a b c) c) (pF a b c) c
def TF:Int:=CJ (nxA 8 (jX a b c) c) (pF a b c) c
def abq:Int:=nxS 2 (DJ a b c) (Mn a b c) c
def Mo:aow:=CL (nxA 8 (jX a b c) c) (pF a b c) c
def TG:arD:=GM (nxA 8 (jX a b c) c) (pF a b c) c
def Mp:arG:=zp (jg a b c) (ae a b c) (na a b c) (oC a b c) (bF a b c) (bN a b c) (bO a b c) (bp a b c) c
def vq:Int:=adq 0 (GU a b c) (GU a b c) 0
def Mq:aq5:=zq (jg a b c) (ae a b c) (na a b c) (oC a b c) (bF a b c) (bN a b c) (bO a b c) (bp a b c) c
def sw:Int:=(↑(v4 (Mo a b c)):Int)
def Mr:arG:=vd (jg a b c) (ae a b c) (DH a b c) (DI a b c) (bF a b c) (bN a b c) (bO a b c) (bp a b c) c
def vr:Int:=adq 0 (GS a b c) (GS a b c) 0
def TH:Bool:=prD (jg a b c) (bF a b c) (bN a b c) (bO a b c) (ae a b c) (bp a b c)
def de:Int:=bif cF a b c then Ce (cJ (ae a b c) (bF a b c)) (cK (ae a b c) (bN a b c)) (cL (ae a b c) (bO a b c)) (cM (ae a b c) (bp a b c)) (wQ a b c)else bif cU a b c then bif di a b c then GS a b c else GS a b c else cJ (ae a b c) (bF a b c)
def dq:Int:=bif cF a b c then Cf (cJ (ae a b c) (bF a b c)) (cK (ae a b c) (bN a b c)) (cL (ae a b c) (bO a b c)) (cM (ae a b c) (bp a b c)) (wQ a b c)else bif cU a b c then bif di a b c then GU a b c else GU a b c else cK (ae a b c) (bN a b c)
def bV:Int:=bif cF a b c then Cg (cJ (ae a b c) (bF a b c)) (cK (ae a b c) (bN a b c)) (cL (ae a b c) (bO a b c)) (cM (ae a b c) (bp a b c)) (wQ a b c)else bif cU a b c then bif di a b c then TF a b c else TF a b c else cL (ae a b c) (bO a b c)
def ji:Int:=bif cF a b c then nxA 8 (jX a b c) c else bif cU a b c then bif di a b c then nxA 2 (DJ a b c) c else nxA 2 (DJ a b c) c else nxA 8 (jX a b c) c
def pE:Int:=bif cF a b c then pF a b c else bif cU a b c then bif di a b c then abq a b c else abq a b c else pF a b c
def cH:aov:=bif cF a b c then Ch (cJ (ae a b c) (bF a b c)) (cK (ae a b c) (bN a b c)) (cL (ae a b c) (bO a b c)) (cM (ae a b c) (bp a b c)) (wQ a b c)else bif cU a b c then bif di a b c then Mo a b c else Mo a b c else cM (ae a b c) (bp a b c)
def cY:arD:=bif cF a b c then Ci (cJ (ae a b c) (bF a b c)) (cK (ae a b c) (bN a b c)) (cL (ae a b c) (bO a b c)) (cM (ae a b c) (bp a b c)) (wQ a b c)else bif cU a b c then bif di a b c then TG a b c else TG a b c else wQ a b c
def eo:arG:=bif cF a b c then Mp a b c else bif cU a b c then bif di a b c then Mp a b c else v7 (j9 (vq a b c)) (0:Int)else Mp a b c
def ep:aqe:=bif cF a b c then Mq a b c else bif cU a b c then bif di a b c then Mq a b c else v7 (j9 (sw a b c)) ((0:Int),(0:Int),(0:Int))else Mq a b c
def kh:arG:=bif cF a b c then Mr a b c else bif cU a b c then bif di a b c then Mr a b c else v7 (j9 (vr a b c)) (0:Int)else Mr a b c
def Vr:Bool:=allT [aJ a b c,TH a b c,aJ (na a b c) (oC a b c) c&&TH a b c,aJ (DH a b c) (DI a b c) c&&leN (v4 (bF a b c)) 50,aJ (jX a b c) (Ox a b c) c,!cF a b c||cdD (cJ (ae a b c) (bF a b c)) (cK (ae a b c) (bN a b c)) (cL (ae a b c) (bO a b c)) (cM (ae a b c) (bp a b c)) (wQ a b c),cF a b c||(!cU a b c||aJ (nxA 8 (jX a b c) c) (pF a b c) c),cF a b c||(!cU a b c||aJ (DJ a b c) (Mn a b c) c),cF a b c||(!cU a b c||(di a b c||leI 0 (vq a b c))),cF a b c||(!cU a b c||(di a b c||leI (vq a b c) (vq a b c))),cF a b c||(!cU a b c||(di a b c||leI ((↑(8:Nat):Int) * vq a b c) 281474976710656)),cF a b c||(!cU a b c||(di a b c||leI (vq a b c) 9223372036854775807)),cF a b c||(!cU a b c||(di a b c||leI 0 (sw a b c))),cF a b c||(!cU a b c||(di a b c||leI (sw a b c) (sw a b c))),cF a b c||(!cU a b c||(di a b c||leI ((↑(24:Nat):Int) * sw a b c) 281474976710656)),cF a b c||(!cU a b c||(di a b c||leI (sw a b c) 9223372036854775807)),cF a b c||(!cU a b c||(di a b c||leI 0 (vr a b c))),cF a b c||(!cU a b c||(di a b c||leI (vr a b c) (vr a b c))),cF a b c||(!cU a b c||(di a b c||leI ((↑(8:Nat):Int) * vr a b c) 281474976710656)),cF a b c||(!cU a b c||(di a b c||leI (vr a b c) 9223372036854775807))]
end
def ad1:awE
 | [.one ⟨false,[.ptr 0 0]⟩],[.box 113 [.ref 1,.val (.int .i64 a),.val (.int .i64 b)],.row false 5 (.int .u8) c]=>some ⟨.tup [⟨true,[awF (de a b c),awF (dq a b c),awF (bV a b c),.ref 2,.ref 3]⟩,⟨true,[.ref 4,.ref 5]⟩,⟨false,[.ref 6]⟩],[.box 113 [.ref 1,awF (ji a b c),awF (pE a b c)],.row false 5 apN c],[.row true 122 ab5 (cH a b c),.row true 83 aeK (cY a b c),.row true 2 aox (eo a b c),.row true 109 abx (ep a b c),.row true 2 aox (kh a b c)],[Vr a b c]⟩
 |_,_=>none
def ano:PF prog:=PF.ofG prog (T3z [Lx,Lw,am,FU,gV,dV,OP]) [] bj 71 f71 func71 (fun c _=>LOk.nil c) ad1 (by
 intro _ _ _ h;unfold ad1 at h;split at h<;>cases h;kernel_rfl)
section
variable (a b c:Int)(d:aow)(e:arD)(f:arG)(g:aq5)
def kg:Int:=bif !cA a b c d e then(0:Int)else bif !lB b d f g then(0:Int)else(0:Int)
def fl:Int:=bif !cA a b c d e then(1:Int)else bif !lB b d f g then(2:Int)else(0:Int)
def fm:arG:=bif !cA a b c d e then []else bif !lB b d f g then []else pG
def fo:arG:=bif !cA a b c d e then []else bif !lB b d f g then []else f
def fq:arG:=bif !cA a b c d e then []else bif !lB b d f g then []else pH c
def ft:aqe:=bif !cA a b c d e then []else bif !lB b d f g then []else g
def wx:Bool:=allT [afu d,!cA a b c d e||leN f.length (9223372036854775807:Nat)&&leN d.length (9223372036854775807:Nat),!cA a b c d e||(!lB b d f g||zY c f g)]
end
def Vw:awE
 | [.one ⟨true,[.val (.int .i64 a),.val (.int .i64 b),.val (.int .i64 c),.ref 0,.ref 1]⟩,.one ⟨true,[.ref 2,.ref 3]⟩],[.row false 122 (.pair (.int .i64) (.pair (.str) (.int .i64))) d,.row false 83 (.pair (.int .i64) (.int .i64)) e,.row false 2 (.int .i64) f,.row false 109 (.pair (.int .i64) (.pair (.int .i64) (.int .i64))) g]=>some ⟨.tup [⟨true,[awF (kg a b c d e f g),.ref 4,.ref 5,.ref 6,.ref 7]⟩,⟨false,[awF (fl a b c d e f g)]⟩],[.row false 122 ab5 d,.row false 83 aeK e,.row false 2 aox f,.row false 109 abx g],[.row true 2 aox (fm a b c d e f g),.row true 2 aox (fo a b c d e f g),.row true 2 aox (fq a b c d e f g),.row true 109 abx (ft a b c d e f g)],[wx a b c d e f g]⟩
 |_,_=>none
def sN:PF prog:=PF.ofG prog (T3z [ud,DA,fP]) [] bj 34 f34 func34 (fun c _=>LOk.nil c) Vw (by
 intro _ _ _ h;unfold Vw at h;split at h<;>cases h;kernel_rfl)
 attribute [local irreducible] nxA nxS nxV pkA pkS pkV
theorem av9(z:Int)(h:z≤60):0≤adq 0 z z 0∧adq 0 z z 0≤60:=by
 by_cases hz:0 < z
 ·have:adq 0 z z 0=z:=by simp only [adq,if_pos hz]
  omega
 ·have:adq 0 z z 0=0:=by simp only [adq,if_neg hz]
  omega
theorem zP(a b:Int)(c:arG)(h:aJ a b c=true):
  Vr a b c=true∧aJ (ji a b c) (pE a b c) c=true∧cdD (de a b c) (dq a b c) (bV a b c) (cH a b c) (cY a b c)=true∧(eo a b c).length≤60∧(ep a b c).length≤10000∧(kh a b c).length≤60:=by
 obtain⟨_,s0,⟨hp,_⟩,_⟩:=Kn a b c h
 have p24:TH a b c=true:=hp
 obtain⟨_,hcd,_⟩:=Es _ _ _ _ _ _ hp
 have i0:=(sF.1 (afM.1 hp).2.1).1
 obtain⟨_,s1,m2,m3⟩:=Qc _ _ _ _ _ _ _ _ c s0 hp
 have s1:aJ (DH a b c) (DI a b c) c=true:=s1
 have m2:(Mp a b c).length≤60:=m2
 have m3:(Mq a b c).length≤2000:=m3
 obtain⟨_,s2,m8⟩:=Gm (jg a b c) (ae a b c) (DH a b c) (DI a b c) (bF a b c) (bN a b c) (bO a b c) (bp a b c) c s1 i0
 have s2:aJ (jX a b c) (Ox a b c) c=true:=s2
 have m8:(Mr a b c).length≤60:=m8
 have s3:aJ (nxA 8 (jX a b c) c) (pF a b c) c=true:=le s2
 obtain⟨_,s4,hc2⟩:=RE _ _ c s3
 have s4:aJ (DJ a b c) (Mn a b c) c=true:=s4
 have hc2:cdD (GS a b c) (GU a b c) (TF a b c) (Mo a b c) (TG a b c)=true:=hc2
 obtain⟨d0,d1,d2,⟨d3,_⟩,_⟩:=VQ.1 hc2
 have hcd':cdD (cJ (ae a b c) (bF a b c)) (cK (ae a b c) (bN a b c)) (cL (ae a b c) (bO a b c)) (cM (ae a b c) (bp a b c)) (wQ a b c)=true:=hcd
 have hi:=(aqg _ _ _ _ _ hcd').2
 have g19:0≤vq a b c∧vq a b c≤60:=av9 _ d1.2
 have g23:0≤vr a b c∧vr a b c≤60:=av9 _ d0.2
 have g21:0≤sw a b c∧sw a b c≤10000:=by simp only [sw];omega
 have mk: ∀ z:Int,0≤z→z≤10000→leI 0 z=true∧leI z z=true∧leI ((↑(8:Nat):Int) * z) 281474976710656=true∧leI ((↑(24:Nat):Int) * z) 281474976710656=true∧leI z 9223372036854775807=true:=fun z h0 h1=>⟨aS h0,aS (by omega),aS (by omega),aS (by omega),aS (by omega)⟩
 obtain⟨a1,a2,a3,a4,a5⟩:=mk _ g19.1 (by omega)
 obtain⟨b1,b2,b3,b4,b5⟩:=mk _ g23.1 (by omega)
 obtain⟨c1,c2,c3,c4,c5⟩:=mk _ g21.1 g21.2
 refine⟨?_,?_,?_,?_,?_,?_⟩
 ·simp only [Vr,h,p24,s0,s1,s2,s3,s4,hcd',aG i0,a1,a2,a3,a4,a5,b1,b2,b3,b4,b5,c1,c2,c3,c4,c5,allT,w9,Bool.and_self,cond_true]
 ·simp only [ji,pE]
  exact qS s3 (qS (qS (le s4) (le s4)) s3)
 ·simp only [de,dq,bV,cH,cY]
  cases cF a b c <;> simp only [cond_true,cond_false]
  ·cases cU a b c <;> simp only [cond_true,cond_false,j7]
   ·exact hcd
   ·exact hc2
  ·exact hi
 ·simp only [eo]
  exact fS m2 (fS (fS m2 (by rw [j8];omega)) m2)
 ·simp only [ep]
  exact fS (by omega) (fS (fS (by omega) (by rw [j8];omega)) (by omega))
 ·simp only [kh]
  exact fS m8 (fS (fS m8 (by rw [j8];omega)) m8)
def aeo:awE
 | [.one ⟨false,[.ptr 0 0]⟩],[.box 113 [.ref 1,.val (.int .i64 a),.val (.int .i64 b)],.row false 5 (.int .u8) c]=>some ⟨.tup [⟨true,[awF (de a b c),awF (dq a b c),awF (bV a b c),.ref 2,.ref 3]⟩,⟨true,[.ref 4,.ref 5]⟩,⟨false,[.ref 6]⟩],[.box 113 [.ref 1,awF (ji a b c),awF (pE a b c)],.row false 5 apN c],[.row true 122 ab5 (cH a b c),.row true 83 aeK (cY a b c),.row true 2 aox (eo a b c),.row true 109 abx (ep a b c),.row true 2 aox (kh a b c)],[aJ a b c]⟩
 |_,_=>none
def pz:PF prog:=PF.alt ano aeo (by
 intro args es o h bA;unfold aeo at h;split at h
 ·rename_i a b c
  cases h
  have bA:=fv bA
  have hh:=(zP a b c bA).1
  have en:=hh
  exact kj rfl (eT en) rfl rfl rfl
 ·cases h)
end Go.SX
namespace Go.SX
open Go.Proofs Go.Proofs.Tryz
set_option maxRecDepth 100000
def aaL:awE
 | [.one ⟨false,[.ref 0]⟩,.one ⟨false,[.val (.int .i64 a)]⟩],[.row true 2 (.int .i64) b]=>some ⟨.one ⟨false,[.ref 1]⟩,[.gone],[.row true 2 aox (zy a b)],[zA a b]⟩
 |_,_=>none
def akT:PF prog:=PF.ofG prog [] [] bj 125 f125 func125 (fun c _=>LOk.nil c) aaL (by
 intro _ _ _ h;unfold aaL at h;split at h<;>cases h;kernel_rfl)
def aaM:awE
 | [.one ⟨true,[.val (.int .i64 _x0),.val (.int .i64 _x1),.val (.int .i64 _x2),.ref 0,.ref 1]⟩,.one ⟨true,[.val (.int .i64 a),.ref 2,.ref 3,.ref 4,.ref 5]⟩,.one ⟨false,[.ref 6]⟩],[.row false 122 (.pair (.int .i64) (.pair (.str) (.int .i64))) b,.row false 83 (.pair (.int .i64) (.int .i64)) c,.row false 2 (.int .i64) d,.row false 2 (.int .i64) e,.row false 2 (.int .i64) f,.row false 109 (.pair (.int .i64) (.pair (.int .i64) (.int .i64))) g,.row false 2 (.int .i64) i]=>some ⟨.one ⟨true,[awF (CO a c),.ref 7,.ref 8,.ref 9,.ref 10]⟩,[.row false 122 ab5 b,.row false 83 aeK c,.row false 2 aox d,.row false 2 aox e,.row false 2 aox f,.row false 109 abx g,.row false 2 aox i],[.row true 2 aox (CP a b c d e g i),.row true 2 aox (GV a b c d e),.row true 2 aox (GW a b c d e f i),.row true 109 abx (GX a b c d g)],[ki a b c d e f g i]⟩
 |_,_=>none
def akU:PF prog:=PF.ofG prog (T3z [ow,gW,akT,aF]) [] bj 77 f77 func77 (fun c _=>LOk.nil c) aaM (by
 intro _ _ _ h;unfold aaM at h;split at h<;>cases h;kernel_rfl)
def aaR:awE
 | [.one ⟨true,[.val (.int .i64 a),.val (.int .i64 b),.val (.int .i64 c),.ref 0,.ref 1]⟩,.one ⟨true,[.val (.int .i64 d),.ref 2,.ref 3,.ref 4,.ref 5]⟩,.one ⟨false,[.ref 6]⟩],[.row false 122 (.pair (.int .i64) (.pair (.str) (.int .i64))) e,.row false 83 (.pair (.int .i64) (.int .i64)) f,.row false 2 (.int .i64) g,.row false 2 (.int .i64) i,.row false 2 (.int .i64) j,.row false 109 (.pair (.int .i64) (.pair (.int .i64) (.int .i64))) k,.row false 2 (.int .i64) l]=>some ⟨.one ⟨true,[awF ((stM e f l d g i j k).1),.ref 7,.ref 8,.ref 9,.ref 10]⟩,[.row false 122 ab5 e,.row false 83 aeK f,.row false 2 aox g,.row false 2 aox i,.row false 2 aox j,.row false 109 abx k,.row false 2 aox l],[.row true 2 aox ((stM e f l d g i j k).2.1),.row true 2 aox ((stM e f l d g i j k).2.2.1),.row true 2 aox ((stM e f l d g i j k).2.2.2.1),.row true 109 abx ((stM e f l d g i j k).2.2.2.2)],[aka a b c e f l d g i j k]⟩
 |_,_=>none
def Bt:PF prog:=PF.alt akU aaR (by
 intro args es o h bA;unfold aaR at h;split at h
 ·rename_i a b c d e f g i j k l
  cases h
  have bA:=fv bA
  have hh:=auj a b c e f l d g i j k bA
  obtain⟨e0,e1,e2,e3,e4,en⟩:=hh
  exact kj rfl (eT en) (by simp only [e0] <;> rfl) rfl (by simp only [e1,e2,e3,e4] <;> rfl)
 ·cases h)
abbrev kA:=Int×Int×Int×Int×Int×List Int×List (Int×(asv×Int))×List (Int×Int)×List Int×List Int×List Int×List (Int×(Int×Int))
section
variable (a b c d e:Int)(f:arG)(g:aov)(i:arD)(j k l:arG)(m:aqe)
def Fa:Bool:=ltI 0 a
def NU:Bool:=aka b c d g i f e j k l m
def NV:Int:=v6 .i64 (a - (1:Int))
def NW:Int:=(stM g i f e j k l m).1
def NX:arG:=((stM g i f e j k l m).2).1
def NY:arG:=((stM g i f e j k l m).2.2).1
def NZ:arG:=((stM g i f e j k l m).2.2.2).1
def Oa:aqe:=(stM g i f e j k l m).2.2.2.2
end
def Yp:kA→List (Nat×SV)
 |(a,_,_,_,_,_,_,_,_,_,_,_)=> [(10,(.one ⟨false,[awF a]⟩)),(5,(.one ⟨false,[.ptr 0 0]⟩)),(8,(.one ⟨false,[.ptr 1 0]⟩)),(7,(.one ⟨false,[.ref 2]⟩))]
def Yn:kA→List (Nat×Entry)
 |(_,a,b,c,d,e,f,g,i,j,k,l)=> [(0,(.box 27 [awF a,awF b,awF c,.ref 3,.ref 4])),(1,(.box 31 [awF d,.ref 5,.ref 6,.ref 7,.ref 8])),(2,(.row true 2 aox e)),(3,(.row true 122 ab5 f)),(4,(.row true 83 aeK g)),(5,(.row true 2 aox i)),(6,(.row true 2 aox j)),(7,(.row true 2 aox k)),(8,(.row true 109 abx l))]
def Yt:Nat→kA→List (Nat×SV)
 |_,(_,_,_,_,_,_,_,_,_,_,_,_)=> []
def Dv:kA→LT kA
 |(a,b,c,d,e,f,g,i,j,k,l,m)=> .ite (Fa a) (.need [NU b c d e f g i j k l m] (.nrm ((NV a),b,c,d,NW e f g i j k l m,f,g,i,NX e f g i j k l m,NY e f g i j k l m,NZ e f g i j k l m,(Oa e f g i j k l m)) [(0,0),(1,1),(2,2),(3,3),(4,4),(5,384),(6,385),(7,386),(8,387)])) (.ext 0 [(0,0),(1,1),(2,2),(3,3),(4,4),(5,5),(6,6),(7,7),(8,8)])
def Dx(s:St):Option kA:=do
 let some ⟨none,.one ⟨false,[.val (.int .i64 a)]⟩⟩:=s.look 10|none
 let some ⟨none,.one ⟨false,[.ptr 768 0]⟩⟩:=s.look 5|none
 let some ⟨none,.one ⟨false,[.ptr 1472 0]⟩⟩:=s.look 8|none
 let some ⟨none,.one ⟨false,[.ref 452]⟩⟩:=s.look 7|none
 let some (.box 27 [.val (.int .i64 b),.val (.int .i64 c),.val (.int .i64 d),.ref 448,.ref 449]):=s.ent 768|none
 let some (.box 31 [.val (.int .i64 e),.ref 1216,.ref 1217,.ref 1218,.ref 1219]):=s.ent 1472|none
 let some (.row true 2 (.int .i64) f):=s.ent 452|none
 let some (.row true 122 (.pair (.int .i64) (.pair .str (.int .i64))) g):=s.ent 448|none
 let some (.row true 83 (.pair (.int .i64) (.int .i64)) i):=s.ent 449|none
 let some (.row true 2 (.int .i64) j):=s.ent 1216|none
 let some (.row true 2 (.int .i64) k):=s.ent 1217|none
 let some (.row true 2 (.int .i64) l):=s.ent 1218|none
 let some (.row true 109 (.pair (.int .i64) (.pair (.int .i64) (.int .i64))) m):=s.ent 1219|none
 some (a,b,c,d,e,f,g,i,j,k,l,m)
def ek:Lp kA where
 h:=⟨[41,42,45,46,47,48,43,44,10],[0,1,2,3,4],[5,6,7,8],[]⟩
 JL:=Yp
 JE:=Yn
 XL:=Yt
 XE:=fun _=>Yn
 q:=fun j=>match j with | _=> .exit 0
 tags:= [0]
 lt:=Dv
 fuel:=fun(a,b,c,d,e,f,g,i,k,l,m,n)=>a.natAbs + b.natAbs + c.natAbs + d.natAbs + e.natAbs + f.length + g.length + i.length + k.length + l.length + m.length + n.length
 fix:=fun(_,b,c,d,_,f,g,i,_,_,_,_) (a,_,_,_,e,_,_,_,k,l,m,n)=>(a,b,c,d,e,f,g,i,k,l,m,n)
 σ:= [(0,768),(1,1472),(2,452),(3,448),(4,449),(5,1216),(6,1217),(7,1218),(8,1219)]
 rd:=Dx
theorem VX:LoopOk prog (fun k=>Nat.blt k Tryz.f41.ntmps) ek.F (bB f41 0):=by
 refine Lp.ok (tbl:= (T3z [sN,pz,bh,Bt,am,aF,aX])) (lf:= []) bj ek (by kernel_rfl) (LOk.nil _) (fun _=>rfl) (fun _ _=>rfl) ?_ ?_ ?_ ?_ (fun _=>rfl) ?_
 ·rintro⟨a,b,c,d,e,f,g,i,j,l,m,n⟩;kernel_rfl
 ·rintro⟨a,b,c,d,e,f,g,i,j,l,m,n⟩;kernel_rfl
 ·intro s x h
  have h:Dx s=some x:=h
  unfold Dx at h
  repeat' split at h
  all_goals cases h
  constructor<;>repeat(first|refine ab (by assumption) rfl ?_|refine aa rfl (by assumption) rfl ?_|exact rfl)
 ·rintro⟨a,b,c,d,e,f,g,i,j,l,m,n⟩;kernel_rfl
 ·rintro⟨a,b,c,d,e,f,g,i,j,l,m,n⟩ z;exact(And.intro rfl trivial)
section
variable (a b:Int)(c:arG)
def sv:Bool:=fl (de a b c) (dq a b c) (bV a b c) (cH a b c) (cY a b c) (eo a b c) (ep a b c)!=0
def aT:Bool:=bif sv a b c then true else !bitsB (de a b c) (kh a b c)
def dG:Int:=v6 .i64 ((↑(v4 (cY a b c)):Int) + (1:Int))
def Bk:Int:=nxS (dG a b c) (ji a b c) (pE a b c) c
def Iw:Int:=nxV 20 (nxA (dG a b c) (ji a b c) c) (Bk a b c) c
def bx:Bool:=Iw a b c==0
def bG:Bool:=Iw a b c==1
def Bl:Int:=kg (de a b c) (dq a b c) (bV a b c) (cH a b c) (cY a b c) (eo a b c) (ep a b c)
def Ix:Int:=v6 .i64 ((↑(v4 (cY a b c)):Int) + (3:Int))
def fb:Int:=nxA 20 (nxA (dG a b c) (ji a b c) c) c
def gP:Int:=nxS 20 (nxA (dG a b c) (ji a b c) c) (Bk a b c) c
def lY:arG:=bif !sv a b c&&true then kh a b c else kh a b c
def vh:arG:=fm (de a b c) (dq a b c) (bV a b c) (cH a b c) (cY a b c) (eo a b c) (ep a b c)
def vi:arG:=fo (de a b c) (dq a b c) (bV a b c) (cH a b c) (cY a b c) (eo a b c) (ep a b c)
def vj:arG:=fq (de a b c) (dq a b c) (bV a b c) (cH a b c) (cY a b c) (eo a b c) (ep a b c)
def vk:aq5:=ft (de a b c) (dq a b c) (bV a b c) (cH a b c) (cY a b c) (eo a b c) (ep a b c)
def vm:Int×Int×Int×Int×Int×arG×aow×arD×arG×arG×arG×aq5:=(nxV (dG a b c) (ji a b c) (pE a b c) c,de a b c,dq a b c,bV a b c,Bl a b c,lY a b c,cH a b c,cY a b c,vh a b c,vi a b c,vj a b c,vk a b c)
def zN:Int×arG×aow×arD×arG×arG×arG×aq5:=(Lp.res ek (vm a b c)).2.2.2.2.2
def Qq:Int:=(zN a b c).1
def oD:Bool:=Iw a b c==2
def qZ:arG×arG×arG×aq5:=(zN a b c).2.2.2.2
def vn:arG×arG×aq5:=(qZ a b c).2
def zO:arG×aq5:=(vn a b c).2
def jI:arG:=(zO a b c).1
def dJ:Bool:=ltI 0 (↑(v4 (jI a b c)):Int)
def lZ:arG:=(qZ a b c).1
def vo:arG:=(vn a b c).1
def vp:aq5:=(zO a b c).2
def tQ:Int:=bif aT a b c then de a b c else bif bx a b c then de a b c else bif bG a b c then de a b c else de a b c
def tR:Int:=bif aT a b c then dq a b c else bif bx a b c then dq a b c else bif bG a b c then dq a b c else dq a b c
def tS:Int:=bif aT a b c then bV a b c else bif bx a b c then bV a b c else bif bG a b c then bV a b c else bV a b c
def Kb:Int:=bif aT a b c then Bl a b c else bif bx a b c then v6 .i64 (nxV (Ix a b c) (fb a b c) (gP a b c) c - (1:Int))else bif bG a b c then Qq a b c else Qq a b c
def SP:Int:=bif aT a b c then ji a b c else bif bx a b c then nxA (Ix a b c) (fb a b c) c else bif bG a b c then fb a b c else bif oD a b c then bif dJ a b c then pkA (fb a b c) [(-1:Int),(1:Int),(2:Int)] c else fb a b c else fb a b c
def SQ:Int:=bif aT a b c then pE a b c else bif bx a b c then nxS (Ix a b c) (fb a b c) (gP a b c) c else bif bG a b c then gP a b c else bif oD a b c then bif dJ a b c then pkS (fb a b c) (gP a b c) [(-1:Int),(1:Int),(2:Int)] c else gP a b c else gP a b c
def tT:aov:=bif aT a b c then cH a b c else bif bx a b c then cH a b c else bif bG a b c then cH a b c else cH a b c
def tU:arD:=bif aT a b c then cY a b c else bif bx a b c then cY a b c else bif bG a b c then cY a b c else cY a b c
def tV:arG:=bif aT a b c then vh a b c else bif bx a b c then lZ a b c else bif bG a b c then lZ a b c++ [(0:Int)]else lZ a b c
def tW:arG:=bif aT a b c then vi a b c else bif bx a b c then vo a b c else bif bG a b c then vo a b c else vo a b c
def sq:arG:=bif aT a b c then vj a b c else bif bx a b c then jI a b c else bif bG a b c then jI a b c else bif oD a b c then bif dJ a b c then List.set (jI a b c) (j9 0) (pkV (fb a b c) (gP a b c) [(-1:Int),(1:Int),(2:Int)] c)else jI a b c else jI a b c
def sr:aqe:=bif aT a b c then vk a b c else bif bx a b c then vp a b c else bif bG a b c then vp a b c else vp a b c
def su:arG:=bif aT a b c then lY a b c else bif bx a b c then lY a b c else bif bG a b c then lY a b c else lY a b c
def Bj:Bool:=allT [aJ a b c,wx (de a b c) (dq a b c) (bV a b c) (cH a b c) (cY a b c) (eo a b c) (ep a b c),!(!sv a b c&&true)||leN (v4 (kh a b c)) 9223372036854775807,aT a b c||aJ (ji a b c) (pE a b c) c,aT a b c||Lp.fin ek (vm a b c),aT a b c||aJ (nxA (dG a b c) (ji a b c) c) (Bk a b c) c,aT a b c||(!bx a b c||aJ (fb a b c) (gP a b c) c),aT a b c||(bx a b c||(!bG a b c||leN (v4 (lZ a b c)) 1048576)),aT a b c||(bx a b c||(!bG a b c||leN (v4 (lZ a b c) + v4 [(0:Int)]) (9223372036854775807:Nat))),aT a b c||(bx a b c||(!bG a b c||leN ((v4 (lZ a b c) + v4 [(0:Int)]) * (8:Nat)) 140737488355328)),aT a b c||(bx a b c||(bG a b c||(!oD a b c||(!dJ a b c||aJ (fb a b c) (gP a b c) c&&leN 1 (v4 [(-1:Int),(1:Int),(2:Int)]))))),aT a b c||(bx a b c||(bG a b c||(!oD a b c||(!dJ a b c||leI 0 0)))),aT a b c||(bx a b c||(bG a b c||(!oD a b c||(!dJ a b c||dJ a b c)))),aT a b c||(bx a b c||(bG a b c||(!oD a b c||(!dJ a b c||ltN (j9 0) (v4 (jI a b c))))))]
end
def Sj:awE
 | [.one ⟨false,[.ptr 0 0]⟩],[.box 113 [.ref 1,.val (.int .i64 a),.val (.int .i64 b)],.row false 5 (.int .u8) c]=>some ⟨.tup [⟨true,[awF (tQ a b c),awF (tR a b c),awF (tS a b c),.ref 2,.ref 3]⟩,⟨true,[awF (Kb a b c),.ref 4,.ref 5,.ref 6,.ref 7]⟩,⟨false,[.ref 8]⟩],[.box 113 [.ref 1,awF (SP a b c),awF (SQ a b c)],.row false 5 apN c],[.row true 122 ab5 (tT a b c),.row true 83 aeK (tU a b c),.row true 2 aox (tV a b c),.row true 2 aox (tW a b c),.row true 2 aox (sq a b c),.row true 109 abx (sr a b c),.row true 2 aox (su a b c)],[Bj a b c]⟩
 |_,_=>none
def adC:PF prog:=PF.ofG prog (T3z [sN,pz,bh,Bt,am,aF,aX]) [ek.F] bj 41 f41 func41 (LOk.fnT (l:= [bB f41 0]) (by kernel_rfl) (.cons VX (.nil _))) Sj (by
 intro _ _ _ h;unfold Sj at h;split at h<;>cases h;kernel_rfl)
 attribute [local irreducible] nxA nxS nxV pkA pkS pkV
theorem avS{i v o:Int}{bs:List TM}{st:List IN}{xs:arG}{ss:List BS3}(hC:cA i v o bs st=true)(hs:lB v bs xs ss=true):
  OkS i v o bs st (0,[],xs,v7 o.toNat 0,ss):=by
 have hC':=hC
 simp only [cA,q9]at hC'
 obtain⟨ri,rv,ro,rb,rs⟩:=II.1 hC'.1
 have e:hAt i v o bs st 0=0:=rfl
 have ho:bitsB o (v7 o.toNat 0)=true:=cz.2 ⟨fun x hx=> .inl (List.eq_of_mem_replicate hx),by rw [j8];omega⟩
 have e0:bitsB 0 []=true:=rfl
 have hr:inR 0 0 (st.length:Int)=true:=wW.2 (by omega)
 exact akD hC (by simp only [Yv,e,e0,ho,hs,hr,Bool.and_self])
theorem atH{i v o:Int}{bs:List TM}{st:List IN}{inp:arG}(hC:cA i v o bs st=true)(xa:bitsB i inp=true): ∀ (n:Nat) (m:MS),OkS i v o bs st m→m.1 + n≤st.length→
  ∃ m':MS,OkS i v o bs st m'∧LX ek.lt (n + 1) ((n:Int),i,v,o,m.1,inp,bs,st,m.2.1,m.2.2.1,m.2.2.2.1,m.2.2.2.2)=
   some (0,((0:Int),i,v,o,m'.1,inp,bs,st,m'.2.1,m'.2.2.1,m'.2.2.2.1,m'.2.2.2.2))
 |0,m,hm,_=>⟨m,hm,Gb _ (by
   have e0:ltI (0:Int) ((0:Nat):Int)=false:=rfl
   simp only [ek,Dv,LT.out,Fa,e0,cond_false])⟩
 |n + 1,m,hm,hl=>by
  have h0:=hm.lo
  have eG:m.1 < st.length:=by omega
  have hs:=(aiW hC xa hm eG).1
  have he:(akb bs st inp m).1=m.1 + 1:=rfl
  obtain⟨m',h1,h2⟩:=atH hC xa n _ hs (by rw [he];omega)
  refine⟨m',h1,?_⟩
  obtain⟨k,stk,xs,os,ss⟩:=m
  have hlt':k < st.length:=eG
  have q0:ltI 0 ((n + 1:Nat):Int)=true:=cI (by omega)
  have hmc:Yv i v o bs st k stk xs os ss=true:=avE hC hm
  have q1:aka i v o bs st inp k stk xs os ss=true:=by
   simp only [aka,Sp,hC,xa,hmc,cI hlt',Bool.and_self]
  have q2:v6 .i64 (((n + 1:Nat):Int) - 1)=(n:Int):=by
   have:=hm.hi
   rw [aR (by omega) (by have hb:=(II.1 (by simp only [cA,q9]at hC;exact hC.1)).2.2.2.2;omega)];omega
  rw [Tk (y:=((n:Int),i,v,o,(akb bs st inp (k,stk,xs,os,ss)).1,inp,bs,st,(akb bs st inp (k,stk,xs,os,ss)).2.1,(akb bs st inp (k,stk,xs,os,ss)).2.2.1,(akb bs st inp (k,stk,xs,os,ss)).2.2.2.1,(akb bs st inp (k,stk,xs,os,ss)).2.2.2.2)) _ (by
   simp only [ek,Dv,LT.out,Fa,NU,NV,NW,NX,NY,NZ,Oa,q0,q1,q2,allT,cond_true,stM])]
  exact h2
theorem NT(a b:Int)(c:arG)(h:aJ a b c=true):
  Bj a b c=true∧cdD (tQ a b c) (tR a b c) (tS a b c) (tT a b c) (tU a b c)=true∧
  (tV a b c).length≤10000∧(tW a b c).length≤10000∧(sq a b c).length≤10000∧(sr a b c).length≤10000∧(su a b c).length≤60:=by
 obtain⟨_,s1,d2,d3,d4,d5⟩:=zP a b c h
 obtain⟨c0,c1,c2,⟨c3,c4⟩,c5⟩:=VQ.1 d2
 have hts:afu (cH a b c)=true:=UR.2 ⟨by omega,fun t ht=>by have:=c4 t ht;omega⟩
 have z0:tQ a b c=de a b c:=by simp only [tQ,j7]
 have z1:tR a b c=dq a b c:=by simp only [tR,j7]
 have z2:tS a b c=bV a b c:=by simp only [tS,j7]
 have z6:tT a b c=cH a b c:=by simp only [tT,j7]
 have z7:tU a b c=cY a b c:=by simp only [tU,j7]
 have z12:su a b c=kh a b c:=by simp only [su,lY,j7]
 rw [z0,z1,z2,z6,z7,z12]
 have l9:leN (kh a b c).length 9223372036854775807=true:=aG (by omega)
 have l7:leN (eo a b c).length 9223372036854775807=true:=aG (by omega)
 have l5:leN (cH a b c).length 9223372036854775807=true:=aG (by omega)
 have hst:zY (bV a b c) (eo a b c) (ep a b c)=true:=by
  have q1:leN (eo a b c).length 1048576=true:=aG (by omega)
  have q2:leI 0 (bV a b c)=true:=aS (by omega)
  have q3:leI (bV a b c) (bV a b c)=true:=aS (by omega)
  have q4:leI ((↑(8:Nat):Int) * (bV a b c)) 281474976710656=true:=aS (by omega)
  have q5:leI (bV a b c) 9223372036854775807=true:=aS (by omega)
  have q6:leN (0 + (ep a b c).length) 9223372036854775807=true:=aG (by omega)
  have q7:leN ((0 + (ep a b c).length) * 24) 140737488355328=true:=aG (by omega)
  simp only [zY,q1,q2,q3,q4,q5,q6,q7,allT,cond_true]
 have h6:wx (de a b c) (dq a b c) (bV a b c) (cH a b c) (cY a b c) (eo a b c) (ep a b c)=true:=by
  simp only [wx,hts,l7,l5,hst,allT,w9,Bool.and_self,cond_true]
 cases hA:aT a b c with
 |true=>
  refine⟨?_,d2,?_,?_,?_,?_,d5⟩
  ·simp only [Bj,h,h6,hA,l9,allT,w9,Bool.true_or,cond_true]
  ·simp only [tV,hA,cond_true,vh,fm,pG,j7];simp
  ·simp only [tW,hA,cond_true,vi,fo]
   exact fS (by simp) (fS (by simp) (by omega))
  ·simp only [sq,hA,cond_true,vj,fq,pH]
   exact fS (by simp) (fS (by simp) (by rw [j8];omega))
  ·simp only [sr,hA,cond_true,vk,ft]
   exact fS (by simp) (fS (by simp) (by omega))
 |false=>
  have IA:cA (de a b c) (dq a b c) (bV a b c) (cH a b c) (cY a b c)=true∧lB (dq a b c) (cH a b c) (eo a b c) (ep a b c)=true∧bitsB (de a b c) (kh a b c)=true:=by
   have h1:=hA
   simp only [aT,sv,fl]at h1
   cases q1:cA (de a b c) (dq a b c) (bV a b c) (cH a b c) (cY a b c) <;> cases q2:lB (dq a b c) (cH a b c) (eo a b c) (ep a b c) <;> cases q3:bitsB (de a b c) (kh a b c) <;> rw [q1,q2,q3]at h1 <;> first | exact⟨rfl,rfl,rfl⟩ | (exact absurd h1 (by decide))
  obtain⟨hC,hS,hB⟩:=IA
  have hC':=hC
  simp only [cA,q9]at hC'
  obtain⟨ri,rv,ro,rb,rs⟩:=II.1 hC'.1
  have a0:sv a b c=false:=by simp only [sv,fl,hC,hS];rfl
  have a2:dG a b c=((cY a b c).length:Int) + 1:=by simp only [dG];exact aR (by omega) (by omega)
  have a7:Bl a b c=0:=by simp only [Bl,kg,j7]
  have a11:lY a b c=kh a b c:=by simp only [lY,j7]
  have a12:vh a b c= []:=by simp only [vh,fm,pG,j7]
  have a13:vi a b c=eo a b c:=by simp only [vi,fo,hC,hS];rfl
  have a14:vj a b c=v7 (bV a b c).toNat 0:=by simp only [vj,fq,hC,hS,pH];rfl
  have a15:vk a b c=ep a b c:=by simp only [vk,ft,hC,hS];rfl
  have hn:=Sn (n:=dG a b c) s1 (by rw [a2];omega)
  have s2:aJ (nxA (dG a b c) (ji a b c) c) (Bk a b c) c=true:=le s1
  have s3:aJ (fb a b c) (gP a b c) c=true:=le s2
  obtain⟨m',hm',hr⟩:=atH hC hB (nxV (dG a b c) (ji a b c) (pE a b c) c).toNat (0,[],eo a b c,v7 (bV a b c).toNat 0,ep a b c) (avS hC hS) (by
   have:=hn.2;rw [a2]at this ⊢;simp only;omega)
  have e16:(((nxV (dG a b c) (ji a b c) (pE a b c) c).toNat:Nat):Int)=nxV (dG a b c) (ji a b c) (pE a b c) c:=by omega
  obtain⟨f1,f2⟩:=ek.run hr (aeN (by simp only [ek];omega))
  rw [e16]at f1 f2
  have g16:vm a b c=(nxV (dG a b c) (ji a b c) (pE a b c) c,de a b c,dq a b c,bV a b c,0,kh a b c,cH a b c,cY a b c,[],eo a b c,v7 (bV a b c).toNat 0,ep a b c):=by
   simp only [vm,a7,a11,a12,a13,a14,a15]
  have ff:Lp.fin ek (vm a b c)=true:=by rw [g16];exact f1
  have a17:zN a b c=(m'.1,kh a b c,cH a b c,cY a b c,m'.2.1,m'.2.2.1,m'.2.2.2.1,m'.2.2.2.2):=by simp only [zN,g16];rw [f2]
  have a25:lZ a b c=m'.2.1:=by simp only [lZ,qZ,a17]
  have a26:vo a b c=m'.2.2.1:=by simp only [vo,vn,qZ,a17]
  have a23:jI a b c=m'.2.2.2.1:=by simp only [jI,zO,vn,qZ,a17]
  have a27:vp a b c=m'.2.2.2.2:=by simp only [vp,zO,vn,qZ,a17]
  obtain⟨k1,k2,k3,k4⟩:=am6 hC hm'
  refine⟨?_,d2,?_,?_,?_,?_,d5⟩
  ·have j1:leN m'.2.1.length 1048576=true:=aG (by omega)
   have j2:leN (m'.2.1.length + [(0:Int)].length) 9223372036854775807=true:=aG (by simp only [w8,List.length_nil];omega)
   have j3:leN ((m'.2.1.length + [(0:Int)].length) * 8) 140737488355328=true:=aG (by simp only [w8,List.length_nil];omega)
   have j4:leI 0 0=true:=rfl
   have j5:(!dJ a b c||dJ a b c)=true:=by cases dJ a b c <;> rfl
   have j6:(!dJ a b c||ltN (j9 0) m'.2.2.2.1.length)=true:=by
    simp only [dJ,a23]
    cases q:ltI 0 (m'.2.2.2.1.length:Int)with
    |false=>rfl
    |true=>exact dE (by have:=Kf.1 q;simp;omega)
   simp only [Bj,h,h6,a0,hA,l9,s1,s2,s3,ff,a25,a23,j1,j2,j3,j4,j5,j6,aid,allT,w9,Bool.true_or,Bool.and_self,cond_true]
  ·simp only [tV,hA,cond_false,a25]
   exact fS (by omega) (fS (by simp only [w7,w8,List.length_nil];omega) (by omega))
  ·simp only [tW,hA,cond_false,a26]
   exact fS (by omega) (fS (by omega) (by omega))
  ·simp only [sq,hA,cond_false,a23]
   exact fS (by omega) (fS (by omega) (fS (fS (by rw [List.length_set];omega) (by omega)) (by omega)))
  ·simp only [sr,hA,cond_false,a27]
   exact fS (by omega) (fS (by omega) (by omega))
def Sk:awE
 | [.one ⟨false,[.ptr 0 0]⟩],[.box 113 [.ref 1,.val (.int .i64 a),.val (.int .i64 b)],.row false 5 (.int .u8) c]=>some ⟨.tup [⟨true,[awF (tQ a b c),awF (tR a b c),awF (tS a b c),.ref 2,.ref 3]⟩,⟨true,[awF (Kb a b c),.ref 4,.ref 5,.ref 6,.ref 7]⟩,⟨false,[.ref 8]⟩],[.box 113 [.ref 1,awF (SP a b c),awF (SQ a b c)],.row false 5 apN c],[.row true 122 ab5 (tT a b c),.row true 83 aeK (tU a b c),.row true 2 aox (tV a b c),.row true 2 aox (tW a b c),.row true 2 aox (sq a b c),.row true 109 abx (sr a b c),.row true 2 aox (su a b c)],[aJ a b c]⟩
 |_,_=>none
def Jm:PF prog:=PF.alt adC Sk (by
 intro args es o h bA;unfold Sk at h;split at h
 ·rename_i a b c
  cases h
  have bA:=fv bA
  have hh:=(NT a b c bA).1
  have en:=hh
  exact kj rfl (eT en) rfl rfl rfl
 ·cases h)
end Go.SX
namespace Go.SX
open Go.Proofs Go.Proofs.Tryz
set_option maxRecDepth 100000
abbrev oU:=Int×List (List Int)×List (List Int)
section
variable (a:Int)(b c:aq6)
def Ji:arG:=v5 b[j9 a]? (ub alK)
def DV:Bool:=ltI a (↑b.length:Int)
def Li:Bool:=leI 0 a
def Uv:Bool:=ltN a.toNat b.length
def Uw:Bool:=ltI a (↑c.length:Int)
def Ux:Bool:=ltN a.toNat c.length
def Uy:Bool:=leN (v4 (Ji a b)) 9223372036854775807
def Uz:Bool:= !eqL (Ji a b) (v5 c[j9 a]? (ub alK))
def UA:Int:=v6 .i64 (a + (1:Int))
end
def ac7:oU→List (Nat×SV)
 |(a,_,_)=> [(5,(.one ⟨false,[awF a]⟩)),(0,(.one ⟨false,[.ref 0]⟩)),(1,(.one ⟨false,[.ref 1]⟩))]
def ac1:oU→List (Nat×Entry)
 |(_,a,b)=> [(0,(.row false 28 alK a)),(1,(.row false 28 alK b))]
def adk:Nat→oU→List (Nat×SV)
 |0,(_,_,_)=> [(4,(.one ⟨false,[.val (.bool false)]⟩))]
 |_,(_,_,_)=> []
def Jk:oU→LT oU
 |(a,b,c)=> .ite (DV a b) (.need [Li a,DV a b,Uv a b,Li a,Uw a c,Ux a c,Uy a b] (.ite (Uz a b c) (.ext 0 [(0,0),(1,1)]) (.nrm ((UA a),b,c) [(0,0),(1,1)]))) (.ext 1 [(0,0),(1,1)])
def Jq(s:St):Option oU:=do
 let some ⟨none,.one ⟨false,[.val (.int .i64 a)]⟩⟩:=s.look 5|none
 let some ⟨none,.one ⟨false,[.ref 0]⟩⟩:=s.look 0|none
 let some ⟨none,.one ⟨false,[.ref 1]⟩⟩:=s.look 1|none
 let some (.row false 28 (.sl 2 (.int .i64)) b):=s.ent 0|none
 let some (.row false 28 (.sl 2 (.int .i64)) c):=s.ent 1|none
 some (a,b,c)
def eK:Lp oU where
 h:=⟨[11,12,13,14,17,18,19,20,21,22,23,24,25,26,4,15,16,5],[0,1],[],[]⟩
 JL:=ac7
 JE:=ac1
 XL:=adk
 XE:=fun _=>ac1
 q:=fun j=>match j with | 0=> .ret | _=> .exit 0
 tags:= [0,1]
 lt:=Jk
 fuel:=fun(a,b,c)=>a.natAbs + b.length + c.length
 fix:=fun(_,b,c) (a,_,_)=>(a,b,c)
 σ:= [(0,0),(1,1)]
 rd:=Jq
theorem aa5:LoopOk prog (fun k=>Nat.blt k Tryz.f24.ntmps) eK.F (bB f24 0):=by
 refine Lp.ok (tbl:= (T3z [jR])) (lf:= []) bj eK (by kernel_rfl) (LOk.nil _) (fun _=>rfl) (fun j _=>by unfold eK;match j with | 0=>rfl | _ + 1=>rfl) ?_ ?_ ?_ ?_ (fun _=>rfl) ?_
 ·rintro⟨a,b,c⟩;kernel_rfl
 ·rintro⟨a,b,c⟩;kernel_rfl
 ·intro s x h
  have h:Jq s=some x:=h
  unfold Jq at h
  repeat' split at h
  all_goals cases h
  constructor<;>repeat(first|refine ab (by assumption) rfl ?_|refine aa rfl (by assumption) rfl ?_|exact rfl)
 ·rintro⟨a,b,c⟩;kernel_rfl
 ·rintro⟨a,b,c⟩ z;exact(And.intro (And.intro trivial rfl) trivial)
section
variable (a b:aq6)
def Hx:Bool:=(↑a.length:Int)!=(↑b.length:Int)
def Hy:Int×aq6×aq6:=((0:Int),a,b)
def oG:Bool:=bif Hx a b then false else bif Nat.beq ((Lp.res eK (Hy a b)).1) 0 then false else true
def DU:Bool:=allT [Hx a b||Lp.fin eK (Hy a b)]
end
def YA:awE
 | [.one ⟨false,[.ref 0]⟩,.one ⟨false,[.ref 1]⟩],[.row false 28 (.sl 2 (.int .i64)) a,.row false 28 (.sl 2 (.int .i64)) b]=>some ⟨.one ⟨false,[.val (.bool (oG a b))]⟩,[.row false 28 (CTy.sl (2:TypeId) aox) a,.row false 28 (CTy.sl (2:TypeId) aox) b],[],[DU a b]⟩
 |_,_=>none
def QM:PF prog:=PF.ofG prog (T3z [jR]) [eK.F] bj 24 f24 func24 (LOk.fnT (l:= [bB f24 0]) (by kernel_rfl) (.cons aa5 (.nil _))) YA (by
 intro _ _ _ h;unfold YA at h;split at h<;>cases h;kernel_rfl)
section
variable (a:arG)
def bY:Int:=de 0 (frS a) a
def bZ:Int:=dq 0 (frS a) a
def cd:Int:=bV 0 (frS a) a
def bu:aov:=cH 0 (frS a) a
def ce:arD:=cY 0 (frS a) a
def cB:arG:=eo 0 (frS a) a
def dk:aqe:=ep 0 (frS a) a
def cW:arG:=kh 0 (frS a) a
def Pc:Bool:=allT [aJ 0 0 a,aJ 0 (frS a) a]
end
def Wi:awE
 | [.one ⟨false,[.ref 0]⟩],[.row false 5 (.int .u8) a]=>some ⟨.tup [⟨true,[awF (bY a),awF (bZ a),awF (cd a),.ref 1,.ref 2]⟩,⟨true,[.ref 3,.ref 4]⟩,⟨false,[.ref 5]⟩],[.row false 5 apN a],[.row true 122 ab5 (bu a),.row true 83 aeK (ce a),.row true 2 aox (cB a),.row true 109 abx (dk a),.row true 2 aox (cW a)],[Pc a]⟩
 |_,_=>none
def aig:PF prog:=PF.ofG prog (T3z [py,pz]) [] bj 29 f29 func29 (fun c _=>LOk.nil c) Wi (by
 intro _ _ _ h;unfold Wi at h;split at h<;>cases h;kernel_rfl)
section
variable (a:arG)
def gL:Int:=de 0 (frS a) a
def gM:Int:=dq 0 (frS a) a
def gN:Int:=bV 0 (frS a) a
def er:aov:=cH 0 (frS a) a
def gO:arD:=cY 0 (frS a) a
def et:arG:=eo 0 (frS a) a
def eu:aqe:=ep 0 (frS a) a
def Gc:Bool:=allT [aJ 0 0 a,aJ 0 (frS a) a]
end
def PT:awE
 | [.one ⟨false,[.ref 0]⟩],[.row false 5 (.int .u8) a]=>some ⟨.tup [⟨true,[awF (gL a),awF (gM a),awF (gN a),.ref 1,.ref 2]⟩,⟨true,[.ref 3,.ref 4]⟩],[.row false 5 apN a],[.row true 122 ab5 (er a),.row true 83 aeK (gO a),.row true 2 aox (et a),.row true 109 abx (eu a)],[Gc a]⟩
 |_,_=>none
def abi:PF prog:=PF.ofG prog (T3z [py,pz]) [] bj 32 f32 func32 (fun c _=>LOk.nil c) PT (by
 intro _ _ _ h;unfold PT at h;split at h<;>cases h;kernel_rfl)
def MF(a:arG)(b:Int):Bool:= !bitsB b a
def MG(a:arG):Bool:=allT [leN a.length (9223372036854775807:Nat)]
def MC:awE
 | [.one ⟨false,[.ref 0]⟩,.one ⟨false,[.ptr 1 0]⟩],[.row false 2 (.int .i64) a,.box 27 [.val (.int .i64 b),.val (.int .i64 c),.val (.int .i64 d),.ref 2,.ref 3],.row false 122 (.pair (.int .i64) (.pair .str (.int .i64))) e,.row false 83 (.pair (.int .i64) (.int .i64)) f]=>some ⟨.one ⟨false,[.val (.bool (MF a b))]⟩,[.row false 2 aox a,.box 27 [awF b,awF c,awF d,.ref 2,.ref 3],.row false 122 ab5 e,.row false 83 aeK f],[],[MG a]⟩
 |_,_=>none
def pc:PF prog:=PF.ofG prog (T3z [gU]) [] bj 119 f119 func119 (fun c _=>LOk.nil c) MC (by
 intro _ _ _ h;unfold MC at h;split at h<;>cases h;kernel_rfl)
abbrev cZ:=Int×Int×Int×Int×Int×List (List Int)×List (Int×(asv×Int))×List (Int×Int)
section
variable (a b c:Int)(d:aq6)
def xx:arG:=v5 d[j9 a]? (ub alK)
def KF:Bool:=ltI a b
def KG:Bool:=leI 0 a
def KH:Bool:=ltI a (↑d.length:Int)
def KI:Bool:=ltN a.toNat d.length
def KJ:Bool:=MG (xx a d)
def KK:Bool:=MF (xx a d) c
def KL:Int:=v6 .i64 (a + (1:Int))
end
def IX:cZ→List (Nat×SV)
 |(a,b,_,_,_,_,_,_)=> [(8,(.one ⟨false,[awF a]⟩)),(7,(.one ⟨false,[awF b]⟩)),(1,(.one ⟨false,[.clo 119 [0]]⟩)),(0,(.one ⟨false,[.ref 1]⟩))]
def IU:cZ→List (Nat×Entry)
 |(_,_,a,b,c,d,e,f)=> [(0,(.box 27 [awF a,awF b,awF c,.ref 2,.ref 3])),(1,(.row true 28 alK d)),(2,(.row false 122 ab5 e)),(3,(.row false 83 aeK f))]
def Jd:Nat→cZ→List (Nat×SV)
 |0,(a,_,_,_,_,_,_,_)=> [(4,(.one ⟨false,[awF a]⟩))]
 |_,(_,_,_,_,_,_,_,_)=> []
def Jl:cZ→LT cZ
 |(a,b,c,d,e,f,g,i)=> .ite (KF a b) (.need [KG a,KH a f,KI a f,KJ a f] (.ite (KK a c f) (.ext 0 [(0,0),(1,1),(2,2),(3,3)]) (.nrm ((KL a),b,c,d,e,f,g,i) [(0,0),(1,1),(2,2),(3,3)]))) (.ext 1 [(0,0),(1,1),(2,2),(3,3)])
def qo(s:St):Option cZ:=do
 let some ⟨none,.one ⟨false,[.val (.int .i64 a)]⟩⟩:=s.look 8|none
 let some ⟨none,.one ⟨false,[.val (.int .i64 b)]⟩⟩:=s.look 7|none
 let some ⟨none,.one ⟨false,[.clo 119 [1]]⟩⟩:=s.look 1|none
 let some ⟨none,.one ⟨false,[.ref 0]⟩⟩:=s.look 0|none
 let some (.box 27 [.val (.int .i64 c),.val (.int .i64 d),.val (.int .i64 e),.ref 2,.ref 3]):=s.ent 1|none
 let some (.row true 28 (.sl 2 (.int .i64)) f):=s.ent 0|none
 let some (.row false 122 (.pair (.int .i64) (.pair .str (.int .i64))) g):=s.ent 2|none
 let some (.row false 83 (.pair (.int .i64) (.int .i64)) i):=s.ent 3|none
 some (a,b,c,d,e,f,g,i)
def bJ:Lp cZ where
 h:=⟨[9,10,5,11,12,13,14,15,16,17,4,18,8],[0,1,2,3],[],[]⟩
 JL:=IX
 JE:=IU
 XL:=Jd
 XE:=fun _=>IU
 q:=fun j=>match j with | 0=> .ret | _=> .exit 0
 tags:= [0,1]
 lt:=Jl
 fuel:=fun(a,b,c,d,e,f,g,i)=>a.natAbs + b.natAbs + c.natAbs + d.natAbs + e.natAbs + f.length + g.length + i.length
 fix:=fun(_,b,c,d,e,f,g,i) (a,_,_,_,_,_,_,_)=>(a,b,c,d,e,f,g,i)
 σ:= [(0,1),(1,0),(2,2),(3,3)]
 rd:=qo
theorem HB:LoopOk prog (fun k=>Nat.blt k Tryz.f128.ntmps) bJ.F (bB f128 0):=by
 refine Lp.ok (tbl:= (T3z [pc])) (lf:= []) bj bJ (by kernel_rfl) (LOk.nil _) (fun _=>rfl) (fun j _=>by unfold bJ;match j with | 0=>rfl | _ + 1=>rfl) ?_ ?_ ?_ ?_ (fun _=>rfl) ?_
 ·rintro⟨a,b,c,d,e,f,g,i⟩;kernel_rfl
 ·rintro⟨a,b,c,d,e,f,g,i⟩;kernel_rfl
 ·intro s x h
  have h:qo s=some x:=h
  unfold qo at h
  repeat' split at h
  all_goals cases h
  constructor<;>repeat(first|refine ab (by assumption) rfl ?_|refine aa rfl (by assumption) rfl ?_|exact rfl)
 ·rintro⟨a,b,c,d,e,f,g,i⟩;kernel_rfl
 ·rintro⟨a,b,c,d,e,f,g,i⟩ z;exact(And.intro (And.intro trivial rfl) trivial)
section
variable (a:aq6)(b c d:Int)(e:aow)(f:arD)
def jF:Int×Int×Int×Int×Int×aq6×aow×arD:=((0:Int),(↑a.length:Int),b,c,d,a,e,f)
def fN:Bool:=Nat.beq ((Lp.res bJ (jF a b c d e f)).1) 0
def oq:Int:=bif fN a b c d e f then ((Lp.res bJ (jF a b c d e f)).2).1else(-1:Int)
def Av:aq6:=bif fN a b c d e f then a else a
def Aw:Int:=bif fN a b c d e f then b else b
def Ax:Int:=bif fN a b c d e f then c else c
def Ay:Int:=bif fN a b c d e f then d else d
def ot:Bool:=allT [Lp.fin bJ (jF a b c d e f)]
end
def Ac:awE
 | [.one ⟨false,[.ref 0]⟩,.one ⟨false,[.clo 119 [1]]⟩],[.row true 28 (.sl 2 (.int .i64)) a,.box 27 [.val (.int .i64 b),.val (.int .i64 c),.val (.int .i64 d),.ref 2,.ref 3],.row false 122 (.pair (.int .i64) (.pair .str (.int .i64))) e,.row false 83 (.pair (.int .i64) (.int .i64)) f]=>some ⟨.one ⟨false,[awF (oq a b c d e f)]⟩,[.row true 28 alK (Av a b c d e f),.box 27 [awF (Aw a b c d e f),awF (Ax a b c d e f),awF (Ay a b c d e f),.ref 2,.ref 3],.row false 122 ab5 e,.row false 83 aeK f],[],[ot a b c d e f]⟩
 |_,_=>none
def sM:PF prog:=PF.ofG prog (T3z [pc]) [bJ.F] bj 128 f128 func128 (LOk.fnT (l:= [bB f128 0]) (by kernel_rfl) (.cons HB (.nil _))) Ac (by
 intro _ _ _ h;unfold Ac at h;split at h<;>cases h;kernel_rfl)
section
variable (a:aq6)(b c d:Int)(e:aow)(f:arD)
def qQ:Bool:=leI 0 (oq a b c d e f)
def KB:aq6:=Av a b c d e f
def KC:Int:=Aw a b c d e f
def KD:Int:=Ax a b c d e f
def KE:Int:=Ay a b c d e f
def qR:Bool:=allT [ot a b c d e f]
end
def yD:awE
 | [.one ⟨false,[.ref 0]⟩,.one ⟨false,[.clo 119 [1]]⟩],[.row true 28 (.sl 2 (.int .i64)) a,.box 27 [.val (.int .i64 b),.val (.int .i64 c),.val (.int .i64 d),.ref 2,.ref 3],.row false 122 (.pair (.int .i64) (.pair .str (.int .i64))) e,.row false 83 (.pair (.int .i64) (.int .i64)) f]=>some ⟨.one ⟨false,[.val (.bool (qQ a b c d e f))]⟩,[.row true 28 alK (KB a b c d e f),.box 27 [awF (KC a b c d e f),awF (KD a b c d e f),awF (KE a b c d e f),.ref 2,.ref 3],.row false 122 ab5 e,.row false 83 aeK f],[],[qR a b c d e f]⟩
 |_,_=>none
def qL:PF prog:=PF.ofG prog (T3z [sM]) [] bj 85 f85 func85 (fun c _=>LOk.nil c) yD (by
 intro _ _ _ h;unfold yD at h;split at h<;>cases h;kernel_rfl)
section
variable (a b c:Int)(d:aow)(e:arD)(f:arG)(g:aq5)
def yI:aq6:=bif !!lB b d f g&&true then []else []
def uA:Int:=bif !cA a b c d e then(1:Int)else bif bif !lB b d f g then true else qQ (yI b d f g) a b c d e then(2:Int)else(0:Int)
def zF:Bool:=allT [!cA a b c d e||leN f.length (9223372036854775807:Nat)&&(leN d.length (9223372036854775807:Nat)&&Sl d),!cA a b c d e||(!(!!lB b d f g&&true)||qR (yI b d f g) a b c d e)]
end
def PS:awE
 | [.one ⟨true,[.val (.int .i64 a),.val (.int .i64 b),.val (.int .i64 c),.ref 0,.ref 1]⟩,.one ⟨true,[.ref 2,.ref 3]⟩,.one ⟨false,[.val (.slice none 0 0)]⟩],[.row false 122 (.pair (.int .i64) (.pair .str (.int .i64))) d,.row false 83 (.pair (.int .i64) (.int .i64)) e,.row false 2 (.int .i64) f,.row false 109 (.pair (.int .i64) (.pair (.int .i64) (.int .i64))) g]=>some ⟨.one ⟨false,[awF (uA a b c d e f g)]⟩,[.row false 122 ab5 d,.row false 83 aeK e,.row false 2 aox f,.row false 109 abx g],[],[zF a b c d e f g]⟩
 |_,_=>none
def FW:PF prog:=PF.ofG prog (T3z [nE,cm,qL]) [] bj 67 f67 func67 (fun c _=>LOk.nil c) PS (by
 intro _ _ _ h;unfold PS at h;split at h<;>cases h;kernel_rfl)
section
variable (a b c:Int)(d:aow)(e:arD)(f:arG)(g:aq5)
def oX:Bool:=uA a b c d e f g !=0
def ML:Int:=bif oX a b c d e f g then(0:Int)else(0:Int)
def MM:Int:=bif oX a b c d e f g then uA a b c d e f g else(0:Int)
def MN:arG:=bif oX a b c d e f g then []else DM
def MO:arG:=bif oX a b c d e f g then []else f
def MP:arG:=bif oX a b c d e f g then []else DN c
def MQ:aqe:=bif oX a b c d e f g then []else g
def MR:Bool:=allT [zF a b c d e f g,oX a b c d e f g||QF c f g]
end
def Vs:awE
 | [.one ⟨true,[.val (.int .i64 a),.val (.int .i64 b),.val (.int .i64 c),.ref 0,.ref 1]⟩,.one ⟨true,[.ref 2,.ref 3]⟩],[.row false 122 (.pair (.int .i64) (.pair (.str) (.int .i64))) d,.row false 83 (.pair (.int .i64) (.int .i64)) e,.row false 2 (.int .i64) f,.row false 109 (.pair (.int .i64) (.pair (.int .i64) (.int .i64))) g]=>some ⟨.tup [⟨true,[awF (ML a b c d e f g),.ref 4,.ref 5,.ref 6,.ref 7]⟩,⟨false,[awF (MM a b c d e f g)]⟩],[.row false 122 ab5 d,.row false 83 aeK e,.row false 2 aox f,.row false 109 abx g],[.row true 2 aox (MN a b c d e f g),.row true 2 aox (MO a b c d e f g),.row true 2 aox (MP a b c d e f g),.row true 109 abx (MQ a b c d e f g)],[MR a b c d e f g]⟩
 |_,_=>none
def agE:PF prog:=PF.ofG prog (T3z [qC,LW,FW]) [] bj 33 f33 func33 (fun c _=>LOk.nil c) Vs (by
 intro _ _ _ h;unfold Vs at h;split at h<;>cases h;kernel_rfl)
section
variable (a:arG)
def eW:Int:=tQ 0 (frS a) a
def eX:Int:=tR 0 (frS a) a
def eY:Int:=tS 0 (frS a) a
def gh:Int:=Kb 0 (frS a) a
def ed:aov:=tT 0 (frS a) a
def eZ:arD:=tU 0 (frS a) a
def ee:arG:=tV 0 (frS a) a
def ef:arG:=tW 0 (frS a) a
def eg:arG:=sq 0 (frS a) a
def ei:aqe:=sr 0 (frS a) a
def dI:arG:=su 0 (frS a) a
def Gd:Bool:=allT [aJ 0 0 a,aJ 0 (frS a) a]
end
def Qu:awE
 | [.one ⟨false,[.ref 0]⟩],[.row false 5 (.int .u8) a]=>some ⟨.tup [⟨true,[awF (eW a),awF (eX a),awF (eY a),.ref 1,.ref 2]⟩,⟨true,[awF (gh a),.ref 3,.ref 4,.ref 5,.ref 6]⟩,⟨false,[.ref 7]⟩],[.row false 5 apN a],[.row true 122 ab5 (ed a),.row true 83 aeK (eZ a),.row true 2 aox (ee a),.row true 2 aox (ef a),.row true 2 aox (eg a),.row true 109 abx (ei a),.row true 2 aox (dI a)],[Gd a]⟩
 |_,_=>none
def acj:PF prog:=PF.ofG prog (T3z [Jm,py]) [] bj 35 f35 func35 (fun c _=>LOk.nil c) Qu (by
 intro _ _ _ h;unfold Qu at h;split at h<;>cases h;kernel_rfl)
section
variable (a:arG)
def fy:Bool:=nxV 8 0 (frS a) a==0
def dM:Int:=nxS 8 0 (frS a) a
def mW:asv:=ae (nxA 8 0 a) (dM a) a
def oY:List asv:=bF (nxA 8 0 a) (dM a) a
def uL:List asv:=bN (nxA 8 0 a) (dM a) a
def uM:List asv:=bO (nxA 8 0 a) (dM a) a
def uN:ajC:=bp (nxA 8 0 a) (dM a) a
def yY:asv:=jg (nxA 8 0 a) (dM a) a
def Ec:Int:=na (nxA 8 0 a) (dM a) a
def Ed:Int:=oC (nxA 8 0 a) (dM a) a
def Jw:Bool:=aJ (nxA 8 0 a) (dM a) a
def pR:Int:=bif fy a then GL (nxA 8 0 a) (dM a) a else cJ (mW a) (oY a)
def pS:Int:=bif fy a then CI (nxA 8 0 a) (dM a) a else cK (mW a) (uL a)
def pT:Int:=bif fy a then CJ (nxA 8 0 a) (dM a) a else cL (mW a) (uM a)
def me:aov:=bif fy a then CL (nxA 8 0 a) (dM a) a else cM (mW a) (uN a)
def pU:arD:=bif fy a then GM (nxA 8 0 a) (dM a) a else lq (yY a) (mW a) (oY a) (uL a) (uM a) (uN a)
def iC:aq6:=bif fy a then [[(0:Int)],[(1:Int)]]else aY (yY a) (mW a) (Ec a) (Ed a) (oY a) (uL a) (uM a) (uN a) a
def Nv:Bool:=allT [aJ 0 0 a,aJ 0 (frS a) a,!fy a||Jw a,fy a||Jw a,fy a||prD (yY a) (oY a) (uL a) (uM a) (mW a) (uN a),fy a||aJ (Ec a) (Ed a) a&&leN (v4 (oY a)) 50]
end
def Vu:awE
 | [.one ⟨false,[.ref 0]⟩],[.row false 5 (.int .u8) a]=>some ⟨.tup [⟨true,[awF (pR a),awF (pS a),awF (pT a),.ref 1,.ref 2]⟩,⟨false,[.ref 3]⟩],[.row false 5 apN a],[.row true 122 ab5 (me a),.row true 83 aeK (pU a),.row true 28 alK (iC a)],[Nv a]⟩
 |_,_=>none
def agF:PF prog:=PF.ofG prog (T3z [py,po,am,FU,gV,dV]) [] bj 37 f37 func37 (fun c _=>LOk.nil c) Vu (by
 intro _ _ _ h;unfold Vu at h;split at h<;>cases h;kernel_rfl)
 attribute [local irreducible] nxA nxS nxV pkA pkS pkV
theorem atX(x:aq6)(hx:x.length≤1048576)(hA: ∀ a∈x,a.length≤9223372036854775807): ∀ (n i:Nat),i + n=x.length→
  LX eK.lt (n + 1) ((i:Int),x,x)=some (1,((x.length:Int),x,x))
 |0,i,h=>by
  have e:i=x.length:=by omega
  rw [e]
  refine Gb _ ?_
  have q:ltI (x.length:Int) (x.length:Int)=false:=yV (by omega)
  simp only [eK,Jk,LT.out,DV,q,cond_false]
 |n + 1,i,h=>by
  have eG:i < x.length:=by omega
  have q0:ltI (i:Int) (x.length:Int)=true:=cI (by omega)
  have q1:leI 0 (i:Int)=true:=aS (by omega)
  have q2:ltN i x.length=true:=dE eG
  have g:v5 x[i]? (ub (CTy.sl (2:Nat) aox))=x[i]:=by rw [List.getElem?_eq_getElem eG];rfl
  have q3:leN (x[i]).length 9223372036854775807=true:=aG (hA _ (List.getElem_mem eG))
  have q4:v6 .i64 ((i:Int) + 1)=((i + 1:Nat):Int):=by rw [aR (by omega) (by omega)];omega
  rw [Tk (y:=(((i + 1:Nat):Int),x,x)) _ (by
   simp only [eK,Jk,LT.out,DV,Li,Uv,Uw,Ux,Uy,Uz,UA,Ji,Int.toNat_natCast,q0,q1,q2,g,q3,q4,aaW,allT,cond_true,Bool.not_true,cond_false])]
  exact atX x hx hA n (i + 1) (by omega)
theorem atc(x:aq6)(hx:x.length≤1048576)(hA: ∀ a∈x,a.length≤9223372036854775807):oG x x=true∧DU x x=true:=by
 obtain⟨p1,p2⟩:=eK.run (atX x hx hA x.length 0 (by omega)) (aeN (by simp only [eK];omega))
 have e0:Hx x x=false:=by simp [Hx]
 have p1:eK.fin (Hy x x)=true:=p1
 have p2:eK.res (Hy x x)=_:=p2
 simp only [oG,DU,e0,p1,p2,allT,cond_false,cond_true,w9]
 exact⟨rfl,trivial⟩
theorem avD(a b c:Int)(d:aov)(e:arD):oq [] a b c d e= -1∧ot [] a b c d e=true:=by
 have h:LX bJ.lt (0 + 1) (jF [] a b c d e)=some (1,jF [] a b c d e):=Gb _ rfl
 obtain⟨p1,p2⟩:=bJ.run h (aeN (by simp only [bJ];omega))
 simp only [oq,ot,fN,p1,p2,allT]
 exact⟨rfl,rfl⟩
def smN(bs:List TM)(xs:arG)(ss:List BS3):Bool:=afu bs&&(leN xs.length 1048576&&leN ss.length 1048576)
theorem avC(i v o:Int)(bs:List TM)(st:List IN)(xs:arG)(ss:List BS3)(h:smN bs xs ss=true):
  uA i v o bs st xs ss=fl i v o bs st xs ss∧zF i v o bs st xs ss=true:=by
 simp only [smN,q9]at h
 obtain⟨hT,hx,hs⟩:=h
 have hx:=fc.1 hx
 have t1:leN xs.length 9223372036854775807=true:=aG (by omega)
 have t2:leN bs.length 9223372036854775807=true:=aG (UR.1 hT).1
 have e:yI v bs xs ss= []:=by simp only [yI,j7]
 obtain⟨z0,z1⟩:=avD i v o bs st
 have q:leI 0 (-1)=false:=rfl
 simp only [uA,zF,fl,qQ,qR,e,z0,z1,q,t1,t2,allT]
 cases hc:cA i v o bs st with
 |false=>exact⟨rfl,rfl⟩
 |true=>
  rw [(NE hc).2.1]
  cases lB v bs xs ss <;> exact⟨rfl,rfl⟩
theorem awd{o:Int}(h:0≤o∧o≤20):leI 0 o=true∧leI o o=true∧leI ((↑(8:Nat):Int) * o) 281474976710656=true∧leI o 9223372036854775807=true:=
 ⟨aS (by omega),aS (by omega),aS (by omega),aS (by omega)⟩
theorem avy(i v o:Int)(bs:List TM)(st:List IN)(xs:arG)(ss:List BS3)(h:smN bs xs ss=true):
  ML i v o bs st xs ss=kg i v o bs st xs ss∧MM i v o bs st xs ss=fl i v o bs st xs ss∧MN i v o bs st xs ss=fm i v o bs st xs ss∧
  MO i v o bs st xs ss=fo i v o bs st xs ss∧MP i v o bs st xs ss=fq i v o bs st xs ss∧MQ i v o bs st xs ss=ft i v o bs st xs ss∧MR i v o bs st xs ss=true:=by
 obtain⟨m0,m1⟩:=avC i v o bs st xs ss h
 simp only [smN,q9]at h
 obtain⟨hT,hx,hs⟩:=h
 simp only [ML,MM,MN,MO,MP,MQ,MR,oX,m0,m1,kg,fl,fm,fo,fq,ft,DM,DN,QF,mm,hx,hs,allT]
 cases hc:cA i v o bs st with
 |false=>exact⟨rfl,rfl,rfl,rfl,rfl,rfl,rfl⟩
 |true=>
  obtain⟨q1,q2,q3,q4⟩:=awd (NE hc).1.2.2.1
  rw [q1,q2,q3,q4]
  cases lB v bs xs ss <;> exact⟨rfl,rfl,rfl,rfl,rfl,rfl,rfl⟩
theorem avP(i v o:Int)(bs:List TM)(st:List IN)(xs:arG)(ss:List BS3)(h:smN bs xs ss=true):wx i v o bs st xs ss=true:=by
 simp only [smN,q9]at h
 obtain⟨hT,hx,hs⟩:=h
 have hx':=fc.1 hx
 have hs':=fc.1 hs
 have t1:leN xs.length 9223372036854775807=true:=aG (by omega)
 have t2:leN bs.length 9223372036854775807=true:=aG (UR.1 hT).1
 have t3:leN (0 + ss.length) 9223372036854775807=true:=aG (by omega)
 have t4:leN ((0 + ss.length) * 24) 140737488355328=true:=aG (by omega)
 simp only [wx,zY,hT,hx,t1,t2,t3,t4,allT]
 cases hc:cA i v o bs st with
 |false=>rfl
 |true=>
  obtain⟨q1,q2,q3,q4⟩:=awd (NE hc).1.2.2.1
  rw [q1,q2,q3,q4]
  cases lB v bs xs ss <;> rfl
def Vz:awE
 | [.one ⟨true,[.val (.int .i64 a),.val (.int .i64 b),.val (.int .i64 c),.ref 0,.ref 1]⟩,.one ⟨true,[.ref 2,.ref 3]⟩],[.row false 122 (.pair (.int .i64) (.pair (.str) (.int .i64))) d,.row false 83 (.pair (.int .i64) (.int .i64)) e,.row false 2 (.int .i64) f,.row false 109 (.pair (.int .i64) (.pair (.int .i64) (.int .i64))) g]=>some ⟨.tup [⟨true,[awF (kg a b c d e f g),.ref 4,.ref 5,.ref 6,.ref 7]⟩,⟨false,[awF (fl a b c d e f g)]⟩],[.row false 122 ab5 d,.row false 83 aeK e,.row false 2 aox f,.row false 109 abx g],[.row true 2 aox (fm a b c d e f g),.row true 2 aox (fo a b c d e f g),.row true 2 aox (fq a b c d e f g),.row true 109 abx (ft a b c d e f g)],[smN d f g]⟩
 |_,_=>none
def MV:PF prog:=PF.alt agE Vz (by
 intro args es o h bA;unfold Vz at h;split at h
 ·rename_i a b c d e f g
  cases h
  have bA:=fv bA
  have hh:=avy a b c d e f g bA
  obtain⟨e0,e1,e2,e3,e4,e5,en⟩:=hh
  exact kj rfl (eT en) (by simp only [e0,e1] <;> rfl) rfl (by simp only [e2,e3,e4,e5] <;> rfl)
 ·cases h)
def VC:awE
 | [.one ⟨true,[.val (.int .i64 a),.val (.int .i64 b),.val (.int .i64 c),.ref 0,.ref 1]⟩,.one ⟨true,[.ref 2,.ref 3]⟩],[.row false 122 (.pair (.int .i64) (.pair (.str) (.int .i64))) d,.row false 83 (.pair (.int .i64) (.int .i64)) e,.row false 2 (.int .i64) f,.row false 109 (.pair (.int .i64) (.pair (.int .i64) (.int .i64))) g]=>some ⟨.tup [⟨true,[awF (kg a b c d e f g),.ref 4,.ref 5,.ref 6,.ref 7]⟩,⟨false,[awF (fl a b c d e f g)]⟩],[.row false 122 ab5 d,.row false 83 aeK e,.row false 2 aox f,.row false 109 abx g],[.row true 2 aox (fm a b c d e f g),.row true 2 aox (fo a b c d e f g),.row true 2 aox (fq a b c d e f g),.row true 109 abx (ft a b c d e f g)],[smN d f g]⟩
 |_,_=>none
def MX:PF prog:=PF.alt sN VC (by
 intro args es o h bA;unfold VC at h;split at h
 ·rename_i a b c d e f g
  cases h
  have bA:=fv bA
  have hh:=avP a b c d e f g bA
  have en:=hh
  exact kj rfl (eT en) rfl rfl rfl
 ·cases h)
theorem avk(c:arG)(h:aJ 0 0 c=true):Pc c=true:=by
 have h1:=(afE c h).2
 simp only [Pc,h,h1,allT,cond_true]
theorem avm(c:arG)(h:aJ 0 0 c=true):Gc c=true:=by
 have h1:=(afE c h).2
 simp only [Gc,h,h1,allT,cond_true]
theorem avl(c:arG)(h:aJ 0 0 c=true):Gd c=true:=by
 have h1:=(afE c h).2
 simp only [Gd,h,h1,allT,cond_true]
theorem aol(c:arG)(h:aJ 0 0 c=true):Nv c=true∧cdD (pR c) (pS c) (pT c) (me c) (pU c)=true∧(iC c).length≤432∧ZR 60 (iC c)=true:=by
 have h1:=(afE c h).2
 have s1:Jw c=true:=le h1
 have s1':aJ (nxA (8:Int) (0:Int) c) (dM c) c=true:=s1
 obtain⟨_,_,hc2⟩:=RE _ _ c s1'
 obtain⟨_,s2,⟨hp,_⟩,_⟩:=Kn _ _ c s1'
 obtain⟨_,hcd,_⟩:=Es _ _ _ _ _ _ hp
 have i0:=(sF.1 (afM.1 hp).2.1).1
 obtain⟨_,_,l1,l2⟩:=JH (yY c) (mW c) (Ec c) (Ed c) (oY c) (uL c) (uM c) (uN c) c s2 i0
 have hp:prD (yY c) (oY c) (uL c) (uM c) (mW c) (uN c)=true:=hp
 have s2:aJ (Ec c) (Ed c) c=true:=s2
 have i0:leN (oY c).length 50=true:=aG i0
 refine⟨?_,?_,?_,?_⟩
 ·simp only [Nv,h,h1,s1,hp,s2,i0,allT,w9,Bool.and_self,cond_true]
 ·simp only [pR,pS,pT,me,pU]
  cases fy c
  ·exact hcd
  ·exact hc2
 ·simp only [iC]
  cases fy c
  ·exact l1
  ·show (2:Nat)≤432;decide
 ·simp only [iC]
  cases fy c
  ·exact l2
  ·rfl
def Wu:awE
 | [.one ⟨false,[.ref 0]⟩],[.row false 5 (.int .u8) a]=>some ⟨.tup [⟨true,[awF (bY a),awF (bZ a),awF (cd a),.ref 1,.ref 2]⟩,⟨true,[.ref 3,.ref 4]⟩,⟨false,[.ref 5]⟩],[.row false 5 apN a],[.row true 122 ab5 (bu a),.row true 83 aeK (ce a),.row true 2 aox (cB a),.row true 109 abx (dk a),.row true 2 aox (cW a)],[aJ 0 0 a]⟩
 |_,_=>none
def OO:PF prog:=PF.alt aig Wu (by
 intro args es o h bA;unfold Wu at h;split at h
 ·rename_i a
  cases h
  have bA:=fv bA
  have hh:=avk a bA
  have en:=hh
  exact kj rfl (eT en) rfl rfl rfl
 ·cases h)
def PU:awE
 | [.one ⟨false,[.ref 0]⟩],[.row false 5 (.int .u8) a]=>some ⟨.tup [⟨true,[awF (gL a),awF (gM a),awF (gN a),.ref 1,.ref 2]⟩,⟨true,[.ref 3,.ref 4]⟩],[.row false 5 apN a],[.row true 122 ab5 (er a),.row true 83 aeK (gO a),.row true 2 aox (et a),.row true 109 abx (eu a)],[aJ 0 0 a]⟩
 |_,_=>none
def FT:PF prog:=PF.alt abi PU (by
 intro args es o h bA;unfold PU at h;split at h
 ·rename_i a
  cases h
  have bA:=fv bA
  have hh:=avm a bA
  have en:=hh
  exact kj rfl (eT en) rfl rfl rfl
 ·cases h)
def Qx:awE
 | [.one ⟨false,[.ref 0]⟩],[.row false 5 (.int .u8) a]=>some ⟨.tup [⟨true,[awF (eW a),awF (eX a),awF (eY a),.ref 1,.ref 2]⟩,⟨true,[awF (gh a),.ref 3,.ref 4,.ref 5,.ref 6]⟩,⟨false,[.ref 7]⟩],[.row false 5 apN a],[.row true 122 ab5 (ed a),.row true 83 aeK (eZ a),.row true 2 aox (ee a),.row true 2 aox (ef a),.row true 2 aox (eg a),.row true 109 abx (ei a),.row true 2 aox (dI a)],[aJ 0 0 a]⟩
 |_,_=>none
def HI:PF prog:=PF.alt acj Qx (by
 intro args es o h bA;unfold Qx at h;split at h
 ·rename_i a
  cases h
  have bA:=fv bA
  have hh:=avl a bA
  have en:=hh
  exact kj rfl (eT en) rfl rfl rfl
 ·cases h)
def VA:awE
 | [.one ⟨false,[.ref 0]⟩],[.row false 5 (.int .u8) a]=>some ⟨.tup [⟨true,[awF (pR a),awF (pS a),awF (pT a),.ref 1,.ref 2]⟩,⟨false,[.ref 3]⟩],[.row false 5 apN a],[.row true 122 ab5 (me a),.row true 83 aeK (pU a),.row true 28 alK (iC a)],[aJ 0 0 a]⟩
 |_,_=>none
def MW:PF prog:=PF.alt agF VA (by
 intro args es o h bA;unfold VA at h;split at h
 ·rename_i a
  cases h
  have bA:=fv bA
  have hh:=(aol a bA).1
  have en:=hh
  exact kj rfl (eT en) rfl rfl rfl
 ·cases h)
end Go.SX
namespace Go.SX
open Go.Proofs Go.Proofs.Tryz
set_option maxRecDepth 100000
section
variable (a:arG)
def dU:Int:=QS (bY a) (bZ a) (cd a) (bu a) (ce a) (cB a) (dk a) (cW a)
def qc:arG:=rcO (bY a) (bZ a) (cd a) (bu a) (ce a) (cB a) (dk a) (cW a)
def tz:Bool:=bif dU a !=dU a then true else !eqL (qc a) (qc a)
def qd:arG:=rcV (bY a) (bZ a) (cd a) (bu a) (ce a) (cB a) (dk a) (cW a)
def CV:Int:=fl (gL a) (gM a) (gN a) (er a) (gO a) (et a) (eu a)
def CW:Bool:=bif bif tz a then true else !lkM (qd a) (rcS (bY a) (bZ a) (cd a) (bu a) (ce a) (cB a) (dk a) (cW a)) (qd a) (rcS (bY a) (bZ a) (cd a) (bu a) (ce a) (cB a) (dk a) (cW a))then true else CV a !=CV a
def CX:Int:=kg (gL a) (gM a) (gN a) (er a) (gO a) (et a) (eu a)
def xc:arG:=fm (gL a) (gM a) (gN a) (er a) (gO a) (et a) (eu a)
def xf:arG:=fo (gL a) (gM a) (gN a) (er a) (gO a) (et a) (eu a)
def xg:arG:=fq (gL a) (gM a) (gN a) (er a) (gO a) (et a) (eu a)
def vG:aq5:=ft (gL a) (gM a) (gN a) (er a) (gO a) (et a) (eu a)
def AM:Int:=Fb (eW a) (eX a) (eY a) (ed a) (eZ a) (gh a) (ee a) (ef a) (eg a) (ei a) (dI a)
def AO:Bool:=bif bif CW a then true else !arP (CX a) (xc a) (xf a) (xg a) (vG a) (CX a) (xc a) (xf a) (xg a) (vG a)then true else AM a !=AM a
def AP:Int:=(ssM (eW a) (eX a) (eY a) (ed a) (eZ a) (gh a) (ee a) (ef a) (eg a) (ei a) (dI a)).1
def vH:arG:=((ssM (eW a) (eX a) (eY a) (ed a) (eZ a) (gh a) (ee a) (ef a) (eg a) (ei a) (dI a)).2).1
def vI:arG:=((ssM (eW a) (eX a) (eY a) (ed a) (eZ a) (gh a) (ee a) (ef a) (eg a) (ei a) (dI a)).2.2).1
def vJ:arG:=((ssM (eW a) (eX a) (eY a) (ed a) (eZ a) (gh a) (ee a) (ef a) (eg a) (ei a) (dI a)).2.2.2).1
def AQ:Int:=Xf (pR a) (pS a) (pT a) (me a) (pU a) (iC a)
def kk:Bool:=bif bif AO a then true else !arP (AP a) (vH a) (vI a) (vJ a) ((ssM (eW a) (eX a) (eY a) (ed a) (eZ a) (gh a) (ee a) (ef a) (eg a) (ei a) (dI a)).2.2.2.2) (AP a) (vH a) (vI a) (vJ a) ((ssM (eW a) (eX a) (eY a) (ed a) (eZ a) (gh a) (ee a) (ef a) (eg a) (ei a) (dI a)).2.2.2.2)then true else AQ a !=AQ a
def cS:aq6:=rsO (pR a) (pS a) (pT a) (me a) (pU a) (iC a)
def pf:Int:=kg (bY a) (bZ a) (cd a) (bu a) (ce a) (cB a) (dk a)
def mP:arG:=fm (bY a) (bZ a) (cd a) (bu a) (ce a) (cB a) (dk a)
def mQ:arG:=fo (bY a) (bZ a) (cd a) (bu a) (ce a) (cB a) (dk a)
def mR:arG:=fq (bY a) (bZ a) (cd a) (bu a) (ce a) (cB a) (dk a)
def mS:aq5:=ft (bY a) (bZ a) (cd a) (bu a) (ce a) (cB a) (dk a)
def AR:Bool:=bif fl (bY a) (bZ a) (cd a) (bu a) (ce a) (cB a) (dk a)==0 then EK (bY a) (bZ a) (cd a) (bu a) (ce a) (pf a) (mP a) (mQ a) (mR a) (mS a) [cW a]==0 else false
def AU:arG:=((sfM (bY a) (bZ a) (cd a) (bu a) (ce a) (pf a) (mP a) (mQ a) (mR a) (mS a) (cW a)).2.2.2).1
def AV:Bool:=bif AR a then eqL (AU a) (bif !dU a !=dU a&&true then qc a else qc a)else false
def AW:arG:=((sfM (bY a) (bZ a) (cd a) (bu a) (ce a) (pf a) (mP a) (mQ a) (mR a) (mS a) (cW a)).2.2).1
def AX:Bool:=bif AV a then eqL (AW a) (bif !tz a&&true then qd a else qd a)else false
def pg:Bool:=lu a||aJ 0 0 a
def AY:Bool:=agD (ed a) (ee a) (ef a) (eg a) [dI a]
def yT:Bool:=bif lu a then true else bif bif kk a then true else !oG (cS a) (cS a)then false else bif dU a !=0 then true else bif AX a then arx ((sfM (bY a) (bZ a) (cd a) (bu a) (ce a) (pf a) (mP a) (mQ a) (mR a) (mS a) (cW a)).2.2.2.2) (bif !tz a&&true then rcS (bY a) (bZ a) (cd a) (bu a) (ce a) (cB a) (dk a) (cW a)else rcS (bY a) (bZ a) (cd a) (bu a) (ce a) (cB a) (dk a) (cW a))else false
def yU:Bool:=allT [pg a,lu a||an8 (bu a) (cB a) (cW a),lu a||an8 (bu a) (cB a) (cW a),pg a,lu a||smN (er a) (et a) (eu a),lu a||smN (er a) (et a) (eu a),pg a,lu a||AY a&&leN (v4 (ei a)) 1048576,lu a||AY a,pg a,lu a||an9 (me a) (iC a),lu a||an9 (me a) (iC a),lu a||(!(!dU a !=dU a&&true)||leN (v4 (qc a)) 9223372036854775807),lu a||(!(!tz a&&true)||leN (v4 (qd a)) 9223372036854775807&&leN (v4 (rcS (bY a) (bZ a) (cd a) (bu a) (ce a) (cB a) (dk a) (cW a))) 9223372036854775807),lu a||(!(!CW a&&true)||lkN (xc a) (xf a) (xg a) (vG a)),lu a||(!(!AO a&&true)||lkN (vH a) (vI a) (vJ a) ((ssM (eW a) (eX a) (eY a) (ed a) (eZ a) (gh a) (ee a) (ef a) (eg a) (ei a) (dI a)).2.2.2.2)),lu a||(!(!kk a&&true)||DU (cS a) (cS a)),lu a||((bif kk a then true else !oG (cS a) (cS a))||(dU a !=0||smN (bu a) (cB a) (dk a))),lu a||((bif kk a then true else !oG (cS a) (cS a))||(dU a !=0||agD (bu a) (mP a) (mQ a) (mR a) [cW a]&&leN (v4 (mS a)) 1048576)),lu a||((bif kk a then true else !oG (cS a) (cS a))||(dU a !=0||(!(AR a&&true)||leN (v4 (AU a)) 9223372036854775807))),lu a||((bif kk a then true else !oG (cS a) (cS a))||(dU a !=0||(!(AV a&&true)||leN (v4 (AW a)) 9223372036854775807))),lu a||((bif kk a then true else !oG (cS a) (cS a))||(dU a !=0||(!(AX a&&true)||leN (v4 ((sfM (bY a) (bZ a) (cd a) (bu a) (ce a) (pf a) (mP a) (mQ a) (mR a) (mS a) (cW a)).2.2.2.2)) 9223372036854775807)))]
end
def Ua:awE
 | [.one ⟨false,[.ref 0]⟩],[.row false 5 (.int .u8) a]=>some ⟨.one ⟨false,[.val (.bool (yT a))]⟩,[.row false 5 apN a],[],[yU a]⟩
 |_,_=>none
def afb:PF prog:=PF.ofG prog (T3z [Lr,OM,QM,uJ,Vc,OO,WT,WU,FT,MV,MX,HI,OQ,MW,Vd,jR,ON,aif,Lq]) [] bj 5 f5 func5 (fun c _=>LOk.nil c) Ua (by
 intro _ _ _ h;unfold Ua at h;split at h<;>cases h;kernel_rfl)
theorem auc(i v o:Int)(bs:List TM)(st:List IN)(l:aq6):akd (rsO i v o bs st l)≤4000∧(rsO i v o bs st l).length≤200∧ ∀ x∈rsO i v o bs st l,x.length≤20:=by
 have ht: ∀ (l:aq6),(∀ x∈l,x.length≤20)→akd l≤20 * l.length:=by
  intro l
  induction l with
  |nil=>intro _;simp [akd]
  |cons a r ih=>
   intro h
   have h1:=h a (by simp)
   have h2:=ih fun x hx=>h x (by simp [hx])
   simp only [akd,List.map_cons,List.sum_cons,w8]at h2 ⊢
   omega
 simp only [rsO]
 rcases ans i v o bs st l with⟨h1,h2⟩ | ⟨h1,h3,h2⟩ | ⟨h1,h3,h4,h2⟩ | ⟨h1,h3,h4,h2⟩
 ·rw [h2];simp [akd]
 ·rw [h2];simp [akd]
 ·rw [h2];simp [akd]
 ·rw [h2]
  obtain⟨g1,g2⟩:=aou h1 l (Yl v) (Ks bs) (List.all_eq_true.1 h4) (ak7 h1)
  have:=aeO h3
  have h5:=ht _ g2
  simp only [beq_self_eq_true,cond_true]
  exact⟨by omega,by omega,g2⟩
theorem avR(i v o:Int)(bs:List TM)(st:List IN)(k:Int)(stk xs os:arG)(ss:List BS3)(inp:arG):
  (ssM i v o bs st k stk xs os ss inp).2.1.length≤40∧(ssM i v o bs st k stk xs os ss inp).2.2.1.length≤20∧(ssM i v o bs st k stk xs os ss inp).2.2.2.1.length≤20∧(ssM i v o bs st k stk xs os ss inp).2.2.2.2.length≤2000:=by
 simp only [ssM]
 by_cases hz:Fb i v o bs st k stk xs os ss inp=0
 ·obtain⟨_,_,h4⟩:=apH hz
  obtain⟨hC,xa,hm,eG,_⟩:=anK h4
  have:=am6 hC (aiW (m:=(k,stk,xs,os,ss)) hC xa hm eG).1
  simpa [hz,stM] using this
 ·have:(Fb i v o bs st k stk xs os ss inp==0)=false:=by simpa using hz
  simp [this,m0]
theorem avQ{c:arG}(hb: ∀ (i:Nat) (x:Int),c[i]? =some x→0≤x∧x≤255)(h:lu c=false):aJ 0 0 c=true:=by
 have:=YO.1 h
 refine afS.2 ⟨by omega,by omega,by omega,fun x hx=> ?_⟩
 obtain⟨i,hi⟩:=List.getElem?_of_mem hx
 exact hb i x hi
theorem aoB(k:Int)(stk xs os:arG)(ss:List BS3):arP k stk xs os ss k stk xs os ss=true:=by
 simp only [arP,aaW,amS,beq_self_eq_true,Bool.and_self]
theorem ask{i v o:Int}{bs:List TM}{st:List IN}(h:cdD i v o bs st=true):afu bs=true:=by
 obtain⟨_,_,_,⟨c3,c4⟩,c5⟩:=VQ.1 h
 exact UR.2 ⟨by omega,fun t ht=>by have:=c4 t ht;omega⟩
theorem awc(i v o:Int)(bs:List TM)(st:List IN)(xs:arG)(ss:List BS3)(hx:xs.length≤10000)(hs:ss.length≤10000):
  lkN (fm i v o bs st xs ss) (fo i v o bs st xs ss) (fq i v o bs st xs ss) (ft i v o bs st xs ss)=true:=by
 have t1:leN xs.length 9223372036854775807=true:=aG (by omega)
 have t2:leN ss.length 9223372036854775807=true:=aG (by omega)
 have t0:leN ([]:arG).length 9223372036854775807=true:=rfl
 have t0':leN ([]:List BS3).length 9223372036854775807=true:=rfl
 simp only [fm,fo,fq,ft,pG,pH,lkN]
 cases hc:cA i v o bs st with
 |false=>rfl
 |true=>
  have t3:leN (v7 o.toNat (0:Int)).length 9223372036854775807=true:=aG (by have:=(NE hc).1.2.2.1;rw [j8];omega)
  cases lB v bs xs ss with
  |false=>rfl
  |true=>simp only [Bool.not_true,cond_false,t0,t1,t2,t3,Bool.and_self]
theorem awb(i v o:Int)(bs:List TM)(st:List IN)(l:aq6):oG (rsO i v o bs st l) (rsO i v o bs st l)=true∧DU (rsO i v o bs st l) (rsO i v o bs st l)=true:=by
 obtain⟨_,h1,h2⟩:=auc i v o bs st l
 exact atc _ (by omega) (fun a ha=>by have:=h2 a ha;omega)
theorem alM(c:arG)(w:wfD (.sl 5 (.int .u8)) c):yT c=true∧yU c=true:=by
 have hb: ∀ (i:Nat) (x:Int),c[i]? =some x→0≤x∧x≤255:=fun i x hx=>awg (w.2 x (List.mem_of_getElem? hx))
 cases hbig:lu c with
 |true=>simp [yT,yU,allT,hbig,pg]
 |false=>
  have hsrc:=avQ hb hbig
  have hfr:=(afE c hsrc).2
  have hA:cdD (bY c) (bZ c) (cd c) (bu c) (ce c)=true∧(cB c).length≤60∧(dk c).length≤10000∧(cW c).length≤60:=
   (zP 0 (frS c) c hfr).2.2
  have hB:cdD (gL c) (gM c) (gN c) (er c) (gO c)=true∧(et c).length≤60∧(eu c).length≤10000:=
   ⟨(zP 0 (frS c) c hfr).2.2.1,(zP 0 (frS c) c hfr).2.2.2.1,(zP 0 (frS c) c hfr).2.2.2.2.1⟩
  have hC:cdD (eW c) (eX c) (eY c) (ed c) (eZ c)=true∧
    (ee c).length≤10000∧(ef c).length≤10000∧(eg c).length≤10000∧(ei c).length≤10000∧(dI c).length≤60:=
   (NT 0 (frS c) c hfr).2
  have hE:=(aol c hsrc).2
  obtain⟨g0,g1⟩:=awb (pR c) (pS c) (pT c) (me c) (pU c) (iC c)
  have r0:=Eq.refl (yT c)
  have r1:=Eq.refl (yU c)
  conv at r0=>rhs;simp only [yT,dU,qc,tz,qd,CV,CW,CX,xc,xf,xg,vG,AM,AO,AP,vH,vI,vJ,AQ,kk,cS,pf,mP,mQ,mR,mS,AR,AU,AV,AW,AX,pg,AY,aaW,amS,aoB,g0,S0z,allT,hbig]
  conv at r1=>rhs;simp only [yU,dU,qc,tz,qd,CV,CW,CX,xc,xf,xg,vG,AM,AO,AP,vH,vI,vJ,AQ,kk,cS,pf,mP,mQ,mR,mS,AR,AU,AV,AW,AX,pg,AY,aaW,amS,aoB,g0,g1,S0z,allT,hbig,hsrc]
  rw [r0,r1]
  clear r0 r1 g0 g1
  generalize u0:bY c=i at *
  generalize u1:bZ c=v at *
  generalize u2:cd c=o at *
  generalize u3:bu c=bs at *
  generalize u4:ce c=st at *
  generalize u5:cB c=xs at *
  generalize u6:dk c=ss at *
  generalize u7:cW c=inp at *
  generalize u8:gL c=i1 at *
  generalize u9:gM c=v1 at *
  generalize u10:gN c=o1 at *
  generalize u11:er c=bs1 at *
  generalize u12:gO c=st1 at *
  generalize u13:et c=xs1 at *
  generalize u14:eu c=ss1 at *
  generalize u15:eW c=i2 at *
  generalize u16:eX c=v2 at *
  generalize u17:eY c=o2 at *
  generalize u18:gh c=k2 at *
  generalize u19:ed c=bs2 at *
  generalize u20:eZ c=st2 at *
  generalize u21:ee c=stk2 at *
  generalize u22:ef c=xs2 at *
  generalize u23:eg c=os2 at *
  generalize u24:ei c=ss2 at *
  generalize u25:dI c=inp2 at *
  generalize u26:pR c=i3 at *
  generalize u27:pS c=v3 at *
  generalize u28:pT c=o3 at *
  generalize u29:me c=bs3 at *
  generalize u30:pU c=st3 at *
  generalize u31:iC c=l3 at *
  obtain⟨a0,a1,a2,a3⟩:=hA
  obtain⟨b0,b1,b2⟩:=hB
  obtain⟨c0,c1,c2,c3,c4,c5⟩:=hC
  obtain⟨e0,e1,e2⟩:=hE
  have ta:=ask a0
  have tb:=ask b0
  have tc:=ask c0
  have te:=ask e0
  have l1: ∀ {α:Type} (x:List α),x.length≤10000→leN x.length 1048576=true:=fun x h=>aG (by omega)
  have l2: ∀ {α:Type} (x:List α),x.length≤10000→leN x.length 9223372036854775807=true:=fun x h=>aG (by omega)
  have n0:an8 bs xs inp=true:=by simp only [an8,ta,l1 xs (by omega),l1 inp (by omega),Bool.and_self]
  have n1:smN bs1 xs1 ss1=true:=by simp only [smN,tb,l1 xs1 (by omega),l1 ss1 (by omega),Bool.and_self]
  have n1':smN bs xs ss=true:=by simp only [smN,ta,l1 xs (by omega),l1 ss (by omega),Bool.and_self]
  have nL: ∀ x:arG,x.length≤10000→aeP [x]=true:=fun x h=>by
   simp only [aeP,List.all_cons,List.all_nil,Bool.and_true,q9]
   exact⟨aG (by simp),l2 x h⟩
  have n2:agD bs2 stk2 xs2 os2 [inp2]=true:=by simp only [agD,tc,nL inp2 (by omega),l1 stk2 (by omega),l1 xs2 (by omega),l1 os2 (by omega),Bool.and_self]
  have n3:=l1 ss2 (by omega)
  have n4:an9 bs3 l3=true:=by
   simp only [an9,te,Bool.true_and]
   exact anJ.2 ⟨by omega,fun x hx=>by have:=ajs.1 e2 x hx;omega⟩
  obtain⟨p1,p2,p3⟩:=avI i v o bs st xs ss inp
  have n5:=l2 (rcO i v o bs st xs ss inp) (by omega)
  have n6:=l2 (rcV i v o bs st xs ss inp) (by omega)
  have n7:=l2 (rcS i v o bs st xs ss inp) (by omega)
  have n8:=awc i1 v1 o1 bs1 st1 xs1 ss1 (by omega) (by omega)
  obtain⟨q1,q2,q3,q4⟩:=avR i2 v2 o2 bs2 st2 k2 stk2 xs2 os2 ss2 inp2
  have n9:lkN (ssM i2 v2 o2 bs2 st2 k2 stk2 xs2 os2 ss2 inp2).2.1 (ssM i2 v2 o2 bs2 st2 k2 stk2 xs2 os2 ss2 inp2).2.2.1 (ssM i2 v2 o2 bs2 st2 k2 stk2 xs2 os2 ss2 inp2).2.2.2.1 (ssM i2 v2 o2 bs2 st2 k2 stk2 xs2 os2 ss2 inp2).2.2.2.2=true:=by
   simp only [lkN,l2 _ (show (ssM i2 v2 o2 bs2 st2 k2 stk2 xs2 os2 ss2 inp2).2.1.length≤10000 by omega),l2 _ (show (ssM i2 v2 o2 bs2 st2 k2 stk2 xs2 os2 ss2 inp2).2.2.1.length≤10000 by omega),l2 _ (show (ssM i2 v2 o2 bs2 st2 k2 stk2 xs2 os2 ss2 inp2).2.2.2.1.length≤10000 by omega),l2 _ (show (ssM i2 v2 o2 bs2 st2 k2 stk2 xs2 os2 ss2 inp2).2.2.2.2.length≤10000 by omega),Bool.and_self]
  rcases ajW i v o bs st xs ss inp with⟨h1,h2⟩ | ⟨h1,h3,h2⟩ | ⟨h1,h3,⟨h4,h5⟩,h2⟩
  ·have z:((1:Int)!=0)=true:=rfl
   refine⟨?_,?_⟩ <;> simp only [h2,z,n0,n1,n1',n2,n3,n4,n5,n6,n7,n8,n9,S0z,allT]
  ·have z:((2:Int)!=0)=true:=rfl
   refine⟨?_,?_⟩ <;> simp only [h2,z,n0,n1,n1',n2,n3,n4,n5,n6,n7,n8,n9,S0z,allT]
  ·obtain⟨hr,ro,rx,rs⟩:=amC h1
   have s0:kg i v o bs st xs ss=0:=by simp only [kg,j7]
   have s1:fl i v o bs st xs ss=0:=by simp only [fl,h3,h4];rfl
   have s2:fm i v o bs st xs ss= []:=by simp only [fm,pG,j7]
   have s3:fo i v o bs st xs ss=xs:=by simp only [fo,h3,h4];rfl
   have s4:fq i v o bs st xs ss=v7 o.toNat 0:=by simp only [fq,h3,h4,pH];rfl
   have s5:ft i v o bs st xs ss=ss:=by simp only [ft,h3,h4];rfl
   have hr':=hr
   simp only [Sp,q9]at hr'
   have hm:EK i v o bs st 0 [] xs (v7 o.toNat 0) ss [inp]=0:=by
    simp only [EK,h3,hr'.2.2,h5,List.all_cons,List.all_nil];rfl
   have hf:sfM i v o bs st 0 [] xs (v7 o.toNat 0) ss inp=rnM o bs st inp xs ss:=by rw [sfM,hm];rfl
   have a:rcO i v o bs st xs ss inp=(rnM o bs st inp xs ss).2.2.2.1:=by rw [rcO,h2];rfl
   have b:rcV i v o bs st xs ss inp=(rnM o bs st inp xs ss).2.2.1:=by rw [rcV,h2];rfl
   have d:rcS i v o bs st xs ss inp=(rnM o bs st inp xs ss).2.2.2.2:=by rw [rcS,h2];rfl
   rw [a]at n5
   rw [b]at n6
   rw [d]at n7
   have nM:agD bs [] xs (v7 o.toNat 0) [inp]=true:=by
    simp only [agD,ta,nL inp (by omega),l1 xs (by omega),l1 ([]:arG) (by simp),l1 (v7 o.toNat (0:Int)) (by rw [j8];omega),Bool.and_self]
   have nS:=l1 ss (by omega)
   refine⟨?_,?_⟩ <;> simp only [h2,s0,s1,s2,s3,s4,s5,hm,hf,a,b,d,aaW,aoo,nM,nS,n0,n1,n1',n2,n3,n4,n5,n6,n7,n8,n9,S0z,allT]
end Go.SX
