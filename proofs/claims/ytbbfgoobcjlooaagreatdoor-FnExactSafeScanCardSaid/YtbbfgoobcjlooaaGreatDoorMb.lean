/- What functions of the program come to, and what that says in plain words: part 2. -/
import Derived.Test.YtbbfgoobcjlooaaGreatDoorMa
import Derived.Test.YtbbfgoobcjlooaaGreatDoorTXh
import Derived.Test.YtbbfgoobcjlooaaGreatDoorProg
set_option linter.unusedSimpArgs false
set_option linter.unusedVariables false
namespace Go.SX
open Go.Proofs Go.Proofs.Tryz
set_option maxRecDepth 100000
theorem PC{A B:Type}{f g:B→A→Nat ⊕ A}{e:Nat}: ∀ {l:List B} {i:Nat} {a:A},(∀ b∈l,∀ a,f b a=g b a)→aC f e l i a=aC g e l i a
 | [],_,_,_=>rfl
 |b::r,i,a,h=>by
  simp only [aC,h b (by simp) a]
  cases g b a with
  |inl j=>rfl
  |inr a'=>exact PC fun x hx=>h x (by simp [hx])
def yH(y1 b:ByteArray):(Unit)→Nat ⊕ (Unit)
 |_=>(bif(ByteArray.toList (b)==ByteArray.toList y1)then(.inl 0)else(.inr ()))
def oR(y1:ByteArray)(y2:List ByteArray)(i:Nat):(Unit)→lU
 |_=>((i:Int),y1,y2)
def HA:lU→Unit
 |(_,_,_)=>()
theorem Ze(y1:ByteArray)(y2:List ByteArray) (hn:y2.length≤9223372036854775807):
  dK.fin ((0:Int),y1,y2)=true∧dK.res ((0:Int),y1,y2)=((aC (yH y1) 1 y2 0 ()).1,(oR y1 y2) (aC (yH y1) 1 y2 0 ()).2.1 (aC (yH y1) 1 y2 0 ()).2.2):=by
 have kw:=dK.along (oR y1 y2) HA (yH y1) 1 (fun _ _=>True) y2 () (by trivial) (by simp only [dK,oR];omega) (fun i b a hb hI=> ?_) (fun a hI=> ?_)
 ·exact kw
 ·obtain⟨⟩:=a
  have fy:=(List.getElem?_eq_some_iff.1 hb).1
  have jx: ∀ d,Option.getD y2[i]? d=b:=fun d=>by rw [hb];rfl
  have hw:=uF fy hn
  have cM:ltI (i:Int) (y2.length:Int)=true:=gg (by omega)
  have xj:leI (0:Int) (i:Int)=true:=cW (by omega)
  have jC:ltN i y2.length=true:=iF fy
  refine⟨?_,?_,?_,?_⟩
  ·simp [vt,zR,zS,zT,zU,xS,dK,LT.nds,allT,oR,cM,xj,jC,jx]
  ·simp [vt,zR,zS,zT,zU,xS,dK,LT.each,oR,HA,hw]
  ·simp only [vt,zR,zS,zT,zU,xS,dK,LT.fn,oR,HA,yH,Int.toNat_natCast,cM,xj,jC,jx,cond_true,Bool.cond_self]
  ·exact fun _ _=>trivial
 ·obtain⟨⟩:=a
  simp [vt,zR,zS,zT,zU,xS,dK,LT.out,oR]
theorem Ys(s:ByteArray)(l:List ByteArray)(h:leN l.length 9223372036854775807=true):Er s l=ii l s∧ID s l=true:=by
 obtain⟨w1,w2⟩:=Ze s l (ij.1 h)
 rw [gJ (P:=fun k=>k.toList==s.toList) (j:=0) (fun k=>rfl)]at w2
 simp only [Er,ID,Hl,w1,w2,allT,oR,ii,lz,MX]
 cases l.any fun k=>k.toList==s.toList <;> simp [Nat.beq]
theorem acU(s:ByteArray)(l:List ByteArray)(h:leN l.length 9223372036854775807=true):oB s l=ii l s∧oC s l=true:=by
 obtain⟨w1,w2⟩:=Ca s l (ij.1 h)
 rw [gJ (P:=fun k=>s.toList==k.toList) (j:=0) (fun k=>rfl)]at w2
 have e1:(fun k:ByteArray=>s.toList==k.toList)=fun k=>k.toList==s.toList:=funext fun k=>BEq.comm
 have e2:(fun k:ByteArray=> !(s.toList==k.toList))=fun k=> !(k.toList==s.toList):=funext fun k=>by rw [BEq.comm]
 rw [e1,e2]at w2
 simp only [oB,oC,nO,w1,w2,allT,dd,ii,lz,MX]
 cases l.any fun k=>k.toList==s.toList <;> simp [Nat.beq]
theorem MD(l:List ByteArray)(s:ByteArray):leI 0 (ii l s)=lz l s:=by
 simp only [ii]
 cases lz l s with
 |true=>exact cW (by simp)
 |false=>rfl
def Sv:List SV→List Entry→Option Out
 | [.one ⟨false,[.ref 0]⟩,.one ⟨false,[.val (.string x0)]⟩],[.row false 9 (.str) x1]=>some ⟨.one ⟨false,[.val (.int .i64 (ii x1 x0))]⟩,[.row false 9 aen x1],[],[leN x1.length 9223372036854775807]⟩
 |_,_=>none
def bO:PF prog:=PF.alt xk Sv (by
 intro args es o h dh;unfold Sv at h;split at h
 ·rename_i x0 x1
  cases h
  have dh:=qA dh
  have hh:=Ys x0 x1 dh
  obtain⟨e0,en⟩:=hh
  exact vG rfl (qB en) (by simp only [e0] <;> rfl) rfl rfl
 ·cases h)
def Ei:List SV→List Entry→Option Out
 | [.one ⟨false,[.ref 0]⟩,.one ⟨false,[.val (.string x0)]⟩],[.row false 9 (.str) x1]=>some ⟨.one ⟨false,[.val (.int .i64 (ii x1 x0))]⟩,[.row false 9 aen x1],[],[leN x1.length 9223372036854775807]⟩
 |_,_=>none
def rS:PF prog:=PF.alt rT Ei (by
 intro args es o h dh;unfold Ei at h;split at h
 ·rename_i x0 x1
  cases h
  have dh:=qA dh
  have hh:=acU x0 x1 dh
  obtain⟨e0,en⟩:=hh
  exact vG rfl (qB en) (by simp only [e0] <;> rfl) rfl rfl
 ·cases h)
theorem ahi(s:ByteArray)(l:List ByteArray)(h:leN l.length 9223372036854775807=true):gF s l=lz l s∧jw s l=true:=by
 obtain⟨e1,e2⟩:=acU s l h
 simp only [gF,jw,e1,e2,MD,allT,and_self,cond_true]
def BX:List SV→List Entry→Option Out
 | [.one ⟨false,[.ref 0]⟩,.one ⟨false,[.val (.string x0)]⟩],[.row false 9 (.str) x1]=>some ⟨.one ⟨false,[.val (.bool (lz x1 x0))]⟩,[.row false 9 aen x1],[],[leN x1.length 9223372036854775807]⟩
 |_,_=>none
def aD:PF prog:=PF.alt cL BX (by
 intro args es o h dh;unfold BX at h;split at h
 ·rename_i x0 x1
  cases h
  have dh:=qA dh
  have hh:=ahi x0 x1 dh
  obtain⟨e0,en⟩:=hh
  exact vG rfl (qB en) (by simp only [e0] <;> rfl) rfl rfl
 ·cases h)
theorem akh(a b c:List ByteArray)(h:leN (a.length + b.length + c.length) 2000000=true):Xa a b c=a++b++c∧Qh a b c=true:=by
 have h:=ij.1 h
 refine⟨rfl,?_⟩
 simp [Qh,KQ,allT]
 omega
def WI:List SV→List Entry→Option Out
 | [.one ⟨true,[.val (.string _x0),.ref 0,.ref 1,.ref 2,.val (.string _x1),.ref 3]⟩],[.row false 9 (.str) x2,.row false 9 (.str) x3,.row false 9 (.str) x4,.row false 204 (.pair (.str) (.sl 178 (.pair (.int .i64) (.pair (.str) (.int .i64))))) x5]=>some ⟨.one ⟨false,[.ref 4]⟩,[.row false 9 aen x2,.row false 9 aen x3,.row false 9 aen x4,.row false 204 (CTy.pair CTy.str (CTy.sl (178:TypeId) abW)) x5],[.row true 9 aen (x2++x3++x4)],[leN (x2.length + x3.length + x4.length) 2000000]⟩
 |_,_=>none
def qr:PF prog:=PF.alt ad4 WI (by
 intro args es o h dh;unfold WI at h;split at h
 ·rename_i _x0 _x1 x2 x3 x4 x5
  cases h
  have dh:=qA dh
  have hh:=akh x2 x3 x4 dh
  obtain⟨e0,en⟩:=hh
  exact vG rfl (qB en) rfl rfl (by simp only [e0] <;> rfl)
 ·cases h)
theorem JQ(s:ByteArray)(h:s.size≤9223372036854775807):lI s=lN s∧rR s=true:=by
 obtain⟨e1,e2⟩:=adw s
 have hl:leN s.size 9223372036854775807=true:=em h
 refine⟨?_,?_⟩
 ·simp only [lI,e1,lN];cases Ny s <;> rfl
 ·simp only [rR,e2,hl,allT,Bool.or_true,cond_true]
theorem Pp(s:ByteArray):kV s=lN s:=by simp only [kV,lN];cases Ny s <;> rfl
def Lm(l:List ByteArray):Bool:=leN l.length 9223372036854775807&&l.all fun s=>leN s.size 9223372036854775807
def rW(b:ByteArray):(Unit)→Nat ⊕ (Unit)
 |_=>(bif(!lI b)then(.inl 0)else(.inr ()))
def ro(y1:List ByteArray)(i:Nat):(Unit)→lS
 |_=>((i:Int),y1)
def Hy:lS→Unit
 |(_,_)=>()
theorem Zc(y1:List ByteArray) (hn:y1.length≤9223372036854775807) (hA: ∀ x∈y1,x.size≤9223372036854775807):
  eJ.fin ((0:Int),y1)=true∧eJ.res ((0:Int),y1)=((aC (rW) 1 y1 0 ()).1,(ro y1) (aC (rW) 1 y1 0 ()).2.1 (aC (rW) 1 y1 0 ()).2.2):=by
 have kw:=eJ.along (ro y1) Hy (rW) 1 (fun _ _=>True) y1 () (by trivial) (by simp only [eJ,ro];omega) (fun i b a hb hI=> ?_) (fun a hI=> ?_)
 ·exact kw
 ·obtain⟨⟩:=a
  have fy:=(List.getElem?_eq_some_iff.1 hb).1
  have jx: ∀ d,Option.getD y1[i]? d=b:=fun d=>by rw [hb];rfl
  have hw:=uF fy hn
  have cM:ltI (i:Int) (y1.length:Int)=true:=gg (by omega)
  have xj:leI (0:Int) (i:Int)=true:=cW (by omega)
  have jC:ltN i y1.length=true:=iF fy
  refine⟨?_,?_,?_,?_⟩
  ·have hg2:oN (i:Int) y1=b:=by simp only [oN,Int.toNat_natCast];exact jx _
   have h6:=(JQ b (hA b (List.mem_of_getElem? hb))).2
   simp [vp,DV,DW,DX,zH,DY,xP,eJ,LT.nds,allT,ro,cM,xj,jC,hg2,h6]
  ·simp [oN,vp,DV,DW,DX,zH,DY,xP,eJ,LT.each,ro,Hy,hw]
  ·have hg2:oN (i:Int) y1=b:=by simp only [oN,Int.toNat_natCast];exact jx _
   simp only [vp,zH,xP,eJ,LT.fn,ro,Hy,rW,Int.toNat_natCast,cM,hg2,cond_true]
  ·exact fun _ _=>trivial
 ·obtain⟨⟩:=a
  simp [oN,vp,DV,DW,DX,zH,DY,xP,eJ,LT.out,ro]
theorem afq(lo:Int)(l:List ByteArray)(h:Lm l=true):Nc lo l=(l.all lN&&inR (l.length:Int) lo 20)∧Nd l=true:=by
 simp only [Lm,Bool.and_eq_true,ij,List.all_eq_true]at h
 obtain⟨w1,w2⟩:=Zc l h.1 h.2
 have e0:(aC rW 1 l 0 ())=(aC (fun(k:ByteArray) (_:Unit)=>bif !lN k then(.inl 0:Nat ⊕ Unit)else .inr ()) 1 l 0 ()):=by
  refine PC fun b hb a=> ?_
  simp only [rW,(JQ b (h.2 b hb)).1]
 rw [e0,gJ (P:=fun k=> !lN k) (j:=0) (fun k=>rfl)]at w2
 have e5:(l.any fun k=> !lN k)= !l.all lN:=by simp [List.all_eq_not_any_not]
 rw [e5]at w2
 simp only [Nc,Nd,w1,w2,allT,br,Rx]
 cases l.all lN <;> simp [Nat.beq]
def dz(b:ByteArray):(Unit)→Nat ⊕ (Unit)
 |_=>(bif(wJ b)then(.inl 0)else(.inr ()))
def bT(y2:List ByteArray)(i:Nat):(Unit)→bg
 |_=>((i:Int),(↑y2.length:Int),y2)
def nZ:bg→Unit
 |(_,_,_)=>()
theorem Eu(y2:List ByteArray) (hn:y2.length≤9223372036854775807):
  af.fin ((0:Int),(↑y2.length:Int),y2)=true∧af.res ((0:Int),(↑y2.length:Int),y2)=((aC (dz) 1 y2 0 ()).1,(bT y2) (aC (dz) 1 y2 0 ()).2.1 (aC (dz) 1 y2 0 ()).2.2):=by
 have kw:=af.along (bT y2) nZ (dz) 1 (fun _ _=>True) y2 () (by trivial) (by simp only [af,bT];omega) (fun i b a hb hI=> ?_) (fun a hI=> ?_)
 ·exact kw
 ·obtain⟨⟩:=a
  have fy:=(List.getElem?_eq_some_iff.1 hb).1
  have jx: ∀ d,Option.getD y2[i]? d=b:=fun d=>by rw [hb];rfl
  have hw:=uF fy hn
  have cM:ltI (i:Int) (y2.length:Int)=true:=gg (by omega)
  have xj:leI (0:Int) (i:Int)=true:=cW (by omega)
  have jC:ltN i y2.length=true:=iF fy
  refine⟨?_,?_,?_,?_⟩
  ·simp [gm,gn,gp,gq,gr,gt,fY,af,LT.nds,allT,bT,cM,xj,jC,jx]
  ·simp [gm,gn,gp,gq,gr,gt,fY,af,LT.each,bT,nZ,hw]
  ·simp only [gm,gn,gp,gq,gr,gt,fY,af,LT.fn,bT,nZ,dz,Int.toNat_natCast,cM,xj,jC,jx,cond_true,Bool.cond_self]
  ·exact fun _ _=>trivial
 ·obtain⟨⟩:=a
  simp [gm,gn,gp,gq,gr,gt,fY,af,LT.out,bT]
theorem afF(l:List ByteArray)(h:leN l.length 9223372036854775807=true):MI l=l.all lN∧MJ l=true:=by
 obtain⟨w1,w2⟩:=Eu l (ij.1 h)
 rw [gJ (P:=fun k=> !lN k) (j:=0) (fun k=>by simp only [dz,wJ,Pp])]at w2
 have e5:(l.any fun k=> !lN k)= !l.all lN:=by simp [List.all_eq_not_any_not]
 rw [e5]at w2
 have q: ∀ m:Nat,leI 0 (m:Int)=true:=fun m=>cW (by omega)
 have q2:leI 0 (-1)=false:=rfl
 simp only [MI,MJ,oz,oA,pZ,qa,ll,w1,w2,allT,bT]
 cases (l.all lN) <;> simp [Nat.beq,q,q2]
def Su:List SV→List Entry→Option Out
 | [.one ⟨false,[.ref 0]⟩,.one ⟨false,[.val (.int .i64 x0)]⟩],[.row false 9 (.str) x1]=>some ⟨.one ⟨false,[.val (.bool (x1.all lN&&inR (x1.length:Int) x0 20))]⟩,[.row false 9 aen x1],[],[Lm x1]⟩
 |_,_=>none
def Ar:PF prog:=PF.alt aca Su (by
 intro args es o h dh;unfold Su at h;split at h
 ·rename_i x0 x1
  cases h
  have dh:=qA dh
  have hh:=afq x0 x1 dh
  obtain⟨e0,en⟩:=hh
  exact vG rfl (qB en) (by simp only [e0] <;> rfl) rfl rfl
 ·cases h)
def Sn:List SV→List Entry→Option Out
 | [.one ⟨false,[.ref 0]⟩],[.row false 9 (.str) x0]=>some ⟨.one ⟨false,[.val (.bool (x0.all lN))]⟩,[.row false 9 aen x0],[],[leN x0.length 9223372036854775807]⟩
 |_,_=>none
def MP:PF prog:=PF.alt ab2 Sn (by
 intro args es o h dh;unfold Sn at h;split at h
 ·rename_i x0
  cases h
  have dh:=qA dh
  have hh:=afF x0 dh
  obtain⟨e0,en⟩:=hh
  exact vG rfl (qB en) (by simp only [e0] <;> rfl) rfl rfl
 ·cases h)
theorem adN(l:List ByteArray):(List.range l.length).any (fun b=>lz (List.take b l) (Option.getD l[b]? ByteArray.empty))=qq l:=rfl
def vb(y1:List ByteArray)(b:Nat):(Unit)→Nat ⊕ (Unit)
 |_=>(bif(leI (0:Int) (Er (Option.getD y1[b]? ByteArray.empty) (List.drop (Int.toNat (0:Int)) (List.take b y1))))then(.inl 0)else(.inr ()))
def rp(y1:List ByteArray)(i:Nat):(Unit)→lV
 |_=>((i:Int),y1)
def HB:lV→Unit
 |(_,_)=>()
theorem Zf(y1:List ByteArray) (hn:y1.length≤9223372036854775807):
  eK.fin ((0:Int),y1)=true∧eK.res ((0:Int),y1)=((aC (vb y1) 1 (List.range y1.length) 0 ()).1,(rp y1) (aC (vb y1) 1 (List.range y1.length) 0 ()).2.1 (aC (vb y1) 1 (List.range y1.length) 0 ()).2.2):=by
 have kw:=eK.along (rp y1) HB (vb y1) 1 (fun _ _=>True) (List.range y1.length) () (by trivial) (by simp only [eK,rp,List.length_range];omega) (fun i b a hb hI=> ?_) (fun a hI=> ?_)
 ·exact kw
 ·obtain⟨⟩:=a
  obtain⟨rfl,fy⟩:=ul hb
  have hw:IntKind.i64.wrap ((b:Int) + 1)=((b + 1:Nat):Int):=by rw [cg (by omega) (by omega)];omega
  have cM:ltI (b:Int) (y1.length:Int)=true:=gg (by omega)
  have xj:leI (0:Int) (b:Int)=true:=cW (by omega)
  have jC:ltN b y1.length=true:=iF (by omega)
  refine⟨?_,?_,?_,?_⟩
  ·have nj:(List.take b y1).length≤9223372036854775807:=by rw [List.length_take];omega
   have e:rl (b:Int) y1=List.take b y1:=by simp [rl]
   have h5:vz (b:Int) y1=true:=by simp only [vz,e];exact(Ys _ _ (em nj)).2
   have h3:zX (b:Int) y1=true:=cW (by omega)
   have h1:zW=true:=rfl
   simp only [xT,eK,LT.nds,allT,rp,vu,vv,zY,h1,h3,h5,cM,xj,jC,Int.toNat_natCast,cond_true,Bool.and_self,List.all_nil,List.all_cons]
   cases zZ (b:Int) y1 <;> simp [LT.nds]
  ·simp [yc,rl,vu,zW,vv,zX,zY,vz,zZ,Ea,xT,eK,LT.each,rp,HB,hw]
  ·simp only [yc,rl,vu,zW,vv,zX,zY,vz,zZ,Ea,xT,eK,LT.fn,rp,HB,vb,Int.toNat_natCast,cM,cond_true]
  ·exact fun _ _=>trivial
 ·obtain⟨⟩:=a
  simp [yc,rl,vu,zW,vv,zX,zY,vz,zZ,Ea,xT,eK,LT.out,rp,List.length_range]
theorem afs(l:List ByteArray)(h:leN l.length 9223372036854775807=true):Ng l=qq l∧Nh l=true:=by
 have hn:=ij.1 h
 obtain⟨w1,w2⟩:=Zf l hn
 have hi: ∀ b:Nat,(List.take b l).length≤9223372036854775807:=fun b=>by rw [List.length_take];omega
 rw [gJ (P:=fun b=>lz (List.take b l) (Option.getD l[b]? ByteArray.empty)) (j:=0) (fun b=>by
  simp only [vb,Int.toNat_zero,List.drop_zero,(Ys _ _ (em (hi b))).1,MD]),adN]at w2
 simp only [Ng,Nh,w1,w2,allT]
 cases qq l <;> simp [Nat.beq]
theorem GG{A B:Type}{f:B→A→Nat ⊕ A}{g:A→B→A}{e:Nat}(hf: ∀ b a,f b a= .inr (g a b)): ∀ (l:List B) (i:Nat) (a:A),aC f e l i a=(e,i + l.length,l.foldl g a)
 | [],i,a=>rfl
 |b::r,i,a=>by
  simp only [aC,hf,List.foldl_cons]
  rw [GG hf r]
  simp [Nat.add_assoc,Nat.add_comm 1]
def uZ(y2:List ByteArray)(b:Nat):(Unit)→Nat ⊕ (Unit)
 |_=>(bif(gF (Option.getD y2[b]? ByteArray.empty) (List.drop (Int.toNat (0:Int)) (List.take b y2)))then(.inl 0)else(.inr ()))
def rm(y2:List ByteArray)(i:Nat):(Unit)→lO
 |_=>((i:Int),(↑y2.length:Int),y2)
def Hu:lO→Unit
 |(_,_,_)=>()
theorem YY(y2:List ByteArray) (hn:y2.length≤9223372036854775807):
  eG.fin ((0:Int),(↑y2.length:Int),y2)=true∧eG.res ((0:Int),(↑y2.length:Int),y2)=((aC (uZ y2) 1 (List.range y2.length) 0 ()).1,(rm y2) (aC (uZ y2) 1 (List.range y2.length) 0 ()).2.1 (aC (uZ y2) 1 (List.range y2.length) 0 ()).2.2):=by
 have kw:=eG.along (rm y2) Hu (uZ y2) 1 (fun _ _=>True) (List.range y2.length) () (by trivial) (by simp only [eG,rm,List.length_range];omega) (fun i b a hb hI=> ?_) (fun a hI=> ?_)
 ·exact kw
 ·obtain⟨⟩:=a
  obtain⟨rfl,fy⟩:=ul hb
  have hw:IntKind.i64.wrap ((b:Int) + 1)=((b + 1:Nat):Int):=by rw [cg (by omega) (by omega)];omega
  have cM:ltI (b:Int) (y2.length:Int)=true:=gg (by omega)
  have xj:leI (0:Int) (b:Int)=true:=cW (by omega)
  have jC:ltN b y2.length=true:=iF (by omega)
  refine⟨?_,?_,?_,?_⟩
  ·have nj:(List.take b y2).length≤9223372036854775807:=by rw [List.length_take];omega
   have e:rg (b:Int) y2=List.take b y2:=by simp [rg]
   have h5:vd (b:Int) y2=true:=by simp only [vd,e];exact(ahi _ _ (em nj)).2
   have h3:yM (b:Int) y2=true:=cW (by omega)
   have h1:yL=true:=rfl
   simp only [xL,eG,LT.nds,allT,rm,yI,vc,yJ,yK,h1,h3,h5,cM,xj,jC,Int.toNat_natCast,cond_true,Bool.and_self,List.all_nil,List.all_cons]
   cases yN (b:Int) y2 <;> simp [LT.nds]
  ·simp [xt,rg,yI,vc,yJ,yK,yL,yM,vd,yN,DO,xL,eG,LT.each,rm,Hu,hw]
  ·simp only [xt,rg,yI,vc,yJ,yK,yL,yM,vd,yN,DO,xL,eG,LT.fn,rm,Hu,uZ,Int.toNat_natCast,cM,cond_true]
  ·exact fun _ _=>trivial
 ·obtain⟨⟩:=a
  simp [xt,rg,yI,vc,yJ,yK,yL,yM,vd,yN,DO,xL,eG,LT.out,rm,List.length_range]
theorem afc(l:List ByteArray)(h:leN l.length 9223372036854775807=true):MK l=qq l∧ML l=true:=by
 have hn:=ij.1 h
 obtain⟨w1,w2⟩:=YY l hn
 have hi: ∀ b:Nat,(List.take b l).length≤9223372036854775807:=fun b=>by rw [List.length_take];omega
 rw [gJ (P:=fun b=>lz (List.take b l) (Option.getD l[b]? ByteArray.empty)) (j:=0) (fun b=>by
  simp only [uZ,Int.toNat_zero,List.drop_zero,(ahi _ _ (em (hi b))).1]),adN]at w2
 simp only [MK,ML,Lw,w1,w2,allT]
 cases qq l <;> simp [Nat.beq]
def Sw:List SV→List Entry→Option Out
 | [.one ⟨false,[.ref 0]⟩],[.row false 9 (.str) x0]=>some ⟨.one ⟨false,[.val (.bool (qq x0))]⟩,[.row false 9 aen x0],[],[leN x0.length 9223372036854775807]⟩
 |_,_=>none
def mN:PF prog:=PF.alt acb Sw (by
 intro args es o h dh;unfold Sw at h;split at h
 ·rename_i x0
  cases h
  have dh:=qA dh
  have hh:=afs x0 dh
  obtain⟨e0,en⟩:=hh
  exact vG rfl (qB en) (by simp only [e0] <;> rfl) rfl rfl
 ·cases h)
def So:List SV→List Entry→Option Out
 | [.one ⟨false,[.ref 0]⟩],[.row false 9 (.str) x0]=>some ⟨.one ⟨false,[.val (.bool (qq x0))]⟩,[.row false 9 aen x0],[],[leN x0.length 9223372036854775807]⟩
 |_,_=>none
def Ao:PF prog:=PF.alt ab3 So (by
 intro args es o h dh;unfold So at h;split at h
 ·rename_i x0
  cases h
  have dh:=qA dh
  have hh:=afc x0 dh
  obtain⟨e0,en⟩:=hh
  exact vG rfl (qB en) (by simp only [e0] <;> rfl) rfl rfl
 ·cases h)
theorem ah1(k:Int):qv k=takesK k:=rfl
theorem aim(n k:Int)(h0:0≤n)(h1:n≤9223372036854775000):IntKind.i64.wrap (IntKind.i64.wrap (n - takesK k) + 1)=n - takesK k + 1∧IntKind.i64.wrap (n + IntKind.i64.wrap (1 - takesK k))=n - takesK k + 1:=by
 have:=LY k
 refine⟨?_,?_⟩
 ·rw [cg (x:=n - takesK k) (by omega) (by omega),cg (by omega) (by omega)]
 ·rw [cg (x:=1 - takesK k) (by omega) (by omega),cg (by omega) (by omega)];omega
theorem Pq(a b:Int):ltI a b= !leI b a:=by
 cases h:leI b a with
 |true=>have:=Cj.1 h;exact SA (by omega)
 |false=>rw [ajM]at h;exact gg (by omega)
def Nx(ts:List TM):Bool:=leN ts.length 1048576&&ts.all fun t=>leN t.2.1.size 9223372036854775807
def Sz(ls:List LN):Bool:=leN ls.length 1048576&&ls.all fun l=>leN l.1.size 9223372036854775807&&Nx l.2
theorem JR{ts:List TM}:Nx ts=true↔ts.length≤1048576∧ ∀ t∈ts,t.2.1.size≤9223372036854775807:=by
 simp only [Nx,Bool.and_eq_true,ij,List.all_eq_true]
theorem JK{ls:List LN}:Sz ls=true↔ls.length≤1048576∧ ∀ l∈ls,l.1.size≤9223372036854775807∧Nx l.2=true:=by
 simp only [Sz,Bool.and_eq_true,ij,List.all_eq_true]
def oE(b:Int×(ByteArray×Int)):(Int×Int)→Nat ⊕ (Int×Int)
 |(y2,y3)=>(bif(bif !HU b.1 (b.2.1) b.2.2then true else ltI y2 (qv b.1))then(.inl 0)else(.inr ((IntKind.wrap .i64 (y2 + IntKind.wrap .i64 ((1:Int) - qv b.1))),(aaI y3 (IntKind.wrap .i64 (y2 + IntKind.wrap .i64 ((1:Int) - qv b.1))) (IntKind.wrap .i64 (y2 + IntKind.wrap .i64 ((1:Int) - qv b.1))) y3))))
def rE(y4:List (Int×(ByteArray×Int)))(i:Nat):(Int×Int)→oD
 |(y2,y3)=>((i:Int),(↑y4.length:Int),y2,y3,y4)
def KD:oD→Int×Int
 |(_,_,y2,y3,_)=>(y2,y3)
theorem abh(y4:List (Int×(ByteArray×Int)))(y2 y3:Int)(hn:y4.length≤9223372036854775807):
  fT.fin ((0:Int),(↑y4.length:Int),y2,y3,y4)=true∧fT.res ((0:Int),(↑y4.length:Int),y2,y3,y4)=((aC (oE) 1 y4 0 (y2,y3)).1,(rE y4) (aC (oE) 1 y4 0 (y2,y3)).2.1 (aC (oE) 1 y4 0 (y2,y3)).2.2):=by
 have kw:=fT.along (rE y4) KD (oE) 1 (fun _ _=>True) y4 (y2,y3) (by trivial) (by simp only [fT,rE];omega) (fun i b a hb hI=> ?_) (fun a hI=> ?_)
 ·exact kw
 ·obtain⟨y2,y3⟩:=a
  have fy:=(List.getElem?_eq_some_iff.1 hb).1
  have jx: ∀ d,Option.getD y4[i]? d=b:=fun d=>by rw [hb];rfl
  have hw:=uF fy hn
  have cM:ltI (i:Int) (y4.length:Int)=true:=gg (by omega)
  have xj:leI (0:Int) (i:Int)=true:=cW (by omega)
  have jC:ltN i y4.length=true:=iF fy
  refine⟨?_,?_,?_,?_⟩
  ·simp [pd,tF,CF,CG,CH,CI,CJ,CL,CM,CN,Bt,fT,LT.nds,allT,rE,cM,xj,jC,jx]
  ·simp [pd,tF,CF,CG,CH,CI,CJ,CL,CM,CN,Bt,fT,LT.each,rE,KD,hw]
  ·simp only [pd,tF,CF,CG,CH,CI,CJ,CL,CM,CN,Bt,fT,LT.fn,rE,KD,oE,Int.toNat_natCast,cM,xj,jC,jx,cond_true,Bool.cond_self]
  ·exact fun _ _=>trivial
 ·obtain⟨y2,y3⟩:=a
  simp [pd,tF,CF,CG,CH,CI,CJ,CL,CM,CN,Bt,fT,LT.out,rE]
theorem abS: ∀ (ts:List TM) (i:Nat) (n m:Int),0≤n→n + ts.length≤9223372036854775000→
  match htT ts n with
  |some k=>(aC oE 1 ts i (n,m)).1=1∧(aC oE 1 ts i (n,m)).2.2.1=k
  |none=>(aC oE 1 ts i (n,m)).1=0
 | [],i,n,m,_,_=>⟨rfl,rfl⟩
 |t::r,i,n,m,h0,h1=>by
  rw [List.length_cons]at h1
  have hw:=(aim n t.1 h0 (by omega)).2
  have ht:=LY t.1
  have hf:oE t (n,m)=(bif termB t.1 t.2.1 t.2.2&&leI (takesK t.1) n then .inr (n - takesK t.1 + 1,aaI m (n - takesK t.1 + 1) (n - takesK t.1 + 1) m)else .inl 0):=by
   simp only [oE,af8,ah1,hw,Pq]
   cases termB t.1 t.2.1 t.2.2 <;> cases leI (takesK t.1) n <;> rfl
  simp only [aC,hf,htT]
  cases hc:termB t.1 t.2.1 t.2.2&&leI (takesK t.1) n with
  |false=>rfl
  |true=>
   simp only [Bool.and_eq_true,Cj]at hc
   simp only [cond_true]
   exact abS r (i + 1) _ _ (by omega) (by omega)
theorem af5(ts:List TM)(h:Nx ts=true):Ch ts=Zy ts∧Ci ts=true:=by
 obtain⟨hn,_⟩:=JR.1 h
 obtain⟨w1,w2⟩:=abh ts 0 0 (by omega)
 have hh:=abS ts 0 0 0 (by omega) (by omega)
 have HQ:leI (ts.length:Int) 40=leN ts.length 40:=by
  rw [Bool.eq_iff_iff,Cj,ij];omega
 simp only [Ch,Ci,PR,PS,Ko,NZ,Oa,w1,w2,allT,Zy,HQ,cond_true,rE]
 cases hq:htT ts 0 with
 |none=>
  rw [hq]at hh
  simp only at hh
  rw [hh];simp [Nat.beq]
 |some k=>
  rw [hq]at hh
  simp only at hh
  rw [hh.1,hh.2]
  dsimp only
  generalize (k==1)=q
  cases q <;> cases leN ts.length 40 <;> simp [Nat.beq]
def iy(b:Int×(ByteArray×Int)):(Int×List Int)→Nat ⊕ (Int×List Int)
 |(y1,y3)=>(bif(bif(!GA b.1 (b.2.1) b.2.2)then true else ltI y1 (lx b.1))then(.inl 0)else(.inr ((IntKind.wrap .i64 (IntKind.wrap .i64 (y1 - lx b.1) + (1:Int))),(y3++ [IntKind.wrap .i64 (IntKind.wrap .i64 (y1 - lx b.1) + (1:Int))]))))
def mJ(y2:List (Int×(ByteArray×Int)))(i:Nat):(Int×List Int)→jB
 |(y1,y3)=>((i:Int),y1,y2,y3)
def ES:jB→Int×List Int
 |(_,y1,_,y3)=>(y1,y3)
theorem Vf(y2:List (Int×(ByteArray×Int)))(y1:Int)(y3:List Int)(hn:y2.length≤9223372036854775807)(hT:y2.length≤1048576)(hA: ∀ x∈y2,x.2.1.size≤9223372036854775807)(h3:y3.length=0):
  cZ.fin ((0:Int),y1,y2,y3)=true∧cZ.res ((0:Int),y1,y2,y3)=((aC (iy) 1 y2 0 (y1,y3)).1,(mJ y2) (aC (iy) 1 y2 0 (y1,y3)).2.1 (aC (iy) 1 y2 0 (y1,y3)).2.2):=by
 have kw:=cZ.along (mJ y2) ES (iy) 1 (fun i a=>a.2.length=i) y2 (y1,y3) h3 (by simp only [cZ,mJ];omega) (fun i b a hb hI=> ?_) (fun a hI=> ?_)
 ·exact kw
 ·obtain⟨y1,y3⟩:=a
  have fy:=(List.getElem?_eq_some_iff.1 hb).1
  have jx: ∀ d,Option.getD y2[i]? d=b:=fun d=>by rw [hb];rfl
  have hw:=uF fy hn
  have cM:ltI (i:Int) (y2.length:Int)=true:=gg (by omega)
  have xj:leI (0:Int) (i:Int)=true:=cW (by omega)
  have jC:ltN i y2.length=true:=iF fy
  refine⟨?_,?_,?_,?_⟩
  ·have hg2:dr (i:Int) y2=b:=by simp only [dr,Int.toNat_natCast];exact jx _
   have h6:GC b.1 b.2.1 b.2.2=true:=(abJ b.1 b.2.1 b.2.2 (em (hA b (List.mem_of_getElem? hb)))).2
   simp only at hI
   have h8:leN (y3.length + 1) 9223372036854775807=true:=em (by omega)
   have h9:leN ((y3.length + 1) * 8) 140737488355328=true:=em (by omega)
   simp [qg,sY,sZ,wo,wq,ws,wu,wv,ww,wx,uQ,uR,uS,uM,cZ,LT.nds,allT,mJ,cM,xj,jC,hg2,h6,h8,h9]
  ·simp [dr,pa,pb,qg,sY,sZ,wo,wq,ws,wu,wv,ww,wx,uQ,uR,uS,uM,cZ,LT.each,mJ,ES,hw]
  ·have hg2:dr (i:Int) y2=b:=by simp only [dr,Int.toNat_natCast];exact jx _
   simp only [qg,sY,sZ,wo,wq,ws,wu,wv,ww,wx,uQ,uR,uS,uM,cZ,pa,pb,LT.fn,mJ,ES,iy,Int.toNat_natCast,cM,hg2,cond_true]
  ·intro a' hf
   simp only at hI
   simp only [iy]at hf
   revert hf
   generalize (bif _ then true else _)=c
   cases c with
   |true=>intro hf;cases hf
   |false=>intro hf;simp only [cond_false,Sum.inr.injEq]at hf;subst hf;simp [hI]
 ·obtain⟨y1,y3⟩:=a
  simp [dr,pa,pb,qg,sY,sZ,wo,wq,ws,wu,wv,ww,wx,uQ,uR,uS,uM,cZ,LT.out,mJ]
theorem aap: ∀ (ts:List TM) (i:Nat) (n:Int) (L:List Int),(∀ x∈ts,x.2.1.size≤9223372036854775807)→0≤n→n + ts.length≤9223372036854775000→
  match htT ts n with
  |some k=>(aC iy 1 ts i (n,L)).1=1∧(aC iy 1 ts i (n,L)).2.2.1=k
  |none=>(aC iy 1 ts i (n,L)).1=0
 | [],i,n,m,_,_,_=>⟨rfl,rfl⟩
 |t::r,i,n,m,hs,h0,h1=>by
  rw [List.length_cons]at h1
  have hw:=(aim n t.1 h0 (by omega)).1
  have ht:=LY t.1
  have hf:iy t (n,m)=(bif termB t.1 t.2.1 t.2.2&&leI (takesK t.1) n then .inr (n - takesK t.1 + 1,m++ [n - takesK t.1 + 1])else .inl 0):=by
   simp only [iy,(abJ t.1 t.2.1 t.2.2 (em (hs t (by simp)))).1,show lx t.1=takesK t.1 from rfl,hw,Pq]
   cases termB t.1 t.2.1 t.2.2 <;> cases leI (takesK t.1) n <;> rfl
  simp only [aC,hf,htT]
  cases hc:termB t.1 t.2.1 t.2.2&&leI (takesK t.1) n with
  |false=>rfl
  |true=>
   simp only [Bool.and_eq_true,Cj]at hc
   simp only [cond_true]
   exact aap r (i + 1) _ _ (fun x hx=>hs x (by simp [hx])) (by omega) (by omega)
theorem agG(ts:List TM)(h:Nx ts=true):HL ts=Zy ts∧HM ts=true:=by
 obtain⟨hn,hs⟩:=JR.1 h
 obtain⟨w1,w2⟩:=Vf ts 0 [] (by omega) hn hs rfl
 have hh:=aap ts 0 0 [] hs (by omega) (by omega)
 have HQ:leI (ts.length:Int) 40=leN ts.length 40:=by
  rw [Bool.eq_iff_iff,Cj,ij];omega
 simp only [HL,HM,KO,KP,DU,Jj,Jk,w1,w2,allT,Zy,HQ,cond_true,mJ]
 cases hq:htT ts 0 with
 |none=>
  rw [hq]at hh
  simp only at hh
  rw [hh];simp [Nat.beq]
 |some k=>
  rw [hq]at hh
  simp only at hh
  rw [hh.1,hh.2]
  dsimp only
  generalize (k==1)=q
  cases q <;> cases leN ts.length 40 <;> simp [Nat.beq]
theorem aiE(s:ByteArray)(ts:List TM)(h:Nx ts=true):PT s ts=lineB (s,ts)∧PU s ts=true:=by
 obtain⟨e1,e2⟩:=af5 ts h
 simp only [PT,PU,e1,e2,Pp,lineB,allT,Bool.or_true,cond_true]
 cases lN s <;> simp
def Nr:List SV→List Entry→Option Out
 | [.one ⟨false,[.ref 0]⟩],[.row false 178 (.pair (.int .i64) (.pair (.str) (.int .i64))) x0]=>some ⟨.one ⟨false,[.val (.bool (Zy x0))]⟩,[.row false 178 abW x0],[],[Nx x0]⟩
 |_,_=>none
def uk:PF prog:=PF.alt Wj Nr (by
 intro args es o h dh;unfold Nr at h;split at h
 ·rename_i x0
  cases h
  have dh:=qA dh
  have hh:=agG x0 dh
  obtain⟨e0,en⟩:=hh
  exact vG rfl (qB en) (by simp only [e0] <;> rfl) rfl rfl
 ·cases h)
def WF:List SV→List Entry→Option Out
 | [.one ⟨true,[.val (.string x0),.ref 0]⟩],[.row false 178 (.pair (.int .i64) (.pair (.str) (.int .i64))) x1]=>some ⟨.one ⟨false,[.val (.bool (lineB (x0,x1)))]⟩,[.row false 178 abW x1],[],[Nx x1]⟩
 |_,_=>none
def EA:PF prog:=PF.alt ad1 WF (by
 intro args es o h dh;unfold WF at h;split at h
 ·rename_i x0 x1
  cases h
  have dh:=qA dh
  have hh:=aiE x0 x1 dh
  obtain⟨e0,en⟩:=hh
  exact vG rfl (qB en) (by simp only [e0] <;> rfl) rfl rfl
 ·cases h)
theorem Lp.along2{X A B:Type}(p:Lp X)(st:Nat→A→X)(pr:X→A)(f:B→A→Nat ⊕ A)(e:Nat)(Inv:Nat→A→Prop)(xs:List B)(a:A)
  (h0:Inv 0 a) (hf:xs.length≤100000000000)
  (hs: ∀ i b a,xs[i]? =some b→Inv i a→(p.lt (st i a)).nds=true∧(p.lt (st i a)).each (fun y=>y=st (i + 1) (pr y))∧(p.lt (st i a)).fn pr=f b a∧ ∀ a',f b a= .inr a'→Inv (i + 1) a')
  (he: ∀ a,Inv xs.length a→(p.lt (st xs.length a)).out=some (.inl e)):
  p.fin (st 0 a)=true∧p.res (st 0 a)=((aC f e xs 0 a).1,st (aC f e xs 0 a).2.1 (aC f e xs 0 a).2.2):=by
 have hs': ∀ i b a,xs[i]? =some b→Inv i a→(p.lt (st i a)).out=some (match f b a with | .inl j=> .inl j | .inr a'=> .inr (st (i + 1) a'))∧ ∀ a',f b a= .inr a'→Inv (i + 1) a':=by
  intro i b a hb hI
  obtain⟨h1,h2,h3,h4⟩:=hs i b a hb hI
  refine⟨?_,h4⟩
  rw [LT.out_of h1 h2,h3]
  cases f b a <;> rfl
 refine p.run (aba st f e Inv xs hs' he xs 0 a rfl (by omega) h0) ?_
 rw [aiY]
 have:1000 ^ 4≤(p.fuel (st 0 a) + 1000) ^ 4:=Nat.pow_le_pow_left (by omega) 4
 omega
def acD(a:List TM)(b:TM):List TM:=bif leI 7 b.1 then a++ [b]else a
theorem acR: ∀ (ts acc:List TM),ts.foldl acD acc=acc++blT ts
 | [],acc=>by simp [blT]
 |t::r,acc=>by
  rw [List.foldl_cons,acR r]
  simp only [acD,blT,List.filter_cons]
  cases leI 7 t.1 <;> simp
theorem aek: ∀ (ls:List LN) (acc:List TM),ls.foldl (fun a l=>a++blT l.2) acc=acc++blL ls
 | [],acc=>by simp [blL]
 |l::r,acc=>by
  rw [List.foldl_cons,aek r]
  simp [blL]
theorem aeT(ts:List TM):(blT ts).length≤ts.length:=List.length_filter_le _ _
theorem afJ(a:List TM)(b:TM):(acD a b).length≤a.length + 1:=by
 simp only [acD];cases leI 7 b.1 <;> simp
def bo(b:Int×(ByteArray×Int)):(List (Int×(ByteArray×Int)))→Nat ⊕ (List (Int×(ByteArray×Int)))
 |y3=>(bif(leI (7:Int) b.1)then(.inr (y3++([(b.1,b.2.1,b.2.2)])))else(.inr y3))
def bN(y2:List (Int×(ByteArray×Int)))(i:Nat):(List (Int×(ByteArray×Int)))→aM
 |y3=>((i:Int),(↑y2.length:Int),y2,y3)
def lv:aM→List (Int×(ByteArray×Int))
 |(_,_,_,y3)=>y3
theorem BJ(y2 y3:List (Int×(ByteArray×Int)))(hn:y2.length≤9223372036854775807)(hc:y3.length + y2.length≤4000000000000):
  ae.fin ((0:Int),(↑y2.length:Int),y2,y3)=true∧ae.res ((0:Int),(↑y2.length:Int),y2,y3)=((aC (bo) 0 y2 0 y3).1,(bN y2) (aC (bo) 0 y2 0 y3).2.1 (aC (bo) 0 y2 0 y3).2.2):=by
 have kw:=ae.along (bN y2) lv (bo) 0 (fun i a=>a.length≤y3.length + i) y2 y3 (Nat.le_refl _) (by simp only [ae,bN];omega) (fun i b a hb hI=> ?_) (fun a hI=> ?_)
 ·exact kw
 ·obtain y3:=a
  have fy:=(List.getElem?_eq_some_iff.1 hb).1
  have jx: ∀ d,Option.getD y2[i]? d=b:=fun d=>by rw [hb];rfl
  have hw:=uF fy hn
  have cM:ltI (i:Int) (y2.length:Int)=true:=gg (by omega)
  have xj:leI (0:Int) (i:Int)=true:=cW (by omega)
  have jC:ltN i y2.length=true:=iF fy
  refine⟨?_,?_,?_,?_⟩
  ·have hg2:aK (i:Int) y2=b:=by simp only [aK,Int.toNat_natCast];exact jx _
   have h8: ∀ z:TM,leN (a.length + List.length [z]) 9223372036854775807=true:=fun z=>em (by rw [List.length_singleton];omega)
   have h9: ∀ z:TM,leN ((a.length + List.length [z]) * 32) 140737488355328=true:=fun z=>em (by rw [List.length_singleton];omega)
   simp only [dM,dN,dO,dP,dQ,dR,dS,cP,dU,dy,ae,bH,bI,LT.nds,allT,bN,cM,xj,jC,hg2,h8,h9,Int.toNat_natCast,cond_true,Bool.or_true]
   cases leI 7 b.1 <;> simp [LT.nds]
  ·simp [aK,bH,bI,dM,dN,dO,dP,dQ,dR,dS,cP,dU,dy,ae,LT.each,bN,lv,hw]
  ·have hg2:aK (i:Int) y2=b:=by simp only [aK,Int.toNat_natCast];exact jx _
   simp only [dM,dN,dO,dP,dQ,dR,dS,cP,dU,dy,ae,bH,bI,LT.fn,bN,lv,bo,Int.toNat_natCast,cM,hg2,cond_true]
  ·intro a' hf
   have hf2:bo b a= .inr (acD a b):=by
    simp only [bo,acD];cases leI 7 b.1 <;> rfl
   rw [hf2]at hf
   simp only [Sum.inr.injEq]at hf
   subst hf
   have:=afJ a b
   omega
 ·obtain y3:=a
  simp [aK,bH,bI,dM,dN,dO,dP,dQ,dR,dS,cP,dU,dy,ae,LT.out,bN]
theorem XV(ts acc:List TM)(hn:ts.length≤9223372036854775807)(hc:acc.length + ts.length≤4000000000000):
  ae.fin ((0:Int),(ts.length:Int),ts,acc)=true∧(ae.res ((0:Int),(ts.length:Int),ts,acc)).2.2.2.2=acc++blT ts:=by
 obtain⟨w1,w2⟩:=BJ ts acc hn hc
 rw [GG (g:=acD) (fun b a=>by simp only [bo,acD];cases leI 7 b.1 <;> rfl)]at w2
 exact⟨w1,by rw [w2];exact acR ts acc⟩
def bA(b:ByteArray×(List (Int×(ByteArray×Int)))):(List (Int×(ByteArray×Int)))→Nat ⊕ (List (Int×(ByteArray×Int)))
 |y3=>(.inr ((Lp.res ae ((0:Int),(↑(List.length b.2):Int),b.2,y3)).2.2.2.2))
def bu(y2:List (ByteArray×(List (Int×(ByteArray×Int)))))(i:Nat):(List (Int×(ByteArray×Int)))→aQ
 |y3=>((i:Int),(↑y2.length:Int),y2,y3)
def mF:aQ→List (Int×(ByteArray×Int))
 |(_,_,_,y3)=>y3
theorem Dh(y2:List (ByteArray×(List (Int×(ByteArray×Int)))))(y3:List (Int×(ByteArray×Int)))(hn:y2.length≤9223372036854775807)(hN:y2.length≤1048576)(hL: ∀ l∈y2,l.2.length≤1048576)(h3:y3.length=0):
  aq.fin ((0:Int),(↑y2.length:Int),y2,y3)=true∧aq.res ((0:Int),(↑y2.length:Int),y2,y3)=((aC (bA) 0 y2 0 y3).1,(bu y2) (aC (bA) 0 y2 0 y3).2.1 (aC (bA) 0 y2 0 y3).2.2):=by
 have kw:=aq.along (bu y2) mF (bA) 0 (fun i a=>a.length≤i * 1048576) y2 y3 (by omega) (by simp only [aq,bu];omega) (fun i b a hb hI=> ?_) (fun a hI=> ?_)
 ·exact kw
 ·obtain y3:=a
  have fy:=(List.getElem?_eq_some_iff.1 hb).1
  have jx: ∀ d,Option.getD y2[i]? d=b:=fun d=>by rw [hb];rfl
  have hw:=uF fy hn
  have cM:ltI (i:Int) (y2.length:Int)=true:=gg (by omega)
  have xj:leI (0:Int) (i:Int)=true:=cW (by omega)
  have jC:ltN i y2.length=true:=iF fy
  refine⟨?_,?_,?_,?_⟩
  ·have hg2:bt (i:Int) y2=b.2:=by simp only [bt,Int.toNat_natCast];exact congrArg Prod.snd (jx _)
   have hbl:=hL b (List.mem_of_getElem? hb)
   have h4:eM (i:Int) y2 a=true:=by
    simp only [eM,db,hg2]
    exact(XV b.2 a (by omega) (by omega)).1
   simp only [aq,eD,eL,iI,iJ,iK,LT.nds,allT,bu,cM,xj,jC,h4,Int.toNat_natCast,cond_true,Bool.and_self]
  ·simp [bt,db,eL,iI,iJ,iK,eM,mU,iL,eD,aq,LT.each,bu,mF,hw]
  ·have hg2:bt (i:Int) y2=b.2:=by simp only [bt,Int.toNat_natCast];exact congrArg Prod.snd (jx _)
   simp only [aq,eD,eL,iL,db,LT.fn,bu,mF,bA,cM,hg2,cond_true]
  ·intro a' hf
   have hbl:=hL b (List.mem_of_getElem? hb)
   have h5:=aeT b.2
   simp only [bA,Sum.inr.injEq,(XV b.2 a (by omega) (by omega)).2]at hf
   subst hf
   rw [List.length_append]
   omega
 ·obtain y3:=a
  simp [bt,db,eL,iI,iJ,iK,eM,mU,iL,eD,aq,LT.out,bu]
theorem ah8{f:LN→List TM→Nat ⊕ List TM}{e:Nat}: ∀ (ls:List LN) (i:Nat) (acc:List TM) (c:Nat),(∀ l∈ls,∀ a:List TM,a.length≤c + (ls.length * 1048576)→f l a= .inr (a++blT l.2))→(∀ l∈ls,l.2.length≤1048576)→acc.length≤c→
  aC f e ls i acc=(e,i + ls.length,acc++blL ls)
 | [],i,acc,c,_,_,_=>by simp [aC,blL]
 |l::r,i,acc,c,hf,hL,hc=>by
  have h5:=aeT l.2
  have h6:=hL l (by simp)
  simp only [aC,hf l (by simp) acc (by omega)]
  rw [ah8 r (i + 1) (acc++blT l.2) (c + 1048576) (fun x hx a ha=>hf x (by simp [hx]) a (by rw [List.length_cons];omega)) (fun x hx=>hL x (by simp [hx])) (by rw [List.length_append];omega)]
  simp [blL];omega
theorem af3(ls:List LN)(h:Sz ls=true):ol ls=blL ls∧om ls=true:=by
 obtain⟨hn,hA⟩:=JK.1 h
 have hL: ∀ l∈ls,l.2.length≤1048576:=fun l hl=>(JR.1 (hA l hl).2).1
 obtain⟨w1,w2⟩:=Dh ls [] (by omega) hn hL rfl
 have hw:=ah8 (f:=bA) (e:=0) ls 0 [] 0 (fun l hl a ha=>by
  have:=hL l hl
  simp only [bA,(XV l.2 a (by omega) (by omega)).2]) hL (by simp)
 rw [hw]at w2
 simp only [ol,om,nX,w1,w2,allT,bu]
 simp
theorem agZ(k:Nat)(u v:ByteArray)(acc:List TM)(p q r:List ByteArray)(ls:List LN)(l:LN)(hl:ls[k]? =some l)(hn:l.2.length≤1048576)(hc:acc.length + l.2.length≤4000000000000):
  dC.fin ((0:Int),(k:Int),u,v,acc,p,q,r,ls)=true∧dC.res ((0:Int),(k:Int),u,v,acc,p,q,r,ls)=(0,((l.2.length:Int),(k:Int),u,v,acc++blT l.2,p,q,r,ls)):=by
 have hkl:=(List.getElem?_eq_some_iff.1 hl).1
 have hgl: ∀ d,Option.getD ls[k]? d=l:=fun d=>by rw [hl];rfl
 have ha2:pG (k:Int) ls=l.2:=by simp only [pG,Int.toNat_natCast];exact congrArg Prod.snd (hgl _)
 have ha0:De (k:Int) ls=true:=gg (by omega)
 have ha1:xf (k:Int) ls=true:=by simp only [xf,Int.toNat_natCast];exact iF hkl
 have hk0:leI 0 (k:Int)=true:=cW (by omega)
 have kw:=dC.along2 (fun i (a:List TM)=>((i:Int),(k:Int),u,v,a,p,q,r,ls)) (fun x=>x.2.2.2.2.1) (fun(b:TM) a=> .inr (acD a b)) 0 (fun i a=>a.length≤acc.length + i) l.2 acc (by omega)
  (by omega) (fun i b a hb hI=> ?_) (fun a hI=> ?_)
 ·rw [GG (g:=acD) (fun b a=>rfl),acR]at kw
  simpa using kw
 ·have fy:=(List.getElem?_eq_some_iff.1 hb).1
  have hw:IntKind.i64.wrap ((i:Int) + 1)=((i + 1:Nat):Int):=by rw [cg (by omega) (by omega)];omega
  have cM:ltI (i:Int) (l.2.length:Int)=true:=gg (by omega)
  have xj:leI (0:Int) (i:Int)=true:=cW (by omega)
  have jC:ltN i l.2.length=true:=iF fy
  have hg2:pI (i:Int) (k:Int) ls=b:=by simp only [pI,ha2,Int.toNat_natCast,hb,Option.getD_some]
  have hg3:pH (i:Int) (k:Int) ls=true:=by simp only [pH,ha2,cM]
  have h8: ∀ z:TM,leN (a.length + List.length [z]) 9223372036854775807=true:=fun z=>em (by rw [List.length_singleton];omega)
  have h9: ∀ z:TM,leN ((a.length + List.length [z]) * 32) 140737488355328=true:=fun z=>em (by rw [List.length_singleton];omega)
  refine⟨?_,?_,?_,?_⟩
  ·simp only [qW,qX,qY,qZ,tW,tX,tY,tZ,ua,ub,ta,tb,tc,td,te,pF,tf,sR,dC,dH,pJ,LT.nds,allT,ha0,ha1,ha2,hk0,hg2,hg3,cM,xj,jC,h8,h9,Int.toNat_natCast,cond_true,Bool.or_true]
   cases leI 7 b.1 <;> simp [LT.nds]
  ·simp only [qW,qX,qY,qZ,tW,tX,tY,tZ,ua,ub,ta,tb,tc,td,te,pF,tf,sR,dC,dH,pJ,LT.each,hw,hg2,hg3]
   cases leI 7 b.1 <;> simp [LT.each]
  ·simp only [qW,qX,qY,qZ,tW,tX,tY,tZ,ua,ub,ta,tb,tc,td,te,pF,tf,sR,dC,dH,pJ,LT.fn,hg2,hg3,cond_true,acD]
   cases leI 7 b.1 <;> rfl
  ·intro a' hf
   simp only [Sum.inr.injEq]at hf
   subst hf
   have:=afJ a b
   omega
 ·have cM:pH (l.2.length:Int) (k:Int) ls=false:=by simp only [pH,ha2];exact SA (by omega)
  simp [qW,qX,qY,qZ,tW,tX,tY,tZ,ua,ub,ta,tb,tc,td,te,pF,tf,sR,dC,LT.out,allT,ha0,ha1,hk0,cM]
theorem agE(u v:ByteArray)(p q r:List ByteArray)(ls:List LN)(h:Sz ls=true):LU u v p q r ls=blL ls∧LV u v p q r ls=true:=by
 obtain⟨hn,hA⟩:=JK.1 h
 have hL: ∀ l∈ls,l.2.length≤1048576:=fun l hl=>(JR.1 (hA l hl).2).1
 have kw:=iz.along (fun i (a:List TM)=>((i:Int),u,v,a,p,q,r,ls)) (fun x=>x.2.2.2.1) (fun(b:LN) a=> .inr (a++blT b.2)) 0 (fun i a=>a.length≤i * 1048576) ls [] (by simp)
  (by simp only [iz];omega) (fun i b a hb hI=> ?_) (fun a hI=> ?_)
 ·rw [GG (g:=fun a (l:LN)=>a++blT l.2) (fun b a=>rfl),aek]at kw
  simp only [LU,LV,KR,allT]
  simp only [List.nil_append,Nat.zero_add]at kw
  have e0:((0:Nat):Int)=0:=rfl
  rw [e0]at kw
  rw [kw.1,kw.2]
  exact⟨rfl,rfl⟩
 ·have fy:=(List.getElem?_eq_some_iff.1 hb).1
  have hbl:=hL b (List.mem_of_getElem? hb)
  have hw:IntKind.i64.wrap ((i:Int) + 1)=((i + 1:Nat):Int):=by rw [cg (by omega) (by omega)];omega
  have cM:ltI (i:Int) (ls.length:Int)=true:=gg (by omega)
  obtain⟨k1,k2⟩:=agZ i u v a p q r ls b hb hbl (by omega)
  refine⟨?_,?_,?_,?_⟩
  ·simp [xX,xY,xZ,ya,vX,iz,wy,LT.nds,allT,cM,k1]
  ·simp [xX,xY,xZ,ya,vX,iz,wy,LT.each,cM,hw,k2]
  ·simp [xX,xY,xZ,ya,vX,iz,wy,LT.fn,cM,k2]
  ·intro a' hf
   simp only [Sum.inr.injEq]at hf
   subst hf
   have:=aeT b.2
   rw [List.length_append];omega
 ·have cM:ltI (ls.length:Int) (ls.length:Int)=false:=SA (by omega)
  simp [xX,xY,xZ,ya,vX,iz,LT.out,cM]
def uw:List SV→List Entry→Option Out
 | [.one ⟨true,[.val (.string _x0),.ref 0,.ref 1,.ref 2,.val (.string _x1),.ref 3]⟩],[.row false 9 (.str) x2,.row false 9 (.str) x3,.row false 9 (.str) x4,.row false 204 (.pair (.str) (.sl 178 (.pair (.int .i64) (.pair (.str) (.int .i64))))) x5]=>some ⟨.one ⟨false,[.ref 4]⟩,[.row false 9 aen x2,.row false 9 aen x3,.row false 9 aen x4,.row false 204 (CTy.pair CTy.str (CTy.sl (178:TypeId) abW)) x5],[.row true 178 abW (blL x5)],[Sz x5]⟩
 |_,_=>none
def ot:PF prog:=PF.alt Ep uw (by
 intro args es o h dh;unfold uw at h;split at h
 ·rename_i _x0 _x1 x2 x3 x4 x5
  cases h
  have dh:=qA dh
  have hh:=af3 x5 dh
  obtain⟨e0,en⟩:=hh
  exact vG rfl (qB en) rfl rfl (by simp only [e0] <;> rfl)
 ·cases h)
def QE:List SV→List Entry→Option Out
 | [.one ⟨true,[.val (.string x0),.ref 0,.ref 1,.ref 2,.val (.string x1),.ref 3]⟩],[.row false 9 (.str) x2,.row false 9 (.str) x3,.row false 9 (.str) x4,.row false 204 (.pair (.str) (.sl 178 (.pair (.int .i64) (.pair (.str) (.int .i64))))) x5]=>some ⟨.one ⟨false,[.ref 4]⟩,[.row false 9 aen x2,.row false 9 aen x3,.row false 9 aen x4,.row false 204 (CTy.pair CTy.str (CTy.sl (178:TypeId) abW)) x5],[.row true 178 abW (blL x5)],[Sz x5]⟩
 |_,_=>none
def yx:PF prog:=PF.alt aa4 QE (by
 intro args es o h dh;unfold QE at h;split at h
 ·rename_i x0 x1 x2 x3 x4 x5
  cases h
  have dh:=qA dh
  have hh:=agE x0 x1 x2 x3 x4 x5 dh
  obtain⟨e0,en⟩:=hh
  exact vG rfl (qB en) rfl rfl (by simp only [e0] <;> rfl)
 ·cases h)
theorem ajK(n:Int)(h0:0≤n)(h1:n≤100000000):rC n= []∧rD n=true:=by
 have w0:IntKind.i64.wrap ((↑(0:Nat):Int) - (↑(0:Nat):Int))=0:=rfl
 have e0:aY n=n:=by simp only [aY,w0];rw [cg (by omega) (by omega)];omega
 refine⟨?_,?_⟩
 ·simp only [rC,e0];cases ltI 0 n <;> rfl
 ·have t0:ltI n 0=false:=SA h0
  have t1:leI (0:Int) (0:Int)=true:=rfl
  have t2:leI (↑(0:Nat):Int) (0:Int)=true:=rfl
  have t3:leI (0:Int) (↑(0:Nat):Int)=true:=rfl
  have t4:leI n 9223372036854775807=true:=cW (by omega)
  have t5:leI (n * (↑(16:Nat):Int)) 281474976710656=true:=cW (by omega)
  have t6: ∀ m:Nat,leI (↑(0:Nat):Int) (m:Int)=true:=fun m=>cW (by omega)
  have t7:(!ltI 0 n||leI 1 n)=true:=by
   cases h:ltI 0 n with
   |false=>rfl
   |true=>have:=acl.1 h;rw [cW (by omega)];rfl
  simp only [rD,vn,e0,t0,t1,t2,t3,t4,t5,t6,t7,allT,Bool.or_true,Bool.not_false,cond_true]
def Et(l:List (List ByteArray)):Nat:=(l.map List.length).sum
theorem abQ(a b:List (List ByteArray)):Et (a++b)=Et a + Et b:=by simp [Et]
theorem Vu{l:List (List ByteArray)}{i:Nat}{b:List ByteArray}(hb:l[i]? =some b):Et (l.take (i + 1))=Et (l.take i) + b.length∧Et (l.take (i + 1))≤Et l:=by
 obtain⟨hi,rfl⟩:=List.getElem?_eq_some_iff.1 hb
 refine⟨?_,?_⟩
 ·rw [List.take_succ_eq_append_getElem hi,abQ];simp [Et]
 ·have h5:=abQ (l.take (i + 1)) (l.drop (i + 1))
  rw [List.take_append_drop]at h5
  omega
def cu(b:List ByteArray):(Int)→Nat ⊕ (Int)
 |y2=>(.inr (IntKind.wrap .i64 (y2 + (↑(List.length b):Int))))
def dw(y3:List (List ByteArray))(i:Nat):(Int)→cq
 |y2=>((i:Int),(↑y3.length:Int),y2,y3)
def tn:cq→Int
 |(_,_,y2,_)=>y2
theorem Lh(y3:List (List ByteArray))(y2:Int)(hn:y3.length≤9223372036854775807)(h0:y2=0)(hS:Et y3≤2000000):
  be.fin ((0:Int),(↑y3.length:Int),y2,y3)=true∧be.res ((0:Int),(↑y3.length:Int),y2,y3)=((aC (cu) 0 y3 0 y2).1,(dw y3) (aC (cu) 0 y3 0 y2).2.1 (aC (cu) 0 y3 0 y2).2.2):=by
 have kw:=be.along (dw y3) tn (cu) 0 (fun i a=>a=(Et (y3.take i):Int)) y3 y2 (by rw [h0];simp [Et]) (by simp only [be,dw];omega) (fun i b a hb hI=> ?_) (fun a hI=> ?_)
 ·exact kw
 ·obtain y2:=a
  have fy:=(List.getElem?_eq_some_iff.1 hb).1
  have jx: ∀ d,Option.getD y3[i]? d=b:=fun d=>by rw [hb];rfl
  have hw:=uF fy hn
  have cM:ltI (i:Int) (y3.length:Int)=true:=gg (by omega)
  have xj:leI (0:Int) (i:Int)=true:=cW (by omega)
  have jC:ltN i y3.length=true:=iF fy
  refine⟨?_,?_,?_,?_⟩
  ·have hg2:eT (i:Int) a y3=(Et (y3.take (i + 1)):Int):=by
    have h3:=Vu hb
    simp only [eT,Int.toNat_natCast]
    refine(congrArg (fun z:List ByteArray=>IntKind.i64.wrap (a + (z.length:Int))) (jx _)).trans ?_
    show IntKind.i64.wrap (a + (b.length:Int))=_
    rw [hI,cg (by omega) (by omega)];omega
   have h6:ltI (Et (y3.take (i + 1)):Int) 0=false:=SA (by omega)
   simp only [be,kX,lD,pe,pf,pg,ph,LT.nds,allT,dw,cM,xj,jC,hg2,h6,Int.toNat_natCast,cond_true,Bool.and_self,Bool.not_false]
  ·simp [eT,lD,pe,pf,pg,ph,tU,pj,kX,be,LT.each,dw,tn,hw]
  ·simp only [be,kX,lD,pj,eT,LT.fn,dw,tn,cu,cM,Int.toNat_natCast,cond_true]
   exact congrArg (fun z:List ByteArray=>(Sum.inr (IntKind.i64.wrap (a + (z.length:Int))):Nat ⊕ Int)) (jx _)
  ·intro a' hf
   have h3:=Vu hb
   simp only [cu,Sum.inr.injEq]at hf
   rw [← hf,hI,cg (by omega) (by omega)];omega
 ·obtain y2:=a
  simp [eT,lD,pe,pf,pg,ph,tU,pj,kX,be,LT.out,dw]
def fB(b:List ByteArray):(List ByteArray)→Nat ⊕ (List ByteArray)
 |y3=>(.inr (y3++(b)))
def dx(y2:List (List ByteArray))(i:Nat):(List ByteArray)→ct
 |y3=>((i:Int),(↑y2.length:Int),y2,y3)
def tp:ct→List ByteArray
 |(_,_,_,y3)=>y3
theorem Li(y2:List (List ByteArray))(y3:List ByteArray)(hn:y2.length≤9223372036854775807)(hS:Et y2≤2000000)(h3:y3= []):
  bf.fin ((0:Int),(↑y2.length:Int),y2,y3)=true∧bf.res ((0:Int),(↑y2.length:Int),y2,y3)=((aC (fB) 0 y2 0 y3).1,(dx y2) (aC (fB) 0 y2 0 y3).2.1 (aC (fB) 0 y2 0 y3).2.2):=by
 have kw:=bf.along (dx y2) tp (fB) 0 (fun i a=>a.length=Et (y2.take i)) y2 y3 (by rw [h3];simp [Et]) (by simp only [bf,dx];omega) (fun i b a hb hI=> ?_) (fun a hI=> ?_)
 ·exact kw
 ·obtain y3:=a
  have fy:=(List.getElem?_eq_some_iff.1 hb).1
  have jx: ∀ d,Option.getD y2[i]? d=b:=fun d=>by rw [hb];rfl
  have hw:=uF fy hn
  have cM:ltI (i:Int) (y2.length:Int)=true:=gg (by omega)
  have xj:leI (0:Int) (i:Int)=true:=cW (by omega)
  have jC:ltN i y2.length=true:=iF fy
  refine⟨?_,?_,?_,?_⟩
  ·have hg2:cR (i:Int) y2=b:=by simp only [cR,Int.toNat_natCast];exact jx _
   have h3:=Vu hb
   have h6:leN (a.length + b.length) 9223372036854775807=true:=em (by omega)
   have h7:leN ((a.length + b.length) * 16) 140737488355328=true:=em (by omega)
   simp only [bf,kY,lE,pk,po,pp,pq,pt,LT.nds,allT,dx,cM,xj,jC,hg2,h6,h7,Int.toNat_natCast,cond_true,Bool.and_self]
  ·simp [cR,lE,pk,po,pp,pq,pt,tV,pu,kY,bf,LT.each,dx,tp,hw]
  ·have hg2:cR (i:Int) y2=b:=by simp only [cR,Int.toNat_natCast];exact jx _
   simp only [bf,kY,lE,pu,LT.fn,dx,tp,fB,cM,hg2,cond_true]
  ·intro a' hf
   have h3:=Vu hb
   simp only [fB,Sum.inr.injEq]at hf
   rw [← hf,List.length_append];omega
 ·obtain y3:=a
  simp [cR,lE,pk,po,pp,pq,pt,tV,pu,kY,bf,LT.out,dx]
theorem afV: ∀ (l:List (List ByteArray)) (acc:List ByteArray),l.foldl (fun a b=>a++b) acc=acc++l.flatten
 | [],acc=>by simp
 |a::r,acc=>by rw [List.foldl_cons,afV r];simp
theorem akl(l:List (List ByteArray))(h:(leN l.length 1000&&leN (Et l) 2000000)=true):wd l=l.flatten∧we l=true:=by
 simp only [Bool.and_eq_true,ij]at h
 obtain⟨w1,w2⟩:=Lh l 0 (by omega) rfl h.2
 have hw:(aC cu 0 l 0 (0:Int)).2.2=(Et l:Int):=by
  have hg: ∀ (r:List (List ByteArray)) (i:Nat) (a:Int),0≤a→a + Et r≤2000000→(aC cu 0 r i a).2.2=a + Et r:=by
   intro r
   induction r with
   |nil=>intro i a _ _;simp [aC,Et]
   |cons x r ih=>
    intro i a h0 h1
    have h3:Et (x::r)=x.length + Et r:=by simp [Et]
    have hf:cu x a= .inr (a + (x.length:Int)):=by
     simp only [cu]
     rw [cg (by omega) (by omega)]
    simp only [aC,hf]
    rw [ih (i + 1) (a + (x.length:Int)) (by omega) (by omega),h3]
    omega
  have:=hg l 0 0 (by omega) (by omega)
  omega
 have ha1:qK l=(Et l:Int):=by
  simp only [qK,qJ,w2,dw]
  exact hw
 obtain⟨g1,g2⟩:=ajK (Et l:Int) (by omega) (by omega)
 obtain⟨v1,v2⟩:=Li l [] (by omega) h.2 rfl
 rw [GG (f:=fB) (g:=fun a b=>a++b) (fun b a=>rfl),afV]at v2
 refine⟨?_,?_⟩
 ·simp only [wd,qL,ha1,g1,v2,dx,List.nil_append]
 ·simp only [we,qL,ha1,g1,g2,v1,qJ,w1,allT,cond_true]
def Dy:List SV→List Entry→Option Out
 | [.one ⟨false,[.ref 0]⟩],[.row false 60 (.sl 9 (.str)) x0]=>some ⟨.one ⟨false,[.ref 1]⟩,[.row false 60 (CTy.sl (9:TypeId) CTy.str) x0],[.row true 9 aen (x0.flatten)],[leN x0.length 1000&&leN (Et x0) 2000000]⟩
 |_,_=>none
def bY:PF prog:=PF.alt Mu Dy (by
 intro args es o h dh;unfold Dy at h;split at h
 ·rename_i x0
  cases h
  have dh:=qA dh
  have hh:=akl x0 dh
  obtain⟨e0,en⟩:=hh
  exact vG rfl (qB en) rfl rfl (by simp only [e0] <;> rfl)
 ·cases h)
def adK:List ByteArray→Nat
 | []=>0
 |s::r=>s.size + adK r
def ahU(k:Int)(s:ByteArray):Int:=IntKind.i64.wrap (k - (s.size:Int))
def abM:Int→List ByteArray→Int
 |k,[]=>k
 |k,s::r=>bif ltI (ahU k s) 0 then -1 else abM (ahU k s) r
def Ic(k:Int)(ts:List ByteArray):Int:=bif ltI (k - ts.length) 0 then -1 else abM (k - ts.length) ts
def oM(b:ByteArray):(Int)→Nat ⊕ (Int)
 |y1=>(bif(ltI (IntKind.wrap .i64 (y1 - (↑(ByteArray.size b):Int))) (0:Int))then(.inl 0)else(.inr (IntKind.wrap .i64 (y1 - (↑(ByteArray.size b):Int)))))
def nP(y2:List ByteArray)(i:Nat):(Int)→kR
 |y1=>((i:Int),y1,y2)
def Gq:kR→Int
 |(_,y1,_)=>y1
theorem Wl(y2:List ByteArray)(y1:Int)(hn:y2.length≤9223372036854775807):
  dj.fin ((0:Int),y1,y2)=true∧dj.res ((0:Int),y1,y2)=((aC (oM) 1 y2 0 y1).1,(nP y2) (aC (oM) 1 y2 0 y1).2.1 (aC (oM) 1 y2 0 y1).2.2):=by
 have kw:=dj.along (nP y2) Gq (oM) 1 (fun _ _=>True) y2 y1 (by trivial) (by simp only [dj,nP];omega) (fun i b a hb hI=> ?_) (fun a hI=> ?_)
 ·exact kw
 ·obtain y1:=a
  have fy:=(List.getElem?_eq_some_iff.1 hb).1
  have jx: ∀ d,Option.getD y2[i]? d=b:=fun d=>by rw [hb];rfl
  have hw:=uF fy hn
  have cM:ltI (i:Int) (y2.length:Int)=true:=gg (by omega)
  have xj:leI (0:Int) (i:Int)=true:=cW (by omega)
  have jC:ltN i y2.length=true:=iF fy
  refine⟨?_,?_,?_,?_⟩
  ·simp [sL,uh,xB,xC,xD,rh,xE,xF,vU,dj,LT.nds,allT,nP,cM,xj,jC,jx]
  ·simp [sL,uh,xB,xC,xD,rh,xE,xF,vU,dj,LT.each,nP,Gq,hw]
  ·simp only [sL,uh,xB,xC,xD,rh,xE,xF,vU,dj,LT.fn,nP,Gq,oM,Int.toNat_natCast,cM,xj,jC,jx,cond_true,Bool.cond_self]
  ·exact fun _ _=>trivial
 ·obtain y1:=a
  simp [sL,uh,xB,xC,xD,rh,xE,xF,vU,dj,LT.out,nP]
theorem agO: ∀ (r:List ByteArray) (i:Nat) (k:Int),(bif Nat.beq (aC oM 1 r i k).1 0 then -1 else(aC oM 1 r i k).2.2)=abM k r
 | [],i,k=>rfl
 |t::r,i,k=>by
  have hf:oM t k=bif ltI (ahU k t) 0 then .inl 0 else .inr (ahU k t):=rfl
  simp only [aC,hf,abM]
  cases h:ltI (ahU k t) 0 with
  |true=>rfl
  |false=>simp only [cond_false];exact agO r (i + 1) _
theorem akB(k:Int)(xs:List ByteArray)(h:(leN xs.length 9223372036854775807&&(leI (-1) k&&leI k 1048576))=true):Ly k xs=Ic k xs∧Lz k xs=true:=by
 simp only [Bool.and_eq_true,ij,Cj]at h
 have hw:IntKind.i64.wrap (k - (xs.length:Int))=k - (xs.length:Int):=cg (by omega) (by omega)
 obtain⟨w1,w2⟩:=Wl xs (k - (xs.length:Int)) h.1
 have hs:=agO xs 0 (k - (xs.length:Int))
 have e:rh= -1:=rfl
 simp only [Ly,Lz,Fl,Fm,hw,w1,w2,nP,allT,Bool.or_true,cond_true,Ic,e,hs,and_self]
theorem abN: ∀ (r:List ByteArray) (k:Int),(∀ t∈r,t.size≤9223372036854775807)→0≤k→k≤1048576→ltI (abM k r) 0=false→abM k r=k - adK r∧(adK r:Int)≤k
 | [],k,_,h0,h1,_=>by simp [abM,adK];omega
 |t::r,k,hs,h0,h1,h=>by
  have hz:=hs t (by simp)
  have ht:ahU k t=k - (t.size:Int):=by rw [ahU];exact cg (by omega) (by omega)
  simp only [abM]at h ⊢
  rw [ht]at h ⊢
  cases h2:ltI (k - (t.size:Int)) 0 with
  |true=>rw [h2]at h;exact absurd (show ltI (-1) 0=false from h) (by decide)
  |false=>
   have h3:=wZ.1 h2
   rw [h2,cond_false]at h
   obtain⟨q1,q2⟩:=abN r _ (fun t ht=>hs t (by simp [ht])) h3 (by omega) h
   rw [cond_false,q1]
   simp only [adK]
   omega
theorem YW{k:Int}{xs:List ByteArray}(hs: ∀ t∈xs,t.size≤9223372036854775807)(hk:k≤1048576)(h:ltI (Ic k xs) 0=false):Ic k xs=k - xs.length - adK xs∧(xs.length:Int) + adK xs≤k:=by
 simp only [Ic]at h ⊢
 cases h2:ltI (k - (xs.length:Int)) 0 with
 |true=>rw [h2]at h;simp at h
 |false=>
  have h3:=wZ.1 h2
  rw [h2,cond_false]at h
  obtain⟨q1,q2⟩:=abN xs _ hs h3 (by omega) h
  rw [cond_false,q1]
  omega
def QC:List SV→List Entry→Option Out
 | [.one ⟨false,[.ref 0]⟩,.one ⟨false,[.val (.int .i64 x0)]⟩],[.row false 9 (.str) x1]=>some ⟨.one ⟨false,[.val (.int .i64 (Ic x0 x1))]⟩,[.row false 9 aen x1],[],[leN x1.length 9223372036854775807&&(leI (-1) x0&&leI x0 1048576)]⟩
 |_,_=>none
def LD:PF prog:=PF.alt aa1 QC (by
 intro args es o h dh;unfold QC at h;split at h
 ·rename_i x0 x1
  cases h
  have dh:=qA dh
  have hh:=akB x0 x1 dh
  obtain⟨e0,en⟩:=hh
  exact vG rfl (qB en) (by simp only [e0] <;> rfl) rfl rfl
 ·cases h)
def Zx(xs ys:List ByteArray):Bool:=decide (xs=ys)
theorem aiw(xs:List ByteArray):Zx xs xs=true:=by simp [Zx]
def re(y1:List ByteArray)(b:Nat):(List ByteArray)→Nat ⊕ (List ByteArray)
 |y2=>(.inr (List.set y2 b (Option.getD y1[b]? ByteArray.empty)))
def nQ(y1:List ByteArray)(i:Nat):(List ByteArray)→kS
 |y2=>((i:Int),y1,y2)
def Gr:kS→List ByteArray
 |(_,_,y2)=>y2
theorem Wm(y1 y2:List ByteArray)(hn:y1.length≤9223372036854775807)(hl:y2.length=y1.length):
  eP.fin ((0:Int),y1,y2)=true∧eP.res ((0:Int),y1,y2)=((aC (re y1) 0 (List.range y1.length) 0 y2).1,(nQ y1) (aC (re y1) 0 (List.range y1.length) 0 y2).2.1 (aC (re y1) 0 (List.range y1.length) 0 y2).2.2):=by
 have kw:=eP.along (nQ y1) Gr (re y1) 0 (fun _ a=>a.length=y1.length) (List.range y1.length) y2 hl (by simp only [eP,nQ,List.length_range];omega) (fun i b a hb hI=> ?_) (fun a hI=> ?_)
 ·exact kw
 ·obtain y2:=a
  obtain⟨rfl,fy⟩:=ul hb
  have hw:IntKind.i64.wrap ((b:Int) + 1)=((b + 1:Nat):Int):=by rw [cg (by omega) (by omega)];omega
  have cM:ltI (b:Int) (y1.length:Int)=true:=gg (by omega)
  have xj:leI (0:Int) (b:Int)=true:=cW (by omega)
  have jC:ltN b y1.length=true:=iF (by omega)
  refine⟨?_,?_,?_,?_⟩
  ·simp [ui,uj,xG,xH,xI,xJ,xK,vV,eP,LT.nds,allT,nQ,cM,xj,jC,hI]
  ·simp [ui,uj,xG,xH,xI,xJ,xK,vV,eP,LT.each,nQ,Gr,hw,hI]
  ·simp only [ui,uj,xG,xH,xI,xJ,xK,vV,eP,LT.fn,nQ,Gr,re,Int.toNat_natCast,cM,cond_true]
  ·intro a' hf;simp only [re,Sum.inr.injEq]at hf;subst hf;simpa using hI
 ·obtain y2:=a
  simp [ui,uj,xG,xH,xI,xJ,xK,vV,eP,LT.out,nQ,List.length_range]
def ue(y1 y2:List ByteArray)(b:Nat):(Unit)→Nat ⊕ (Unit)
 |_=>(bif(!ByteArray.toList (Option.getD y1[b]? ByteArray.empty)==ByteArray.toList (Option.getD y2[b]? ByteArray.empty))then(.inl 0)else(.inr ()))
def qk(y1 y2:List ByteArray)(i:Nat):(Unit)→kQ
 |_=>((i:Int),y1,y2)
def Gp:kQ→Unit
 |(_,_,_)=>()
theorem Wk(y1 y2:List ByteArray) (hn:y1.length≤9223372036854775807) (he:y2.length=y1.length):
  ed.fin ((0:Int),y1,y2)=true∧ed.res ((0:Int),y1,y2)=((aC (ue y1 y2) 1 (List.range y1.length) 0 ()).1,(qk y1 y2) (aC (ue y1 y2) 1 (List.range y1.length) 0 ()).2.1 (aC (ue y1 y2) 1 (List.range y1.length) 0 ()).2.2):=by
 have kw:=ed.along (qk y1 y2) Gp (ue y1 y2) 1 (fun _ _=>True) (List.range y1.length) () (by trivial) (by simp only [ed,qk,List.length_range];omega) (fun i b a hb hI=> ?_) (fun a hI=> ?_)
 ·exact kw
 ·obtain⟨⟩:=a
  obtain⟨rfl,fy⟩:=ul hb
  have hw:IntKind.i64.wrap ((b:Int) + 1)=((b + 1:Nat):Int):=by rw [cg (by omega) (by omega)];omega
  have cM:ltI (b:Int) (y1.length:Int)=true:=gg (by omega)
  have xj:leI (0:Int) (b:Int)=true:=cW (by omega)
  have jC:ltN b y1.length=true:=iF (by omega)
  refine⟨?_,?_,?_,?_⟩
  ·simp [uf,ug,xw,xx,xy,xz,xA,vT,ed,LT.nds,allT,qk,cM,xj,jC,he]
  ·simp [uf,ug,xw,xx,xy,xz,xA,vT,ed,LT.each,qk,Gp,hw,he]
  ·simp only [uf,ug,xw,xx,xy,xz,xA,vT,ed,LT.fn,qk,Gp,ue,Int.toNat_natCast,cM,cond_true]
  ·exact fun _ _=>trivial
 ·obtain⟨⟩:=a
  simp [uf,ug,xw,xx,xy,xz,xA,vT,ed,LT.out,qk,List.length_range]
theorem afy(xs:List ByteArray)(hn:leN xs.length 1048576=true):GR xs=xs∧GS xs=true:=by
 have hn:=ij.1 hn
 have hr:(List.replicate (Int.toNat (xs.length:Int)) (⟨#[]⟩:ByteArray)).length=xs.length:=by simp
 obtain⟨w1,w2⟩:=Wm xs (List.replicate (Int.toNat (xs.length:Int)) (⟨#[]⟩:ByteArray)) (by omega) hr
 have hc:=Rc (xs:=xs) (d:=ByteArray.empty) (g:=fun x=>x) (f:=re xs) (e:=0) (fun b a=>rfl) hr
 rw [hc]at w2
 refine⟨?_,?_⟩
 ·simp only [Fq,GR,GS,w2,nQ];simp
 ·simp only [Fq,GR,GS,w1,allT];simp;omega
def QD:List SV→List Entry→Option Out
 | [.one ⟨false,[.ref 0]⟩],[.row false 9 (.str) x0]=>some ⟨.one ⟨false,[.ref 1]⟩,[.row false 9 aen x0],[.row true 9 aen x0],[leN x0.length 1048576]⟩
 |_,_=>none
def LE:PF prog:=PF.alt aa2 QD (by
 intro args es o h dh;unfold QD at h;split at h
 ·rename_i x0
  cases h
  have dh:=qA dh
  have hh:=afy x0 dh
  obtain⟨e0,en⟩:=hh
  exact vG rfl (qB en) rfl rfl (by simp only [e0] <;> rfl)
 ·cases h)
theorem ae1(xs ys:List ByteArray)(hn:leN xs.length 9223372036854775807=true):GO xs ys=Zx xs ys∧GP xs ys=true:=by
 have hn:=ij.1 hn
 unfold Zx
 have h3: ∀ a b:ByteArray,(!(a.toList==b.toList))= !decide (a=b):=fun a b=>by
  by_cases h:a=b <;> simp [h,afK]
 by_cases hl:ys.length=xs.length
 ·obtain⟨w1,w2⟩:=Wk xs ys hn hl
  have ha:=aeQ (d:=ByteArray.empty) hl (P:=fun b=> !decide (Option.getD xs[b]? ByteArray.empty=Option.getD ys[b]? ByteArray.empty)) (fun b=>rfl)
  rw [gJ (P:=fun b=> !decide (Option.getD xs[b]? ByteArray.empty=Option.getD ys[b]? ByteArray.empty)) (j:=0) (fun b=>by simp only [ue,h3]),ha]at w2
  simp only [Ff,Fg,GO,GP,w1,w2,allT]
  by_cases he:xs=ys
  ·subst he;simp;decide
  ·simp [he,hl]
 ·have Mq:xs≠ys:=fun h=>hl (by rw [h])
  simp [Ff,Fg,GO,GP,allT,Mq]
  omega
def QB:List SV→List Entry→Option Out
 | [.one ⟨false,[.ref 0]⟩,.one ⟨false,[.ref 1]⟩],[.row false 9 (.str) x0,.row false 9 (.str) x1]=>some ⟨.one ⟨false,[.val (.bool (Zx x0 x1))]⟩,[.row false 9 aen x0,.row false 9 aen x1],[],[leN x0.length 9223372036854775807]⟩
 |_,_=>none
def LC:PF prog:=PF.alt aa0 QB (by
 intro args es o h dh;unfold QB at h;split at h
 ·rename_i x0 x1
  cases h
  have dh:=qA dh
  have hh:=ae1 x0 x1 dh
  obtain⟨e0,en⟩:=hh
  exact vG rfl (qB en) (by simp only [e0] <;> rfl) rfl rfl
 ·cases h)
section
variable (x0:ByteArray)(x1:Int)(x2:List (Int×ByteArray×Int))
def vS:Int:=IntKind.wrap .i64 (x1 - (↑(ByteArray.size x0):Int))
def Ez:Int:=bif ltI (vS x0 x1) (0:Int)then(-1:Int)else bif ltI (afx (vS x0 x1) x2) (0:Int)then(-1:Int)else afx (vS x0 x1) x2
def Md:Bool:=allT [ltI (vS x0 x1) (0:Int)||leN x2.length (9223372036854775807:Nat)&&(leI (-1:Int) (vS x0 x1)&&leI (vS x0 x1) (1048576:Int))]
end
def Wx:List SV→List Entry→Option Out
 | [.one ⟨true,[.val (.string x0),.ref 0]⟩,.one ⟨false,[.val (.int .i64 x1)]⟩],[.row false 175 (.pair (.int .i64) (.pair (.str) (.int .i64))) x2]=>some ⟨.one ⟨false,[.val (.int .i64 (Ez x0 x1 x2))]⟩,[.row false 175 abW x2],[],[Md x0 x1 x2]⟩
 |_,_=>none
def EC:PF prog:=PF.ofG prog [On,PF.lend On,PF.fz On] [] aP 200 f200 func200 (fun c _=>LOk.nil c) Wx (by
 intro vs es r h;unfold Wx at h;split at h
 ·cases h;kernel_rfl
 ·cases h)
abbrev np:=Int×Int×List (ByteArray×(List (Int×(ByteArray×Int))))
def lZ(y0:Int)(y2:List (ByteArray×(List (Int×(ByteArray×Int))))):ByteArray×List (Int×ByteArray×Int):=Option.getD y2[Int.toNat y0]? (vO (CTy.pair CTy.str (CTy.sl (175:Nat) abW)))
def yT(y0 y1:Int)(y2:List (ByteArray×(List (Int×(ByteArray×Int))))):Int:=Ez ((lZ y0 y2).1) y1 ((lZ y0 y2).2)
def wR(y0:Int)(y2:List (ByteArray×(List (Int×(ByteArray×Int))))):Bool:=ltI y0 (↑y2.length:Int)
def Fh(y0:Int):Bool:=leI (0:Int) y0
def Fi(y0:Int)(y2:List (ByteArray×(List (Int×(ByteArray×Int))))):Bool:=ltN y0.toNat y2.length
def AY(y0 y1:Int)(y2:List (ByteArray×(List (Int×(ByteArray×Int))))):Bool:=Md ((lZ y0 y2).1) y1 ((lZ y0 y2).2)
def AZ(y0 y1:Int)(y2:List (ByteArray×(List (Int×(ByteArray×Int))))):Bool:=ltI (yT y0 y1 y2) (0:Int)
def Ba:Int:=(-1:Int)
def Ku(y0:Int):Int:=IntKind.wrap .i64 (y0 + (1:Int))
def Fj(y0 y1:Int)(y2:List (ByteArray×(List (Int×(ByteArray×Int))))):Int:=yT y0 y1 y2
def Xp:np→List (Nat×SV)
 |(y0,y1,_)=> [(5,(.one ⟨false,[.val (.int .i64 y0)]⟩)),(0,(.one ⟨false,[.ref 0]⟩)),(1,(.one ⟨false,[.val (.int .i64 y1)]⟩))]
def Xf:np→List (Nat×Entry)
 |(_,_,y2)=> [(0,(.row false 225 (CTy.pair CTy.str (CTy.sl (175:Nat) abW)) y2))]
def XK:Nat→np→List (Nat×SV)
 |0,(_,_,_)=> [(4,(.one ⟨false,[.val (.int .i64 (Ba))]⟩))]
 |_,(_,y1,_)=> [(1,(.one ⟨false,[.val (.int .i64 y1)]⟩))]
def Xz:Nat→np→List (Nat×Entry)
 |0,(_,_,y2)=> [(0,(.row false 225 (CTy.pair CTy.str (CTy.sl (175:Nat) abW)) y2))]
 |_,(_,_,y2)=> [(0,(.row false 225 (CTy.pair CTy.str (CTy.sl (175:Nat) abW)) y2))]
def zd:np→LT np
 |(y0,y1,y2)=> .ite (wR y0 y2) (.need [Fh y0,wR y0 y2,Fi y0 y2,AY y0 y1 y2] (.ite (AZ y0 y1 y2) (.ext 0 [(0,0)]) (.nrm ((Ku y0),Fj y0 y1 y2,y2) [(0,0)]))) (.ext 1 [(0,0)])
def Ja(s:St):Option np:=
 (match s.look 5 with
 |some ⟨none,.one ⟨false,[.val (.int .i64 y0)]⟩⟩=>
 (match s.look 0 with
 |some ⟨none,.one ⟨false,[.ref 0]⟩⟩=>
 (match s.look 1 with
 |some ⟨none,.one ⟨false,[.val (.int .i64 y1)]⟩⟩=>
 (match s.ent 0 with
 |some (.row false 225 (.pair .str (.sl (175:Nat) (.pair (.int .i64) (.pair .str (.int .i64))))) y2)=>
 some (y0,y1,y2)
 |_=>none)
 |_=>none)
 |_=>none)
 |_=>none)
def eE:Lp np where
 h:=⟨[12,13,14,15,18,19,20,21,22,23,1,24,25,4,16,17,5],[0],[],[]⟩
 JL:=Xp
 JE:=Xf
 XL:=XK
 XE:=Xz
 q:=fun j=>match j with | 0=> .ret | _=> .exit 0
 tags:= [0,1]
 lt:=zd
 fuel:=fun(y0,y1,y2)=>y0.natAbs + y1.natAbs + y2.length
 fix:=fun(_,_,y2) (y0,y1,_)=>(y0,y1,y2)
 σ:= [(0,0)]
 rd:=Ja
theorem UH:LoopOk prog (fun k=>Nat.blt k Tryz.f130.ntmps) eE.F (aZ f130 0):=by
 refine Lp.ok (tbl:= [EC,PF.lend EC,PF.fz EC]) (lf:= []) aP eE (by kernel_rfl) (LOk.nil _) (fun _=>rfl) (fun j _=>by unfold eE;match j with | 0=>rfl | _ + 1=>rfl) ?_ ?_ ?_ ?_ (fun _=>rfl) ?_
 ·rintro⟨y0,y1,y2⟩;kernel_rfl
 ·rintro⟨y0,y1,y2⟩;kernel_rfl
 ·intro s x h
  have h:Ja s=some x:=h
  unfold Ja at h
  repeat' split at h
  all_goals cases h
  exact⟨aa (by assumption) rfl (aa (by assumption) rfl (aa (by assumption) rfl (rfl))),ab rfl (by assumption) rfl (rfl)⟩
 ·rintro⟨y0,y1,y2⟩;kernel_rfl
 ·rintro⟨y0,y1,y2⟩ z;exact(And.intro (And.intro trivial rfl) trivial)
section
variable (x0:Int)(x1:List (ByteArray×List (Int×ByteArray×Int)))
def El:Int:=IntKind.wrap .i64 (x0 - (↑x1.length:Int))
def Io:Int×Int×List (ByteArray×List (Int×ByteArray×Int)):=((0:Int),El x0 x1,x1)
def CQ:Int:=bif ltI (El x0 x1) (0:Int)then(-1:Int)else bif Nat.beq ((Lp.res eE (Io x0 x1)).1) (0:Nat)then Ba else ((Lp.res eE (Io x0 x1)).2.2).1
def Gg:Bool:=allT [ltI (El x0 x1) (0:Int)||Lp.fin eE (Io x0 x1)]
end
def Tq:List SV→List Entry→Option Out
 | [.one ⟨false,[.ref 0]⟩,.one ⟨false,[.val (.int .i64 x0)]⟩],[.row false 225 (.pair (.str) (.sl 175 (.pair (.int .i64) (.pair (.str) (.int .i64))))) x1]=>some ⟨.one ⟨false,[.val (.int .i64 (CQ x0 x1))]⟩,[.row false 225 (CTy.pair CTy.str (CTy.sl (175:TypeId) abW)) x1],[],[Gg x0 x1]⟩
 |_,_=>none
def Ot:PF prog:=PF.ofG prog [EC,PF.lend EC,PF.fz EC] [eE.F] aP 130 f130 func130 (LOk.fnT (l:= [aZ f130 0]) (by kernel_rfl) (.cons UH (.nil _))) Tq (by
 intro vs es r h;unfold Tq at h;split at h
 ·cases h;kernel_rfl
 ·cases h)
section
variable (x0 x1:ByteArray)(x2:Int)(x3 x4 x5:List ByteArray)(x6:List (ByteArray×List (Int×ByteArray×Int)))
def cO:Int:=IntKind.wrap .i64 (x2 - (↑(ByteArray.size x0):Int))
def Bb:Bool:=ltI (Ic (Ic (cO x0 x2) x3) x4) (0:Int)
def Fk:Bool:=ltI (Ic (Ic (Ic (cO x0 x2) x3) x4) x5) (0:Int)
def wS:Int:=IntKind.wrap .i64 (Ic (Ic (Ic (cO x0 x2) x3) x4) x5 - (↑(ByteArray.size x1):Int))
def Bc:Bool:=ltI (wS x0 x1 x2 x3 x4 x5) (0:Int)
def gV:Int:=bif ltI (cO x0 x2) (0:Int)then(-1:Int)else bif ltI (Ic (cO x0 x2) x3) (0:Int)then(-1:Int)else bif Bb x0 x2 x3 x4 then(-1:Int)else bif Fk x0 x2 x3 x4 x5 then(-1:Int)else bif Bc x0 x1 x2 x3 x4 x5 then(-1:Int)else bif ltI (CQ (wS x0 x1 x2 x3 x4 x5) x6) (0:Int)then(-1:Int)else CQ (wS x0 x1 x2 x3 x4 x5) x6
def qz:Bool:=allT [ltI (cO x0 x2) (0:Int)||leN x3.length (9223372036854775807:Nat)&&(leI (-1:Int) (cO x0 x2)&&leI (cO x0 x2) (1048576:Int)),ltI (cO x0 x2) (0:Int)||(ltI (Ic (cO x0 x2) x3) (0:Int)||leN x4.length (9223372036854775807:Nat)&&(leI (-1:Int) (Ic (cO x0 x2) x3)&&leI (Ic (cO x0 x2) x3) (1048576:Int))),ltI (cO x0 x2) (0:Int)||(ltI (Ic (cO x0 x2) x3) (0:Int)||(Bb x0 x2 x3 x4||leN x5.length (9223372036854775807:Nat)&&(leI (-1:Int) (Ic (Ic (cO x0 x2) x3) x4)&&leI (Ic (Ic (cO x0 x2) x3) x4) (1048576:Int)))),ltI (cO x0 x2) (0:Int)||(ltI (Ic (cO x0 x2) x3) (0:Int)||(Bb x0 x2 x3 x4||(Fk x0 x2 x3 x4 x5||(Bc x0 x1 x2 x3 x4 x5||Gg (wS x0 x1 x2 x3 x4 x5) x6))))]
end
def Qp:List SV→List Entry→Option Out
 | [.one ⟨true,[.val (.string x0),.ref 0,.ref 1,.ref 2,.val (.string x1),.ref 3]⟩,.one ⟨false,[.val (.int .i64 x2)]⟩],[.row false 9 (.str) x3,.row false 9 (.str) x4,.row false 9 (.str) x5,.row false 225 (.pair (.str) (.sl 175 (.pair (.int .i64) (.pair (.str) (.int .i64))))) x6]=>some ⟨.one ⟨false,[.val (.int .i64 (gV x0 x1 x2 x3 x4 x5 x6))]⟩,[.row false 9 aen x3,.row false 9 aen x4,.row false 9 aen x5,.row false 225 (CTy.pair CTy.str (CTy.sl (175:TypeId) abW)) x6],[],[qz x0 x1 x2 x3 x4 x5 x6]⟩
 |_,_=>none
def LH:PF prog:=PF.ofG prog [LD,PF.lend LD,PF.fz LD,Ot,PF.lend Ot,PF.fz Ot] [] aP 58 f58 func58 (fun c _=>LOk.nil c) Qp (by
 intro vs es r h;unfold Qp at h;split at h
 ·cases h;kernel_rfl
 ·cases h)
def Qa(x1:List (Int×ByteArray×Int)):Bool:=allT [leN x1.length (1048576:Nat)]
def Wz:List SV→List Entry→Option Out
 | [.one ⟨true,[.val (.string x0),.ref 0]⟩],[.row false 175 (.pair (.int .i64) (.pair (.str) (.int .i64))) x1]=>some ⟨.one ⟨true,[.val (.string x0),.ref 1]⟩,[.row false 175 abW x1],[.row true 178 abW x1],[Qa x1]⟩
 |_,_=>none
def ED:PF prog:=PF.ofG prog [Oo,PF.lend Oo,PF.fz Oo] [] aP 201 f201 func201 (fun c _=>LOk.nil c) Wz (by
 intro vs es r h;unfold Wz at h;split at h
 ·cases h;kernel_rfl
 ·cases h)
abbrev nr:=Int×List (ByteArray×(List (Int×(ByteArray×Int))))×List (ByteArray×(List (Int×(ByteArray×Int))))
def rZ(y0:Int)(y1:List (ByteArray×(List (Int×(ByteArray×Int))))):ByteArray×List (Int×ByteArray×Int):=Option.getD y1[Int.toNat y0]? (vO (CTy.pair CTy.str (CTy.sl (175:Nat) abW)))
def wU(y0:Int)(y1:List (ByteArray×(List (Int×(ByteArray×Int))))):Bool:=ltI y0 (↑y1.length:Int)
def wV(y0:Int):Bool:=leI (0:Int) y0
def Bk(y0:Int)(y1:List (ByteArray×(List (Int×(ByteArray×Int))))):Bool:=ltN y0.toNat y1.length
def wW(y0:Int)(y1:List (ByteArray×(List (Int×(ByteArray×Int))))):Bool:=Qa ((rZ y0 y1).2)
def Bl(y0:Int)(y2:List (ByteArray×(List (Int×(ByteArray×Int))))):Bool:=ltI y0 (↑y2.length:Int)
def Bm(y0:Int)(y2:List (ByteArray×(List (Int×(ByteArray×Int))))):Bool:=ltN y0.toNat y2.length
def Fo(y0:Int):Int:=IntKind.wrap .i64 (y0 + (1:Int))
def Fp(y0:Int)(y1 y2:List (ByteArray×(List (Int×(ByteArray×Int))))):List (ByteArray×(List (Int×(ByteArray×Int)))):=List.set y2 y0.toNat ((rZ y0 y1).1,(rZ y0 y1).2)
def Xr:nr→List (Nat×SV)
 |(y0,_,_)=> [(4,(.one ⟨false,[.val (.int .i64 y0)]⟩)),(0,(.one ⟨false,[.ref 0]⟩)),(3,(.one ⟨false,[.ref 1]⟩))]
def Xh:nr→List (Nat×Entry)
 |(_,y1,y2)=> [(0,(.row false 225 (CTy.pair CTy.str (CTy.sl (175:Nat) abW)) y1)),(1,(.tree 204 (CTy.pair CTy.str (CTy.sl (178:Nat) abW)) y2 none))]
def XN:Nat→nr→List (Nat×SV)
 |_,(_,_,_)=> []
def XB:Nat→nr→List (Nat×Entry)
 |_,(_,y1,y2)=> [(0,(.row false 225 (CTy.pair CTy.str (CTy.sl (175:Nat) abW)) y1)),(1,(.tree 204 (CTy.pair CTy.str (CTy.sl (178:Nat) abW)) y2 none))]
def zf:nr→LT nr
 |(y0,y1,y2)=> .ite (wU y0 y1) (.need [wV y0,wU y0 y1,Bk y0 y1,wW y0 y1,wV y0,Bl y0 y2,Bm y0 y2] (.nrm ((Fo y0),y1,(Fp y0 y1 y2)) [(0,0),(1,1)])) (.ext 0 [(0,0),(1,1)])
def Jc(s:St):Option nr:=
 (match s.look 4 with
 |some ⟨none,.one ⟨false,[.val (.int .i64 y0)]⟩⟩=>
 (match s.look 0 with
 |some ⟨none,.one ⟨false,[.ref 0]⟩⟩=>
 (match s.look 3 with
 |some ⟨none,.one ⟨false,[.ref 320]⟩⟩=>
 (match s.ent 0 with
 |some (.row false 225 (.pair .str (.sl (175:Nat) (.pair (.int .i64) (.pair .str (.int .i64))))) y1)=>
 (match s.ent 320 with
 |some (.tree 204 (.pair .str (.sl (178:Nat) (.pair (.int .i64) (.pair .str (.int .i64))))) y2 none)=>
 some (y0,y1,y2)
 |_=>none)
 |_=>none)
 |_=>none)
 |_=>none)
 |_=>none)
def gW:Lp nr where
 h:=⟨[8,9,10,11,14,15,16,17,18,19,20,21,12,13,4],[0,1],[],[]⟩
 JL:=Xr
 JE:=Xh
 XL:=XN
 XE:=XB
 q:=fun j=>match j with | _=> .exit 0
 tags:= [0]
 lt:=zf
 fuel:=fun(y0,y1,y2)=>y0.natAbs + y1.length + y2.length
 fix:=fun(_,y1,_) (y0,_,y2)=>(y0,y1,y2)
 σ:= [(0,0),(1,320)]
 rd:=Jc
theorem UJ:LoopOk prog (fun k=>Nat.blt k Tryz.f132.ntmps) gW.F (aZ f132 0):=by
 refine Lp.ok (tbl:= [PF.trees prog,ED,PF.lend ED,PF.fz ED]) (lf:= []) aP gW (by kernel_rfl) (LOk.nil _) (fun _=>rfl) (fun _ _=>rfl) ?_ ?_ ?_ ?_ (fun _=>rfl) ?_
 ·rintro⟨y0,y1,y2⟩;kernel_rfl
 ·rintro⟨y0,y1,y2⟩;kernel_rfl
 ·intro s x h
  have h:Jc s=some x:=h
  unfold Jc at h
  repeat' split at h
  all_goals cases h
  exact⟨aa (by assumption) rfl (aa (by assumption) rfl (aa (by assumption) rfl (rfl))),ab rfl (by assumption) rfl (ab rfl (by assumption) rfl (rfl))⟩
 ·rintro⟨y0,y1,y2⟩;kernel_rfl
 ·rintro⟨y0,y1,y2⟩ z;exact(And.intro rfl trivial)
def uC(x0:List (ByteArray×List (Int×ByteArray×Int))):Int:=(↑x0.length:Int)
def Iu(x0:List (ByteArray×List (Int×ByteArray×Int))):Int×List (ByteArray×List (Int×ByteArray×Int))×List (ByteArray×List (Int×ByteArray×Int)):=
 ((0:Int),x0,List.replicate (Int.toNat (uC x0)) ({ data:= #[] },[]))
def Gh(x0:List (ByteArray×List (Int×ByteArray×Int))):List (ByteArray×(List (Int×(ByteArray×Int)))):=(Lp.res gW (Iu x0)).2.2.2
def Kv(x0:List (ByteArray×List (Int×ByteArray×Int))):Bool:=allT [leI (0:Int) (uC x0),leI (uC x0) (uC x0),leI ((↑(40:Nat):Int) * uC x0) (281474976710656:Int),leI (uC x0) (9223372036854775807:Int),Lp.fin gW (Iu x0)]
def Ts:List SV→List Entry→Option Out
 | [.one ⟨false,[.ref 0]⟩],[.row false 225 (.pair (.str) (.sl 175 (.pair (.int .i64) (.pair (.str) (.int .i64))))) x0]=>some ⟨.one ⟨false,[.ref 1]⟩,[.row false 225 (CTy.pair CTy.str (CTy.sl (175:TypeId) abW)) x0],[.tree 204 (CTy.pair CTy.str (CTy.sl (178:Nat) abW)) (Gh x0) none],[Kv x0]⟩
 |_,_=>none
def Ou:PF prog:=PF.ofG prog [PF.trees prog,ED,PF.lend ED,PF.fz ED] [gW.F] aP 132 f132 func132 (LOk.fnT (l:= [aZ f132 0]) (by kernel_rfl) (.cons UJ (.nil _))) Ts (by
 intro vs es r h;unfold Ts at h;split at h
 ·cases h;kernel_rfl
 ·cases h)
def oG(x5:List (ByteArray×List (Int×ByteArray×Int))):List (ByteArray×(List (Int×(ByteArray×Int)))):=Gh x5
def CR(x2 x3 x4:List ByteArray)(x5:List (ByteArray×List (Int×ByteArray×Int))):Bool:=allT [leN x2.length (1048576:Nat),leN x3.length (1048576:Nat),leN x4.length (1048576:Nat),Kv x5]
def Qr:List SV→List Entry→Option Out
 | [.one ⟨true,[.val (.string x0),.ref 0,.ref 1,.ref 2,.val (.string x1),.ref 3]⟩],[.row false 9 (.str) x2,.row false 9 (.str) x3,.row false 9 (.str) x4,.row false 225 (.pair (.str) (.sl 175 (.pair (.int .i64) (.pair (.str) (.int .i64))))) x5]=>some ⟨.one ⟨true,[.val (.string x0),.ref 4,.ref 5,.ref 6,.val (.string x1),.ref 7]⟩,[.row false 9 aen x2,.row false 9 aen x3,.row false 9 aen x4,.row false 225 (CTy.pair CTy.str (CTy.sl (175:TypeId) abW)) x5],[.row true 9 aen x2,.row true 9 aen x3,.row true 9 aen x4,.tree 204 (CTy.pair CTy.str (CTy.sl (178:Nat) abW)) (oG x5) none],[CR x2 x3 x4 x5]⟩
 |_,_=>none
def LI:PF prog:=PF.ofG prog [PF.trees prog,LE,PF.lend LE,PF.fz LE,Ou,PF.lend Ou,PF.fz Ou] [] aP 59 f59 func59 (fun c _=>LOk.nil c) Qr (by
 intro vs es r h;unfold Qr at h;split at h
 ·cases h;kernel_rfl
 ·cases h)
section
variable (x0 x1:ByteArray)(x2 x3:List (Int×ByteArray×Int))
def Ob:Bool:= !ByteArray.toList x0==ByteArray.toList x1
def HV:Bool:=bif Ob x0 x1 then false else bif !aix x2 x3 then false else true
def PZ:Bool:=allT [Ob x0 x1||leN x2.length (9223372036854775807:Nat)]
end
def Wv:List SV→List Entry→Option Out
 | [.one ⟨true,[.val (.string x0),.ref 0]⟩,.one ⟨true,[.val (.string x1),.ref 1]⟩],[.row false 178 (.pair (.int .i64) (.pair (.str) (.int .i64))) x2,.row false 178 (.pair (.int .i64) (.pair (.str) (.int .i64))) x3]=>some ⟨.one ⟨false,[.val (.bool (HV x0 x1 x2 x3))]⟩,[.row false 178 abW x2,.row false 178 abW x3],[],[PZ x0 x1 x2]⟩
 |_,_=>none
def EB:PF prog:=PF.ofG prog [Om,PF.lend Om,PF.fz Om] [] aP 202 f202 func202 (fun c _=>LOk.nil c) Wv (by
 intro vs es r h;unfold Wv at h;split at h
 ·cases h;kernel_rfl
 ·cases h)
abbrev nk:=Int×List (ByteArray×(List (Int×(ByteArray×Int))))×List (ByteArray×(List (Int×(ByteArray×Int))))
def nW(y0:Int)(y1:List (ByteArray×(List (Int×(ByteArray×Int))))):ByteArray×List (Int×ByteArray×Int):=Option.getD y1[Int.toNat y0]? (vO (CTy.pair CTy.str (CTy.sl (178:Nat) abW)))
def vg(y0:Int)(y2:List (ByteArray×(List (Int×(ByteArray×Int))))):ByteArray×List (Int×ByteArray×Int):=Option.getD y2[Int.toNat y0]? (vO (CTy.pair CTy.str (CTy.sl (178:Nat) abW)))
def wM(y0:Int)(y1:List (ByteArray×(List (Int×(ByteArray×Int))))):Bool:=ltI y0 (↑y1.length:Int)
def wN(y0:Int):Bool:=leI (0:Int) y0
def AM(y0:Int)(y1:List (ByteArray×(List (Int×(ByteArray×Int))))):Bool:=ltN y0.toNat y1.length
def AO(y0:Int)(y2:List (ByteArray×(List (Int×(ByteArray×Int))))):Bool:=ltI y0 (↑y2.length:Int)
def AP(y0:Int)(y2:List (ByteArray×(List (Int×(ByteArray×Int))))):Bool:=ltN y0.toNat y2.length
def wO(y0:Int)(y1 y2:List (ByteArray×(List (Int×(ByteArray×Int))))):Bool:=PZ ((nW y0 y1).1) ((vg y0 y2).1) ((nW y0 y1).2)
def AQ(y0:Int)(y1 y2:List (ByteArray×(List (Int×(ByteArray×Int))))):Bool:= !HV ((nW y0 y1).1) ((vg y0 y2).1) ((nW y0 y1).2) ((vg y0 y2).2)
def Fd(y0:Int):Int:=IntKind.wrap .i64 (y0 + (1:Int))
def Xn:nk→List (Nat×SV)
 |(y0,_,_)=> [(5,(.one ⟨false,[.val (.int .i64 y0)]⟩)),(0,(.one ⟨false,[.ref 0]⟩)),(1,(.one ⟨false,[.ref 1]⟩))]
def Xd:nk→List (Nat×Entry)
 |(_,y1,y2)=> [(0,(.row false 204 (CTy.pair CTy.str (CTy.sl (178:Nat) abW)) y1)),(1,(.row false 204 (CTy.pair CTy.str (CTy.sl (178:Nat) abW)) y2))]
def XI:Nat→nk→List (Nat×SV)
 |0,(_,_,_)=> [(4,(.one ⟨false,[.val (.bool false)]⟩))]
 |_,(_,_,_)=> []
def Xx:Nat→nk→List (Nat×Entry)
 |0,(_,y1,y2)=> [(0,(.row false 204 (CTy.pair CTy.str (CTy.sl (178:Nat) abW)) y1)),(1,(.row false 204 (CTy.pair CTy.str (CTy.sl (178:Nat) abW)) y2))]
 |_,(_,y1,y2)=> [(0,(.row false 204 (CTy.pair CTy.str (CTy.sl (178:Nat) abW)) y1)),(1,(.row false 204 (CTy.pair CTy.str (CTy.sl (178:Nat) abW)) y2))]
def zb:nk→LT nk
 |(y0,y1,y2)=> .ite (wM y0 y1) (.need [wN y0,wM y0 y1,AM y0 y1,wN y0,AO y0 y2,AP y0 y2,wO y0 y1 y2] (.ite (AQ y0 y1 y2) (.ext 0 [(0,0),(1,1)]) (.nrm ((Fd y0),y1,y2) [(0,0),(1,1)]))) (.ext 1 [(0,0),(1,1)])
def IY(s:St):Option nk:=
 (match s.look 5 with
 |some ⟨none,.one ⟨false,[.val (.int .i64 y0)]⟩⟩=>
 (match s.look 0 with
 |some ⟨none,.one ⟨false,[.ref 0]⟩⟩=>
 (match s.look 1 with
 |some ⟨none,.one ⟨false,[.ref 1]⟩⟩=>
 (match s.ent 0 with
 |some (.row false 204 (.pair .str (.sl (178:Nat) (.pair (.int .i64) (.pair .str (.int .i64))))) y1)=>
 (match s.ent 1 with
 |some (.row false 204 (.pair .str (.sl (178:Nat) (.pair (.int .i64) (.pair .str (.int .i64))))) y2)=>
 some (y0,y1,y2)
 |_=>none)
 |_=>none)
 |_=>none)
 |_=>none)
 |_=>none)
def fU:Lp nk where
 h:=⟨[11,12,13,14,17,18,19,20,21,22,23,24,25,26,4,15,16,5],[0,1],[],[]⟩
 JL:=Xn
 JE:=Xd
 XL:=XI
 XE:=Xx
 q:=fun j=>match j with | 0=> .ret | _=> .exit 0
 tags:= [0,1]
 lt:=zb
 fuel:=fun(y0,y1,y2)=>y0.natAbs + y1.length + y2.length
 fix:=fun(_,y1,y2) (y0,_,_)=>(y0,y1,y2)
 σ:= [(0,0),(1,1)]
 rd:=IY
theorem UF:LoopOk prog (fun k=>Nat.blt k Tryz.f134.ntmps) fU.F (aZ f134 0):=by
 refine Lp.ok (tbl:= [EB,PF.lend EB,PF.fz EB]) (lf:= []) aP fU (by kernel_rfl) (LOk.nil _) (fun _=>rfl) (fun j _=>by unfold fU;match j with | 0=>rfl | _ + 1=>rfl) ?_ ?_ ?_ ?_ (fun _=>rfl) ?_
 ·rintro⟨y0,y1,y2⟩;kernel_rfl
 ·rintro⟨y0,y1,y2⟩;kernel_rfl
 ·intro s x h
  have h:IY s=some x:=h
  unfold IY at h
  repeat' split at h
  all_goals cases h
  exact⟨aa (by assumption) rfl (aa (by assumption) rfl (aa (by assumption) rfl (rfl))),ab rfl (by assumption) rfl (ab rfl (by assumption) rfl (rfl))⟩
 ·rintro⟨y0,y1,y2⟩;kernel_rfl
 ·rintro⟨y0,y1,y2⟩ z;exact(And.intro (And.intro trivial rfl) trivial)
section
variable (x0 x1:List (ByteArray×List (Int×ByteArray×Int)))
def Ij:Bool:=(↑x0.length:Int)!=(↑x1.length:Int)
def MM:Int×List (ByteArray×List (Int×ByteArray×Int))×List (ByteArray×List (Int×ByteArray×Int)):=((0:Int),x0,x1)
def Kq:Bool:=bif Ij x0 x1 then false else bif Nat.beq ((Lp.res fU (MM x0 x1)).1) (0:Nat)then false else true
def Kr:Bool:=allT [Ij x0 x1||Lp.fin fU (MM x0 x1)]
end
def To:List SV→List Entry→Option Out
 | [.one ⟨false,[.ref 0]⟩,.one ⟨false,[.ref 1]⟩],[.row false 204 (.pair (.str) (.sl 178 (.pair (.int .i64) (.pair (.str) (.int .i64))))) x0,.row false 204 (.pair (.str) (.sl 178 (.pair (.int .i64) (.pair (.str) (.int .i64))))) x1]=>some ⟨.one ⟨false,[.val (.bool (Kq x0 x1))]⟩,[.row false 204 (CTy.pair CTy.str (CTy.sl (178:TypeId) abW)) x0,.row false 204 (CTy.pair CTy.str (CTy.sl (178:TypeId) abW)) x1],[],[Kr x0 x1]⟩
 |_,_=>none
def Or:PF prog:=PF.ofG prog [EB,PF.lend EB,PF.fz EB] [fU.F] aP 134 f134 func134 (LOk.fnT (l:= [aZ f134 0]) (by kernel_rfl) (.cons UF (.nil _))) To (by
 intro vs es r h;unfold To at h;split at h
 ·cases h;kernel_rfl
 ·cases h)
section
variable (x0 x1 x2 x3:ByteArray)(x4 x5 x6:List ByteArray)(x7:List (ByteArray×List (Int×ByteArray×Int)))(x8 x9 x10:List ByteArray)(x11:List (ByteArray×List (Int×ByteArray×Int)))
def tI:Bool:= !ByteArray.toList x0==ByteArray.toList x2
def Fe:Bool:= !ByteArray.toList x1==ByteArray.toList x3
def GM:Bool:=bif tI x0 x2 then false else bif !Zx x4 x8 then false else bif !Zx x5 x9 then false else bif !Zx x6 x10 then false else bif Fe x1 x3 then false else bif !Kq x7 x11 then false else true
def GN:Bool:=allT [tI x0 x2||leN x4.length (9223372036854775807:Nat),tI x0 x2||(!Zx x4 x8||leN x5.length (9223372036854775807:Nat)),tI x0 x2||(!Zx x4 x8||(!Zx x5 x9||leN x6.length (9223372036854775807:Nat))),tI x0 x2||(!Zx x4 x8||(!Zx x5 x9||(!Zx x6 x10||(Fe x1 x3||Kr x7 x11))))]
end
def Qn:List SV→List Entry→Option Out
 | [.one ⟨true,[.val (.string x0),.ref 0,.ref 1,.ref 2,.val (.string x1),.ref 3]⟩,.one ⟨true,[.val (.string x2),.ref 4,.ref 5,.ref 6,.val (.string x3),.ref 7]⟩],[.row false 9 (.str) x4,.row false 9 (.str) x5,.row false 9 (.str) x6,.row false 204 (.pair (.str) (.sl 178 (.pair (.int .i64) (.pair (.str) (.int .i64))))) x7,.row false 9 (.str) x8,.row false 9 (.str) x9,.row false 9 (.str) x10,.row false 204 (.pair (.str) (.sl 178 (.pair (.int .i64) (.pair (.str) (.int .i64))))) x11]=>some ⟨.one ⟨false,[.val (.bool (GM x0 x1 x2 x3 x4 x5 x6 x7 x8 x9 x10 x11))]⟩,[.row false 9 aen x4,.row false 9 aen x5,.row false 9 aen x6,.row false 204 (CTy.pair CTy.str (CTy.sl (178:TypeId) abW)) x7,.row false 9 aen x8,.row false 9 aen x9,.row false 9 aen x10,.row false 204 (CTy.pair CTy.str (CTy.sl (178:TypeId) abW)) x11],[],[GN x0 x1 x2 x3 x4 x5 x6 x7 x8 x9 x10 x11]⟩
 |_,_=>none
def LG:PF prog:=PF.ofG prog [LC,PF.lend LC,PF.fz LC,Or,PF.lend Or,PF.fz Or] [] aP 60 f60 func60 (fun c _=>LOk.nil c) Qn (by
 intro vs es r h;unfold Qn at h;split at h
 ·cases h;kernel_rfl
 ·cases h)
abbrev kT:=Int×ByteArray×ByteArray×List ByteArray×List ByteArray×List ByteArray×List (ByteArray×(List (Int×(ByteArray×Int))))
def sV(y0:Int)(y6:List (ByteArray×(List (Int×(ByteArray×Int))))):Bool:=ltI y0 (↑y6.length:Int)
def sW(y0:Int)(y6:List (ByteArray×(List (Int×(ByteArray×Int))))):Bool:=ltN y0.toNat y6.length
def lH(y0:Int)(y6:List (ByteArray×(List (Int×(ByteArray×Int))))):ByteArray×List (Int×ByteArray×Int):=Option.getD y6[Int.toNat y0]? (vO (CTy.pair CTy.str (CTy.sl (178:Nat) abW)))
def iE(y0:Int)(y6:List (ByteArray×(List (Int×(ByteArray×Int))))):Bool:= !lI ((lH y0 y6).1)
def qf(y0:Int)(y6:List (ByteArray×(List (Int×(ByteArray×Int))))):List (Int×ByteArray×Int):=bif !iE y0 y6&&true then (lH y0 y6).2else []
def um(y0:Int)(y6:List (ByteArray×(List (Int×(ByteArray×Int))))):Bool:=sV y0 y6
def Cl(y0:Int):Bool:=leI (0:Int) y0
def Cm(y0:Int)(y6:List (ByteArray×(List (Int×(ByteArray×Int))))):Bool:=sW y0 y6
def Cn(y0:Int)(y6:List (ByteArray×(List (Int×(ByteArray×Int))))):Bool:=rR ((lH y0 y6).1)
def Co(y0:Int)(y6:List (ByteArray×(List (Int×(ByteArray×Int))))):Bool:= !(!iE y0 y6&&true)||leI (0:Int) y0
def Cp(y0:Int)(y6:List (ByteArray×(List (Int×(ByteArray×Int))))):Bool:= !(!iE y0 y6&&true)||sV y0 y6
def Cq(y0:Int)(y6:List (ByteArray×(List (Int×(ByteArray×Int))))):Bool:= !(!iE y0 y6&&true)||sW y0 y6
def Cr(y0:Int)(y6:List (ByteArray×(List (Int×(ByteArray×Int))))):Bool:= !(!iE y0 y6&&true)||Nx (qf y0 y6)
def xW(y0:Int)(y6:List (ByteArray×(List (Int×(ByteArray×Int))))):Bool:=bif iE y0 y6 then true else !Zy (qf y0 y6)
def Cs(y0:Int):Int:=IntKind.wrap .i64 (y0 + (1:Int))
def TQ:kT→List (Nat×SV)
 |(y0,_,_,_,_,_,_)=> [(3,(.one ⟨false,[.val (.int .i64 y0)]⟩)),(1,(.one ⟨false,[.ptr 0 0]⟩))]
def TJ:kT→List (Nat×Entry)
 |(_,y1,y2,y3,y4,y5,y6)=> [(0,(.box 63 [.val (.string y1),.ref 1,.ref 2,.ref 3,.val (.string y2),.ref 4])),(1,(.row false 9 aen y3)),(2,(.row false 9 aen y4)),(3,(.row false 9 aen y5)),(4,(.row false 204 (CTy.pair CTy.str (CTy.sl (178:Nat) abW)) y6))]
def Uk:Nat→kT→List (Nat×SV)
 |0,(_,_,_,_,_,_,_)=> [(2,(.one ⟨false,[.val (.bool false)]⟩))]
 |_,(_,_,_,_,_,_,_)=> []
def Ue:Nat→kT→List (Nat×Entry)
 |0,(_,y1,y2,y3,y4,y5,y6)=> [(0,(.box 63 [.val (.string y1),.ref 1,.ref 2,.ref 3,.val (.string y2),.ref 4])),(1,(.row false 9 aen y3)),(2,(.row false 9 aen y4)),(3,(.row false 9 aen y5)),(4,(.row false 204 (CTy.pair CTy.str (CTy.sl (178:Nat) abW)) y6))]
 |_,(_,y1,y2,y3,y4,y5,y6)=> [(0,(.box 63 [.val (.string y1),.ref 1,.ref 2,.ref 3,.val (.string y2),.ref 4])),(1,(.row false 9 aen y3)),(2,(.row false 9 aen y4)),(3,(.row false 9 aen y5)),(4,(.row false 204 (CTy.pair CTy.str (CTy.sl (178:Nat) abW)) y6))]
def vW:kT→LT kT
 |(y0,y1,y2,y3,y4,y5,y6)=> .ite (um y0 y6) (.need [Cl y0,um y0 y6,Cm y0 y6,Cn y0 y6,Co y0 y6,Cp y0 y6,Cq y0 y6,Cr y0 y6] (.ite (xW y0 y6) (.ext 0 [(0,0),(1,1),(2,2),(3,3),(4,4)]) (.nrm ((Cs y0),y1,y2,y3,y4,y5,y6) [(0,0),(1,1),(2,2),(3,3),(4,4)]))) (.ext 1 [(0,0),(1,1),(2,2),(3,3),(4,4)])
def Gx(s:St):Option kT:=
 (match s.look 3 with
 |some ⟨none,.one ⟨false,[.val (.int .i64 y0)]⟩⟩=>
 (match s.look 1 with
 |some ⟨none,.one ⟨false,[.ptr 320 0]⟩⟩=>
 (match s.ent 320 with
 |some (.box 63 [.val (.string y1),.ref 0,.ref 1,.ref 2,.val (.string y2),.ref 3])=>
 (match s.ent 0 with
 |some (.row false 9 (.str) y3)=>
 (match s.ent 1 with
 |some (.row false 9 (.str) y4)=>
 (match s.ent 2 with
 |some (.row false 9 (.str) y5)=>
 (match s.ent 3 with
 |some (.row false 204 (.pair .str (.sl (178:Nat) (.pair (.int .i64) (.pair .str (.int .i64))))) y6)=>
 some (y0,y1,y2,y3,y4,y5,y6)
 |_=>none)
 |_=>none)
 |_=>none)
 |_=>none)
 |_=>none)
 |_=>none)
 |_=>none)
def ee:Lp kT where
 h:=⟨[37,38,39,40,41,44,45,46,47,48,49,50,51,52,53,54,55,56,57,58,59,60,61,2,42,43,3],[0,1,2,3,4],[],[]⟩
 JL:=TQ
 JE:=TJ
 XL:=Uk
 XE:=Ue
 q:=fun j=>match j with | 0=> .ret | _=> .exit 0
 tags:= [0,1]
 lt:=vW
 fuel:=fun(y0,y1,y2,y3,y4,y5,y6)=>y0.natAbs + y1.size + y2.size + y3.length + y4.length + y5.length + y6.length
 fix:=fun(_,y1,y2,y3,y4,y5,y6) (y0,_,_,_,_,_,_)=>(y0,y1,y2,y3,y4,y5,y6)
 σ:= [(0,320),(1,0),(2,1),(3,2),(4,3)]
 rd:=Gx
theorem RB:LoopOk prog (fun k=>Nat.blt k Tryz.f186.ntmps) ee.F (aZ f186 0):=by
 refine Lp.ok (tbl:= [tP,Gn,Ar,PF.lend Ar,PF.fz Ar,uk,PF.lend uk,PF.fz uk]) (lf:= []) aP ee (by kernel_rfl) (LOk.nil _) (fun _=>rfl) (fun j _=>by unfold ee;match j with | 0=>rfl | _ + 1=>rfl) ?_ ?_ ?_ ?_ (fun _=>rfl) ?_
 ·rintro⟨y0,y1,y2,y3,y4,y5,y6⟩;kernel_rfl
 ·rintro⟨y0,y1,y2,y3,y4,y5,y6⟩;kernel_rfl
 ·intro s x h
  have h:Gx s=some x:=h
  unfold Gx at h
  repeat' split at h
  all_goals cases h
  exact⟨aa (by assumption) rfl (aa (by assumption) rfl (rfl)),ab rfl (by assumption) rfl (ab rfl (by assumption) rfl (ab rfl (by assumption) rfl (ab rfl (by assumption) rfl (ab rfl (by assumption) rfl (rfl)))))⟩
 ·rintro⟨y0,y1,y2,y3,y4,y5,y6⟩;kernel_rfl
 ·rintro⟨y0,y1,y2,y3,y4,y5,y6⟩ z;exact(And.intro (And.intro trivial rfl) trivial)
section
variable (x0:ByteArray)(x2 x3 x4:List ByteArray)
def KG:Bool:=bif !lI x0 then true else !(List.all x2 lN&&inR (↑x2.length:Int) (1:Int) (20:Int))
def KH:Bool:=bif KG x0 x2 then true else !(List.all x3 lN&&inR (↑x3.length:Int) (0:Int) (20:Int))
def KI:Bool:=bif KH x0 x2 x3 then true else !(List.all x4 lN&&inR (↑x4.length:Int) (1:Int) (20:Int))
end
def KJ(x1:ByteArray):Bool:=
 !ByteArray.toList x1==ByteArray.toList { data:= #[] }
section
variable (x0 x1:ByteArray)(x2 x3 x4:List ByteArray)(x5:List (ByteArray×List (Int×ByteArray×Int)))
def KK:Bool:=bif KI x0 x2 x3 x4 then true else bif KJ x1 then !lI x1 else false
def Ft:Int×ByteArray×ByteArray×List ByteArray×List ByteArray×List ByteArray×List (ByteArray×List (Int×ByteArray×Int)):=((0:Int),x0,x1,x2,x3,x4,x5)
def Dc:Bool:=bif KK x0 x1 x2 x3 x4 then false else bif Nat.beq ((Lp.res ee (Ft x0 x1 x2 x3 x4 x5)).1) (0:Nat)then false else br (↑x5.length:Int) (1:Int) (40:Int)
def Hh:Bool:=allT [rR x0,!(!!lI x0&&true)||Lm x2,!(!KG x0 x2&&true)||Lm x3,!(!KH x0 x2 x3&&true)||Lm x4,!(KJ x1&&(!KI x0 x2 x3 x4&&true))||rR x1,KK x0 x1 x2 x3 x4||Lp.fin ee (Ft x0 x1 x2 x3 x4 x5)]
end
def Qt:List SV→List Entry→Option Out
 | [.one ⟨true,[.val (.string x0),.ref 0,.ref 1,.ref 2,.val (.string x1),.ref 3]⟩],[.row false 9 (.str) x2,.row false 9 (.str) x3,.row false 9 (.str) x4,.row false 204 (.pair (.str) (.sl 178 (.pair (.int .i64) (.pair (.str) (.int .i64))))) x5]=>some ⟨.one ⟨false,[.val (.bool (Dc x0 x1 x2 x3 x4 x5))]⟩,[.row false 9 aen x2,.row false 9 aen x3,.row false 9 aen x4,.row false 204 (CTy.pair CTy.str (CTy.sl (178:TypeId) abW)) x5],[],[Hh x0 x1 x2 x3 x4 x5]⟩
 |_,_=>none
def LK:PF prog:=PF.ofG prog [tP,Gn,Ar,PF.lend Ar,PF.fz Ar,uk,PF.lend uk,PF.fz uk] [ee.F] aP 186 f186 func186 (LOk.fnT (l:= [aZ f186 0]) (by kernel_rfl) (.cons RB (.nil _))) Qt (by
 intro vs es r h;unfold Qt at h;split at h
 ·cases h;kernel_rfl
 ·cases h)
def qh(x2:ByteArray)(x3 x4:List ByteArray):Bool:=bif leI (0:Int) (ii x3 x2)then true else leI (0:Int) (ii x4 x2)
def zV(x2:ByteArray)(x3 x4:List ByteArray):Bool:=allT [leN x3.length (9223372036854775807:Nat),!(!leI (0:Int) (ii x3 x2)&&true)||leN x4.length (9223372036854775807:Nat)]
def NN:List SV→List Entry→Option Out
 | [.one ⟨true,[.val (.string _x0),.ref 0,.ref 1,.ref 2,.val (.string _x1),.ref 3]⟩,.one ⟨false,[.val (.string x2)]⟩],[.row false 9 (.str) x3,.row false 9 (.str) x4,.row false 9 (.str) x5,.row false 204 (.pair (.str) (.sl 178 (.pair (.int .i64) (.pair (.str) (.int .i64))))) x6]=>some ⟨.one ⟨false,[.val (.bool (qh x2 x3 x4))]⟩,[.row false 9 aen x3,.row false 9 aen x4,.row false 9 aen x5,.row false 204 (CTy.pair CTy.str (CTy.sl (178:TypeId) abW)) x6],[],[zV x2 x3 x4]⟩
 |_,_=>none
def jk:PF prog:=PF.ofG prog [bO,PF.lend bO,PF.fz bO] [] aP 243 f243 func243 (fun c _=>LOk.nil c) NN (by
 intro vs es r h;unfold NN at h;split at h
 ·cases h;kernel_rfl
 ·cases h)
abbrev lT:=Int×ByteArray×ByteArray×List ByteArray×List ByteArray×List ByteArray×List ByteArray×List (ByteArray×(List (Int×(ByteArray×Int))))
def ic(y0:Int)(y7:List (ByteArray×(List (Int×(ByteArray×Int))))):ByteArray:=(Option.getD y7[Int.toNat y0]? (vO (CTy.pair CTy.str (CTy.sl (178:Nat) abW)))).1
def vr(y0:Int)(y7:List (ByteArray×(List (Int×(ByteArray×Int))))):Bool:=ltI y0 (↑y7.length:Int)
def zI(y0:Int):Bool:=leI (0:Int) y0
def zJ(y0:Int)(y7:List (ByteArray×(List (Int×(ByteArray×Int))))):Bool:=ltN y0.toNat y7.length
def zK(y5:List ByteArray):Bool:=leN y5.length (9223372036854775807:Nat)
def zL(y0:Int)(y5 y6:List ByteArray)(y7:List (ByteArray×(List (Int×(ByteArray×Int))))):Bool:= !(ltI (ii y5 (ic y0 y7)) (0:Int)&&true)||leN y6.length (9223372036854775807:Nat)
def zM(y0:Int)(y5 y6:List ByteArray)(y7:List (ByteArray×(List (Int×(ByteArray×Int))))):Bool:=bif ltI (ii y5 (ic y0 y7)) (0:Int)then ltI (ii y6 (ic y0 y7)) (0:Int)else false
def zN(y0:Int)(y3:List ByteArray)(y7:List (ByteArray×(List (Int×(ByteArray×Int))))):Bool:=leN (List.length y3 + List.length [ic y0 y7]) (9223372036854775807:Nat)
def zO(y0:Int)(y3:List ByteArray)(y7:List (ByteArray×(List (Int×(ByteArray×Int))))):Bool:=leN ((List.length y3 + List.length [ic y0 y7]) * (16:Nat)) (140737488355328:Nat)
def zP(y0:Int):Int:=IntKind.wrap .i64 (y0 + (1:Int))
def zQ(y0:Int)(y3:List ByteArray)(y7:List (ByteArray×(List (Int×(ByteArray×Int))))):List ByteArray:=y3++ [ic y0 y7]
def VJ:lT→List (Nat×SV)
 |(y0,_,_,_,_,_,_,_)=> [(4,(.one ⟨false,[.val (.int .i64 y0)]⟩)),(1,(.one ⟨false,[.ptr 0 0]⟩)),(3,(.one ⟨false,[.ref 1]⟩))]
def VA:lT→List (Nat×Entry)
 |(_,y1,y2,y3,y4,y5,y6,y7)=> [(0,(.box 63 [.val (.string y1),.ref 2,.ref 3,.ref 4,.val (.string y2),.ref 5])),(2,(.row false 9 aen y4)),(3,(.row false 9 aen y5)),(4,(.row false 9 aen y6)),(5,(.row false 204 (CTy.pair CTy.str (CTy.sl (178:Nat) abW)) y7)),(1,(.row true 9 aen y3))]
def Wb:Nat→lT→List (Nat×SV)
 |0,(_,_,_,_,_,_,_,_)=> [(2,(.one ⟨false,[.val (.int .i64 (3:Int))]⟩))]
 |_,(_,_,_,_,_,_,_,_)=> [(3,(.one ⟨false,[.ref 1]⟩))]
def VS:Nat→lT→List (Nat×Entry)
 |0,(_,y1,y2,y3,y4,y5,y6,y7)=> [(0,(.box 63 [.val (.string y1),.ref 2,.ref 3,.ref 4,.val (.string y2),.ref 5])),(1,(.row true 9 aen y3)),(2,(.row false 9 aen y4)),(3,(.row false 9 aen y5)),(4,(.row false 9 aen y6)),(5,(.row false 204 (CTy.pair CTy.str (CTy.sl (178:Nat) abW)) y7))]
 |_,(_,y1,y2,y3,y4,y5,y6,y7)=> [(0,(.box 63 [.val (.string y1),.ref 2,.ref 3,.ref 4,.val (.string y2),.ref 5])),(1,(.row true 9 aen y3)),(2,(.row false 9 aen y4)),(3,(.row false 9 aen y5)),(4,(.row false 9 aen y6)),(5,(.row false 204 (CTy.pair CTy.str (CTy.sl (178:Nat) abW)) y7))]
def xQ:lT→LT lT
 |(y0,y1,y2,y3,y4,y5,y6,y7)=> .ite (vr y0 y7) (.need [zI y0,vr y0 y7,zJ y0 y7] (.need [zK y5,zL y0 y5 y6 y7] (.ite (zM y0 y5 y6 y7) (.ext 0 [(0,0),(1,1),(2,2),(3,3),(4,4),(5,5)]) (.need [zN y0 y3 y7,zO y0 y3 y7] (.nrm ((zP y0),y1,y2,zQ y0 y3 y7,y4,y5,y6,y7) [(0,0),(1,1792),(2,2),(3,3),(4,4),(5,5)]))))) (.ext 1 [(0,0),(1,1),(2,2),(3,3),(4,4),(5,5)])
def HH(s:St):Option lT:=
 (match s.look 4 with
 |some ⟨none,.one ⟨false,[.val (.int .i64 y0)]⟩⟩=>
 (match s.look 1 with
 |some ⟨none,.one ⟨false,[.ptr 320 0]⟩⟩=>
 (match s.look 3 with
 |some ⟨none,.one ⟨false,[.ref 1280]⟩⟩=>
 (match s.ent 320 with
 |some (.box 63 [.val (.string y1),.ref 0,.ref 1,.ref 2,.val (.string y2),.ref 3])=>
 (match s.ent 0 with
 |some (.row false 9 (.str) y4)=>
 (match s.ent 1 with
 |some (.row false 9 (.str) y5)=>
 (match s.ent 2 with
 |some (.row false 9 (.str) y6)=>
 (match s.ent 3 with
 |some (.row false 204 (.pair .str (.sl (178:Nat) (.pair (.int .i64) (.pair .str (.int .i64))))) y7)=>
 (match s.ent 1280 with
 |some (.row true 9 (.str) y3)=>
 some (y0,y1,y2,y3,y4,y5,y6,y7)
 |_=>none)
 |_=>none)
 |_=>none)
 |_=>none)
 |_=>none)
 |_=>none)
 |_=>none)
 |_=>none)
 |_=>none)
def di:Lp lT where
 h:=⟨[23,24,25,26,27,30,31,32,33,34,35,5,36,37,38,39,40,41,42,43,44,45,46,47,2,48,49,50,51,3,28,29,4],[0,2,3,4,5],[1],[]⟩
 JL:=VJ
 JE:=VA
 XL:=Wb
 XE:=VS
 q:=fun j=>match j with | 0=> .ret | _=> .exit 0
 tags:= [0,1]
 lt:=xQ
 fuel:=fun(y0,y1,y2,y3,y4,y5,y6,y7)=>y0.natAbs + y1.size + y2.size + y3.length + y4.length + y5.length + y6.length + y7.length
 fix:=fun(_,y1,y2,_,y4,y5,y6,y7) (y0,_,_,y3,_,_,_,_)=>(y0,y1,y2,y3,y4,y5,y6,y7)
 σ:= [(0,320),(2,0),(3,1),(4,2),(5,3),(1,1280)]
 rd:=HH
theorem Tg:LoopOk prog (fun k=>Nat.blt k Tryz.f187.ntmps) di.F (aZ f187 0):=by
 refine Lp.ok (tbl:= [bO,PF.lend bO,PF.fz bO,qr,PF.lend qr,PF.fz qr,mN,PF.lend mN,PF.fz mN,jk,PF.lend jk,PF.fz jk]) (lf:= []) aP di (by kernel_rfl) (LOk.nil _) (fun _=>rfl) (fun j _=>by unfold di;match j with | 0=>rfl | _ + 1=>rfl) ?_ ?_ ?_ ?_ (fun _=>rfl) ?_
 ·rintro⟨y0,y1,y2,y3,y4,y5,y6,y7⟩;kernel_rfl
 ·rintro⟨y0,y1,y2,y3,y4,y5,y6,y7⟩;kernel_rfl
 ·intro s x h
  have h:HH s=some x:=h
  unfold HH at h
  repeat' split at h
  all_goals cases h
  exact⟨aa (by assumption) rfl (aa (by assumption) rfl (aa (by assumption) rfl (rfl))),ab rfl (by assumption) rfl (ab rfl (by assumption) rfl (ab rfl (by assumption) rfl (ab rfl (by assumption) rfl (ab rfl (by assumption) rfl (ab rfl (by assumption) rfl (rfl))))))⟩
 ·rintro⟨y0,y1,y2,y3,y4,y5,y6,y7⟩;kernel_rfl
 ·rintro⟨y0,y1,y2,y3,y4,y5,y6,y7⟩ z;exact(And.intro (And.intro trivial rfl) trivial)
abbrev mH:=Int×Int×ByteArray×ByteArray×List ByteArray×List ByteArray×List ByteArray×List (ByteArray×(List (Int×(ByteArray×Int))))
def uc(y1:Int)(y7:List (ByteArray×(List (Int×(ByteArray×Int))))):List (Int×ByteArray×Int):=(Option.getD y7[Int.toNat y1]? (vO (CTy.pair CTy.str (CTy.sl (178:Nat) abW)))).2
def ud(y0 y1:Int)(y7:List (ByteArray×(List (Int×(ByteArray×Int))))):Int×ByteArray×Int:=Option.getD (uc y1 y7)[Int.toNat y0]? ((0:Int),ByteArray.empty,(0:Int))
def DZ(y0 y1:Int)(y7:List (ByteArray×(List (Int×(ByteArray×Int))))):Bool:=(ud y0 y1 y7).1==(1:Int)
def EW(y1:Int):Bool:=leI (0:Int) y1
def EX(y1:Int)(y7:List (ByteArray×(List (Int×(ByteArray×Int))))):Bool:=ltI y1 (↑y7.length:Int)
def Ad(y1:Int)(y7:List (ByteArray×(List (Int×(ByteArray×Int))))):Bool:=ltN y1.toNat y7.length
def rG(y0 y1:Int)(y7:List (ByteArray×(List (Int×(ByteArray×Int))))):Bool:=ltI y0 (↑(List.length (uc y1 y7)):Int)
def Lk(y0:Int):Bool:=leI (0:Int) y0
def EY(y0 y1:Int)(y7:List (ByteArray×(List (Int×(ByteArray×Int))))):Bool:=ltN y0.toNat (List.length (uc y1 y7))
def EZ(y0 y1:Int)(y4 y5:List ByteArray)(y7:List (ByteArray×(List (Int×(ByteArray×Int))))):Bool:= !(DZ y0 y1 y7&&true)||zV (((ud y0 y1 y7).2).1) y4 y5
def Fa(y0 y1:Int)(y4 y5:List ByteArray)(y7:List (ByteArray×(List (Int×(ByteArray×Int))))):Bool:=bif DZ y0 y1 y7 then !qh (((ud y0 y1 y7).2).1) y4 y5 else false
def Ll(y0:Int):Int:=IntKind.wrap .i64 (y0 + (1:Int))
def Rh:mH→List (Nat×SV)
 |(y0,y1,_,_,_,_,_,_)=> [(7,(.one ⟨false,[.val (.int .i64 y0)]⟩)),(1,(.one ⟨false,[.ptr 0 0]⟩)),(6,(.one ⟨false,[.val (.int .i64 y1)]⟩))]
def Rg:mH→List (Nat×Entry)
 |(_,_,y2,y3,y4,y5,y6,y7)=> [(0,(.box 63 [.val (.string y2),.ref 1,.ref 2,.ref 3,.val (.string y3),.ref 4])),(1,(.row false 9 aen y4)),(2,(.row false 9 aen y5)),(3,(.row false 9 aen y6)),(4,(.row false 204 (CTy.pair CTy.str (CTy.sl (178:Nat) abW)) y7))]
def Rj:Nat→mH→List (Nat×SV)
 |0,(_,_,_,_,_,_,_,_)=> [(2,(.one ⟨false,[.val (.int .i64 (6:Int))]⟩))]
 |_,(_,_,_,_,_,_,_,_)=> []
def Ri:Nat→mH→List (Nat×Entry)
 |0,(_,_,y2,y3,y4,y5,y6,y7)=> [(0,(.box 63 [.val (.string y2),.ref 1,.ref 2,.ref 3,.val (.string y3),.ref 4])),(1,(.row false 9 aen y4)),(2,(.row false 9 aen y5)),(3,(.row false 9 aen y6)),(4,(.row false 204 (CTy.pair CTy.str (CTy.sl (178:Nat) abW)) y7))]
 |_,(_,_,y2,y3,y4,y5,y6,y7)=> [(0,(.box 63 [.val (.string y2),.ref 1,.ref 2,.ref 3,.val (.string y3),.ref 4])),(1,(.row false 9 aen y4)),(2,(.row false 9 aen y5)),(3,(.row false 9 aen y6)),(4,(.row false 204 (CTy.pair CTy.str (CTy.sl (178:Nat) abW)) y7))]
def tK:mH→LT mH
 |(y0,y1,y2,y3,y4,y5,y6,y7)=> .need [EW y1,EX y1 y7,Ad y1 y7] (.ite (rG y0 y1 y7) (.need [EW y1,EX y1 y7,Ad y1 y7,Lk y0,rG y0 y1 y7,EY y0 y1 y7] (.need [EZ y0 y1 y4 y5 y7] (.ite (Fa y0 y1 y4 y5 y7) (.ext 0 [(0,0),(1,1),(2,2),(3,3),(4,4)]) (.nrm ((Ll y0),y1,y2,y3,y4,y5,y6,y7) [(0,0),(1,1),(2,2),(3,3),(4,4)])))) (.ext 1 [(0,0),(1,1),(2,2),(3,3),(4,4)]))
def DR(s:St):Option mH:=
 (match s.look 7 with
 |some ⟨none,.one ⟨false,[.val (.int .i64 y0)]⟩⟩=>
 (match s.look 1 with
 |some ⟨none,.one ⟨false,[.ptr 0 0]⟩⟩=>
 (match s.look 6 with
 |some ⟨none,.one ⟨false,[.val (.int .i64 y1)]⟩⟩=>
 (match s.ent 0 with
 |some (.box 63 [.val (.string y2),.ref 1,.ref 2,.ref 3,.val (.string y3),.ref 4])=>
 (match s.ent 1 with
 |some (.row false 9 (.str) y4)=>
 (match s.ent 2 with
 |some (.row false 9 (.str) y5)=>
 (match s.ent 3 with
 |some (.row false 9 (.str) y6)=>
 (match s.ent 4 with
 |some (.row false 204 (.pair .str (.sl (178:Nat) (.pair (.int .i64) (.pair .str (.int .i64))))) y7)=>
 some (y0,y1,y2,y3,y4,y5,y6,y7)
 |_=>none)
 |_=>none)
 |_=>none)
 |_=>none)
 |_=>none)
 |_=>none)
 |_=>none)
 |_=>none)
def dv:Lp mH where
 h:=⟨[71,72,73,74,75,76,77,78,79,82,83,84,85,86,87,88,89,90,8,91,92,93,94,95,96,97,98,99,100,2,80,81,7],[0,1,2,3,4],[],[]⟩
 JL:=Rh
 JE:=Rg
 XL:=Rj
 XE:=Ri
 q:=fun j=>match j with | 0=> .ret | _=> .exit 4
 tags:= [0,1]
 lt:=tK
 fuel:=fun(y0,y1,y2,y3,y4,y5,y6,y7)=>y0.natAbs + y1.natAbs + y2.size + y3.size + y4.length + y5.length + y6.length + y7.length
 fix:=fun(_,y1,y2,y3,y4,y5,y6,y7) (y0,_,_,_,_,_,_,_)=>(y0,y1,y2,y3,y4,y5,y6,y7)
 σ:= [(0,0),(1,1),(2,2),(3,3),(4,4)]
 rd:=DR
theorem Qc:LoopOk prog (memN [64,65,66,67,68,7,71,72,73,74,75,76,77,78,79,82,83,84,85,86,87,88,89,90,8,91,92,93,94,95,96,97,98,99,100,2,80,81,69,70,6]) dv.F (UE (aZ f187 1) 0):=by
 refine Lp.ok (tbl:= [bO,PF.lend bO,PF.fz bO,qr,PF.lend qr,PF.fz qr,mN,PF.lend mN,PF.fz mN,jk,PF.lend jk,PF.fz jk]) (lf:= []) aP dv (by kernel_rfl) (LOk.nil _) (fun _=>rfl) (fun j _=>by unfold dv;match j with | 0=>rfl | _ + 1=>rfl) ?_ ?_ ?_ ?_ (fun _=>rfl) ?_
 ·rintro⟨y0,y1,y2,y3,y4,y5,y6,y7⟩;kernel_rfl
 ·rintro⟨y0,y1,y2,y3,y4,y5,y6,y7⟩;kernel_rfl
 ·intro s x h
  have h:DR s=some x:=h
  unfold DR at h
  repeat' split at h
  all_goals cases h
  exact⟨aa (by assumption) rfl (aa (by assumption) rfl (aa (by assumption) rfl (rfl))),ab rfl (by assumption) rfl (ab rfl (by assumption) rfl (ab rfl (by assumption) rfl (ab rfl (by assumption) rfl (ab rfl (by assumption) rfl (rfl)))))⟩
 ·rintro⟨y0,y1,y2,y3,y4,y5,y6,y7⟩;kernel_rfl
 ·rintro⟨y0,y1,y2,y3,y4,y5,y6,y7⟩ z;exact(And.intro (And.intro trivial rfl) trivial)
abbrev pL:=Int×ByteArray×ByteArray×List ByteArray×List ByteArray×List ByteArray×List (ByteArray×(List (Int×(ByteArray×Int))))
def HN(y0:Int)(y1 y2:ByteArray)(y3 y4 y5:List ByteArray)(y6:List (ByteArray×(List (Int×(ByteArray×Int))))):Int×Int×ByteArray×ByteArray×List ByteArray×List ByteArray×List ByteArray×List (ByteArray×List (Int×ByteArray×Int)):=((0:Int),y0,y1,y2,y3,y4,y5,y6)
def Jl(y0:Int)(y6:List (ByteArray×(List (Int×(ByteArray×Int))))):Bool:=ltI y0 (↑y6.length:Int)
def OL(y0:Int)(y1 y2:ByteArray)(y3 y4 y5:List ByteArray)(y6:List (ByteArray×(List (Int×(ByteArray×Int))))):Bool:=Lp.fin dv (HN y0 y1 y2 y3 y4 y5 y6)
def Jm(y0:Int)(y1 y2:ByteArray)(y3 y4 y5:List ByteArray)(y6:List (ByteArray×(List (Int×(ByteArray×Int))))):Bool:=Nat.beq ((Lp.res dv (HN y0 y1 y2 y3 y4 y5 y6)).1) (0:Nat)
def OM(y0:Int):Int:=IntKind.wrap .i64 (y0 + (1:Int))
def VK:pL→List (Nat×SV)
 |(y0,_,_,_,_,_,_)=> [(6,(.one ⟨false,[.val (.int .i64 y0)]⟩)),(1,(.one ⟨false,[.ptr 0 0]⟩))]
def VB:pL→List (Nat×Entry)
 |(_,y1,y2,y3,y4,y5,y6)=> [(0,(.box 63 [.val (.string y1),.ref 1,.ref 2,.ref 3,.val (.string y2),.ref 4])),(1,(.row false 9 aen y3)),(2,(.row false 9 aen y4)),(3,(.row false 9 aen y5)),(4,(.row false 204 (CTy.pair CTy.str (CTy.sl (178:Nat) abW)) y6))]
def Wc:Nat→pL→List (Nat×SV)
 |0,(_,_,_,_,_,_,_)=> [(2,(.one ⟨false,[.val (.int .i64 (6:Int))]⟩))]
 |_,(_,_,_,_,_,_,_)=> []
def VT:Nat→pL→List (Nat×Entry)
 |0,(_,y1,y2,y3,y4,y5,y6)=> [(0,(.box 63 [.val (.string y1),.ref 1,.ref 2,.ref 3,.val (.string y2),.ref 4])),(1,(.row false 9 aen y3)),(2,(.row false 9 aen y4)),(3,(.row false 9 aen y5)),(4,(.row false 204 (CTy.pair CTy.str (CTy.sl (178:Nat) abW)) y6))]
 |_,(_,y1,y2,y3,y4,y5,y6)=> [(0,(.box 63 [.val (.string y1),.ref 1,.ref 2,.ref 3,.val (.string y2),.ref 4])),(1,(.row false 9 aen y3)),(2,(.row false 9 aen y4)),(3,(.row false 9 aen y5)),(4,(.row false 204 (CTy.pair CTy.str (CTy.sl (178:Nat) abW)) y6))]
def xR:pL→LT pL
 |(y0,y1,y2,y3,y4,y5,y6)=> .ite (Jl y0 y6) (.need [OL y0 y1 y2 y3 y4 y5 y6] (.ite (Jm y0 y1 y2 y3 y4 y5 y6) (.ext 0 [(0,0),(1,1),(2,2),(3,3),(4,4)]) (.nrm ((OM y0),y1,y2,y3,y4,y5,y6) [(0,0),(1,1),(2,2),(3,3),(4,4)]))) (.ext 1 [(0,0),(1,1),(2,2),(3,3),(4,4)])
def HI(s:St):Option pL:=
 (match s.look 6 with
 |some ⟨none,.one ⟨false,[.val (.int .i64 y0)]⟩⟩=>
 (match s.look 1 with
 |some ⟨none,.one ⟨false,[.ptr 320 0]⟩⟩=>
 (match s.ent 320 with
 |some (.box 63 [.val (.string y1),.ref 0,.ref 1,.ref 2,.val (.string y2),.ref 3])=>
 (match s.ent 0 with
 |some (.row false 9 (.str) y3)=>
 (match s.ent 1 with
 |some (.row false 9 (.str) y4)=>
 (match s.ent 2 with
 |some (.row false 9 (.str) y5)=>
 (match s.ent 3 with
 |some (.row false 204 (.pair .str (.sl (178:Nat) (.pair (.int .i64) (.pair .str (.int .i64))))) y6)=>
 some (y0,y1,y2,y3,y4,y5,y6)
 |_=>none)
 |_=>none)
 |_=>none)
 |_=>none)
 |_=>none)
 |_=>none)
 |_=>none)
def dJ:Lp pL where
 h:=⟨[64,65,66,67,68,7,71,72,73,74,75,76,77,78,79,82,83,84,85,86,87,88,89,90,8,91,92,93,94,95,96,97,98,99,100,2,80,81,69,70,6],[0,1,2,3,4],[],[]⟩
 JL:=VK
 JE:=VB
 XL:=Wc
 XE:=VT
 q:=fun j=>match j with | 0=> .ret | _=> .exit 2
 tags:= [0,1]
 lt:=xR
 fuel:=fun(y0,y1,y2,y3,y4,y5,y6)=>y0.natAbs + y1.size + y2.size + y3.length + y4.length + y5.length + y6.length
 fix:=fun(_,y1,y2,y3,y4,y5,y6) (y0,_,_,_,_,_,_)=>(y0,y1,y2,y3,y4,y5,y6)
 σ:= [(0,320),(1,0),(2,1),(3,2),(4,3)]
 rd:=HI
theorem Th:LoopOk prog (fun k=>Nat.blt k Tryz.f187.ntmps) dJ.F (aZ f187 1):=by
 refine Lp.ok (tbl:= [bO,PF.lend bO,PF.fz bO,qr,PF.lend qr,PF.fz qr,mN,PF.lend mN,PF.fz mN,jk,PF.lend jk,PF.fz jk]) (lf:= [dv.F]) aP dJ (by kernel_rfl) (LOk.allT (l:= [UE (aZ f187 1) 0]) (by kernel_rfl) (.cons Qc (.nil _))) (fun _=>rfl) (fun j _=>by unfold dJ;match j with | 0=>rfl | _ + 1=>rfl) ?_ ?_ ?_ ?_ (fun _=>rfl) ?_
 ·rintro⟨y0,y1,y2,y3,y4,y5,y6⟩;kernel_rfl
 ·rintro⟨y0,y1,y2,y3,y4,y5,y6⟩;kernel_rfl
 ·intro s x h
  have h:HI s=some x:=h
  unfold HI at h
  repeat' split at h
  all_goals cases h
  exact⟨aa (by assumption) rfl (aa (by assumption) rfl (rfl)),ab rfl (by assumption) rfl (ab rfl (by assumption) rfl (ab rfl (by assumption) rfl (ab rfl (by assumption) rfl (ab rfl (by assumption) rfl (rfl)))))⟩
 ·rintro⟨y0,y1,y2,y3,y4,y5,y6⟩;kernel_rfl
 ·rintro⟨y0,y1,y2,y3,y4,y5,y6⟩ z;exact(And.intro (And.intro trivial rfl) trivial)
def tg(x2 x3 x4:List ByteArray):List ByteArray:=x2++x3++x4
def vq(x1:ByteArray):Bool:=
 !ByteArray.toList x1==ByteArray.toList { data:= #[] }
section
variable (x0 x1:ByteArray)(x2 x3 x4:List ByteArray)(x5:List (ByteArray×List (Int×ByteArray×Int)))
def Hi:List ByteArray×List ByteArray×List ByteArray×List (ByteArray×List (Int×ByteArray×Int)):=(x2,x3,x4,x5)
def yy:Int×ByteArray×ByteArray×List ByteArray×List ByteArray×List ByteArray×List ByteArray×List (ByteArray×List (Int×ByteArray×Int)):=((0:Int),x0,x1,[],Hi x2 x3 x4 x5)
def Df:Bool:=Nat.beq ((Lp.res di (yy x0 x1 x2 x3 x4 x5)).1) (0:Nat)
def yz:List ByteArray:=((Lp.res di (yy x0 x1 x2 x3 x4 x5)).2.2.2.2).1
def Hj:Bool:=ltI (↑(List.length (yz x0 x1 x2 x3 x4 x5)):Int) (IntKind.wrap .i64 ((↑x3.length:Int) + (↑x4.length:Int)))
def Hk:Int×ByteArray×ByteArray×List ByteArray×List ByteArray×List ByteArray×List (ByteArray×List (Int×ByteArray×Int)):=((0:Int),x0,x1,Hi x2 x3 x4 x5)
def IB:Int:=bif qq (tg x2 x3 x4)then(1:Int)else bif bif vq x1 then !qh x1 x2 x3 else false then(2:Int)else bif Df x0 x1 x2 x3 x4 x5 then(3:Int)else bif qq (yz x0 x1 x2 x3 x4 x5)then(4:Int)else bif Hj x0 x1 x2 x3 x4 x5 then(5:Int)else bif Nat.beq ((Lp.res dJ (Hk x0 x1 x2 x3 x4 x5)).1) (0:Nat)then(6:Int)else(0:Int)
def IC:Bool:=allT [leN (List.length x2 + List.length x3 + List.length x4) (2000000:Nat),leN (List.length (tg x2 x3 x4)) (9223372036854775807:Nat),qq (tg x2 x3 x4)||(!(vq x1&&true)||zV x1 x2 x3),qq (tg x2 x3 x4)||((bif vq x1 then !qh x1 x2 x3 else false)||Lp.fin di (yy x0 x1 x2 x3 x4 x5)),qq (tg x2 x3 x4)||((bif vq x1 then !qh x1 x2 x3 else false)||(Df x0 x1 x2 x3 x4 x5||leN (List.length (yz x0 x1 x2 x3 x4 x5)) (9223372036854775807:Nat))),qq (tg x2 x3 x4)||((bif vq x1 then !qh x1 x2 x3 else false)||(Df x0 x1 x2 x3 x4 x5||(qq (yz x0 x1 x2 x3 x4 x5)||(Hj x0 x1 x2 x3 x4 x5||Lp.fin dJ (Hk x0 x1 x2 x3 x4 x5)))))]
end
def Si:List SV→List Entry→Option Out
 | [.one ⟨true,[.val (.string x0),.ref 0,.ref 1,.ref 2,.val (.string x1),.ref 3]⟩],[.row false 9 (.str) x2,.row false 9 (.str) x3,.row false 9 (.str) x4,.row false 204 (.pair (.str) (.sl 178 (.pair (.int .i64) (.pair (.str) (.int .i64))))) x5]=>some ⟨.one ⟨false,[.val (.int .i64 (IB x0 x1 x2 x3 x4 x5))]⟩,[.row false 9 aen x2,.row false 9 aen x3,.row false 9 aen x4,.row false 204 (CTy.pair CTy.str (CTy.sl (178:TypeId) abW)) x5],[],[IC x0 x1 x2 x3 x4 x5]⟩
 |_,_=>none
def MW:PF prog:=PF.ofG prog [bO,PF.lend bO,PF.fz bO,qr,PF.lend qr,PF.fz qr,mN,PF.lend mN,PF.fz mN,jk,PF.lend jk,PF.fz jk] [di.F,dJ.F] aP 187 f187 func187 (LOk.fnT (l:= [aZ f187 0,aZ f187 1]) (by kernel_rfl) (.cons Tg (.cons Th (.nil _)))) Si (by
 intro vs es r h;unfold Si at h;split at h
 ·cases h;kernel_rfl
 ·cases h)
def OD(x0 x1:ByteArray)(x2 x3 x4:List ByteArray)(x5:List (ByteArray×List (Int×ByteArray×Int))):Bool:=bif Dc x0 x1 x2 x3 x4 x5 then IB x0 x1 x2 x3 x4 x5==(0:Int)else false
def OE(x0 x1:ByteArray)(x2 x3 x4:List ByteArray)(x5:List (ByteArray×List (Int×ByteArray×Int))):Bool:=allT [Hh x0 x1 x2 x3 x4 x5,!(Dc x0 x1 x2 x3 x4 x5&&true)||IC x0 x1 x2 x3 x4 x5]
def Tu:List SV→List Entry→Option Out
 | [.one ⟨true,[.val (.string x0),.ref 0,.ref 1,.ref 2,.val (.string x1),.ref 3]⟩],[.row false 9 (.str) x2,.row false 9 (.str) x3,.row false 9 (.str) x4,.row false 204 (.pair (.str) (.sl 178 (.pair (.int .i64) (.pair (.str) (.int .i64))))) x5]=>some ⟨.one ⟨false,[.val (.bool (OD x0 x1 x2 x3 x4 x5))]⟩,[.row false 9 aen x2,.row false 9 aen x3,.row false 9 aen x4,.row false 204 (CTy.pair CTy.str (CTy.sl (178:TypeId) abW)) x5],[],[OE x0 x1 x2 x3 x4 x5]⟩
 |_,_=>none
def adl:PF prog:=PF.ofG prog [LK,PF.lend LK,PF.fz LK,MW,PF.lend MW,PF.fz MW] [] aP 118 f118 func118 (fun c _=>LOk.nil c) Tu (by
 intro vs es r h;unfold Tu at h;split at h
 ·cases h;kernel_rfl
 ·cases h)
def CS(x1:List (Int×ByteArray×Int)):Bool:=ltI (40:Int) (↑x1.length:Int)
def sx:List SV→List Entry→Option Out
 | [.one ⟨true,[.val (.string _x0),.ref 0]⟩],[.row false 178 (.pair (.int .i64) (.pair (.str) (.int .i64))) x1]=>some ⟨.one ⟨false,[.val (.bool (CS x1))]⟩,[.row false 178 abW x1],[],[]⟩
 |_,_=>none
def ng:PF prog:=PF.ofG prog [] [] aP 261 f261 func261 (fun c _=>LOk.nil c) sx (by
 intro vs es r h;unfold sx at h;split at h
 ·cases h;kernel_rfl
 ·cases h)
def cm(x1:List (Int×ByteArray×Int)):Bool:=ltI (40:Int) (↑x1.length:Int)
def pK:List SV→List Entry→Option Out
 | [.one ⟨true,[.val (.string _x0),.ref 0]⟩],[.row false 178 (.pair (.int .i64) (.pair .str (.int .i64))) x1]=>some ⟨.one ⟨false,[.val (.bool (cm x1))]⟩,[.row false 178 abW x1],[],[]⟩
 |_,_=>none
def cp:PF prog:=PF.ofG prog [] [] aP 261 f261 func261 (fun c _=>LOk.nil c) pK (by
 intro vs es r h;unfold pK at h;split at h
 ·cases h;kernel_rfl
 ·cases h)
abbrev bv:=Int×Int×List (ByteArray×(List (Int×(ByteArray×Int))))
def iT(y0 y1:Int):Bool:=ltI y0 y1
def mh(y0:Int):Bool:=leI (0:Int) y0
def mi(y0:Int)(y2:List (ByteArray×(List (Int×(ByteArray×Int))))):Bool:=ltI y0 (↑y2.length:Int)
def mj(y0:Int)(y2:List (ByteArray×(List (Int×(ByteArray×Int))))):Bool:=ltN y0.toNat y2.length
def fw(y0:Int)(y2:List (ByteArray×(List (Int×(ByteArray×Int))))):Bool:=cm ((Option.getD y2[Int.toNat y0]? (vO (CTy.pair CTy.str (CTy.sl (178:Nat) abW)))).2)
def qQ(y0:Int):Int:=IntKind.wrap .i64 (y0 + (1:Int))
def FK:bv→List (Nat×SV)
 |(y0,y1,_)=> [(8,(.one ⟨false,[.val (.int .i64 y0)]⟩)),(7,(.one ⟨false,[.val (.int .i64 y1)]⟩)),(1,(.one ⟨false,[.val (.func (.func 261) ⟨[]⟩ ⟨[]⟩)]⟩)),(0,(.one ⟨false,[.ref 0]⟩))]
def FF:bv→List (Nat×Entry)
 |(_,_,y2)=> [(0,(.row false 204 (CTy.pair CTy.str (CTy.sl (178:Nat) abW)) y2))]
def FV:Nat→bv→List (Nat×SV)
 |0,(y0,_,_)=> [(4,(.one ⟨false,[.val (.int .i64 y0)]⟩))]
 |_,(_,_,_)=> []
def FQ:Nat→bv→List (Nat×Entry)
 |0,(_,_,y2)=> [(0,(.row false 204 (CTy.pair CTy.str (CTy.sl (178:Nat) abW)) y2))]
 |_,(_,_,y2)=> [(0,(.row false 204 (CTy.pair CTy.str (CTy.sl (178:Nat) abW)) y2))]
def iA:bv→LT bv
 |(y0,y1,y2)=> .ite (iT y0 y1) (.need [mh y0,mi y0 y2,mj y0 y2] (.ite (fw y0 y2) (.ext 0 [(0,0)]) (.nrm ((qQ y0),y1,y2) [(0,0)]))) (.ext 1 [(0,0)])
def pU(s:St):Option bv:=
 (match s.look 8 with
 |some ⟨none,.one ⟨false,[.val (.int .i64 y0)]⟩⟩=>
 (match s.look 7 with
 |some ⟨none,.one ⟨false,[.val (.int .i64 y1)]⟩⟩=>
 (match s.look 1 with
 |some ⟨none,.one ⟨false,[.val (.func (.func 261) ⟨[]⟩ ⟨[]⟩)]⟩⟩=>
 (match s.look 0 with
 |some ⟨none,.one ⟨false,[.ref 0]⟩⟩=>
 (match s.ent 0 with
 |some (.row false 204 (.pair .str (.sl (178:Nat) (.pair (.int .i64) (.pair .str (.int .i64))))) y2)=>
 some (y0,y1,y2)
 |_=>none)
 |_=>none)
 |_=>none)
 |_=>none)
 |_=>none)
def ax:Lp bv where
 h:=⟨[9,10,5,11,12,13,14,15,16,17,4,18,8],[0],[],[]⟩
 JL:=FK
 JE:=FF
 XL:=FV
 XE:=FQ
 q:=fun j=>match j with | 0=> .ret | _=> .exit 0
 tags:= [0,1]
 lt:=iA
 fuel:=fun(y0,y1,y2)=>y0.natAbs + y1.natAbs + y2.length
 fix:=fun(_,y1,y2) (y0,_,_)=>(y0,y1,y2)
 σ:= [(0,0)]
 rd:=pU
theorem EM:LoopOk prog (fun k=>Nat.blt k Tryz.f262.ntmps) ax.F (aZ f262 0):=by
 refine Lp.ok (tbl:= [cp,PF.lend cp,PF.fz cp]) (lf:= []) aP ax (by kernel_rfl) (LOk.nil _) (fun _=>rfl) (fun j _=>by unfold ax;match j with | 0=>rfl | _ + 1=>rfl) ?_ ?_ ?_ ?_ (fun _=>rfl) ?_
 ·rintro⟨y0,y1,y2⟩;kernel_rfl
 ·rintro⟨y0,y1,y2⟩;kernel_rfl
 ·intro s x h
  have h:pU s=some x:=h
  unfold pU at h
  repeat' split at h
  all_goals cases h
  exact⟨aa (by assumption) rfl (aa (by assumption) rfl (aa (by assumption) rfl (aa (by assumption) rfl (rfl)))),ab rfl (by assumption) rfl (rfl)⟩
 ·rintro⟨y0,y1,y2⟩;kernel_rfl
 ·rintro⟨y0,y1,y2⟩ z;exact(And.intro (And.intro trivial rfl) trivial)
section
variable (x0:List (ByteArray×List (Int×ByteArray×Int)))
def nv:Int×Int×List (ByteArray×List (Int×ByteArray×Int)):=((0:Int),(↑x0.length:Int),x0)
def sg:Int:=bif Nat.beq ((Lp.res ax (nv x0)).1) (0:Nat)then ((Lp.res ax (nv x0)).2).1else(-1:Int)
def si:Bool:=allT [Lp.fin ax (nv x0)]
end
def yB:List SV→List Entry→Option Out
 | [.one ⟨false,[.ref 0]⟩,.one ⟨false,[.val (.func (.func 261) ⟨[]⟩ ⟨[]⟩)]⟩],[.row false 204 (.pair .str (.sl (178:Nat) (.pair (.int .i64) (.pair .str (.int .i64))))) x0]=>some ⟨.one ⟨false,[.val (.int .i64 (sg x0))]⟩,[.row false 204 (CTy.pair CTy.str (CTy.sl (178:Nat) abW)) x0],[],[si x0]⟩
 |_,_=>none
def sb:PF prog:=PF.ofG prog [cp,PF.lend cp,PF.fz cp] [ax.F] aP 262 f262 func262 (LOk.fnT (l:= [aZ f262 0]) (by kernel_rfl) (.cons EM (.nil _))) yB (by
 intro vs es r h;unfold yB at h;split at h
 ·cases h;kernel_rfl
 ·cases h)
def qM(x0:List (ByteArray×List (Int×ByteArray×Int))):Bool:=leI (0:Int) (sg x0)
def qN(x0:List (ByteArray×List (Int×ByteArray×Int))):Bool:=allT [si x0]
def wA:List SV→List Entry→Option Out
 | [.one ⟨false,[.ref 0]⟩,.one ⟨false,[.val (.func (.func 261) ⟨[]⟩ ⟨[]⟩)]⟩],[.row false 204 (.pair .str (.sl (178:Nat) (.pair (.int .i64) (.pair .str (.int .i64))))) x0]=>some ⟨.one ⟨false,[.val (.bool (qM x0))]⟩,[.row false 204 (CTy.pair CTy.str (CTy.sl (178:Nat) abW)) x0],[],[qN x0]⟩
 |_,_=>none
def qD:PF prog:=PF.ofG prog [sb,PF.lend sb,PF.fz sb] [] aP 229 f229 func229 (fun c _=>LOk.nil c) wA (by
 intro vs es r h;unfold wA at h;split at h
 ·cases h;kernel_rfl
 ·cases h)
section
variable (x2 x3 x4:List ByteArray)(x5:List (ByteArray×List (Int×ByteArray×Int)))
def nz:Bool:=bif bif bif leI (↑x2.length:Int) (20:Int)then leI (↑x3.length:Int) (20:Int)else false then leI (↑x4.length:Int) (20:Int)else false then leI (↑x5.length:Int) (40:Int)else false
def jy:Bool:=bif nz x2 x3 x4 x5 then !qM x5 else false
def jz:Bool:=allT [!(nz x2 x3 x4 x5&&true)||qN x5]
end
def tC:List SV→List Entry→Option Out
 | [.one ⟨true,[.val (.string _x0),.ref 0,.ref 1,.ref 2,.val (.string _x1),.ref 3]⟩],[.row false 9 (.str) x2,.row false 9 (.str) x3,.row false 9 (.str) x4,.row false 204 (.pair (.str) (.sl 178 (.pair (.int .i64) (.pair (.str) (.int .i64))))) x5]=>some ⟨.one ⟨false,[.val (.bool (jy x2 x3 x4 x5))]⟩,[.row false 9 aen x2,.row false 9 aen x3,.row false 9 aen x4,.row false 204 (CTy.pair CTy.str (CTy.sl (178:TypeId) abW)) x5],[],[jz x2 x3 x4 x5]⟩
 |_,_=>none
def nY:PF prog:=PF.ofG prog [ng,PF.lend ng,PF.fz ng,qD,PF.lend qD,PF.fz qD] [] aP 228 f228 func228 (fun c _=>LOk.nil c) tC (by
 intro vs es r h;unfold tC at h;split at h
 ·cases h;kernel_rfl
 ·cases h)
def Yf(x0:ByteArray)(x1:List (Int×ByteArray×Int)):Bool:= !lineB (x0,x1)
def Yg(x1:List (Int×ByteArray×Int)):Bool:=allT [Nx x1]
def NL:List SV→List Entry→Option Out
 | [.one ⟨true,[.val (.string x0),.ref 0]⟩],[.row false 178 (.pair (.int .i64) (.pair (.str) (.int .i64))) x1]=>some ⟨.one ⟨false,[.val (.bool (Yf x0 x1))]⟩,[.row false 178 abW x1],[],[Yg x1]⟩
 |_,_=>none
def IO:PF prog:=PF.ofG prog [EA,PF.lend EA,PF.fz EA] [] aP 230 f230 func230 (fun c _=>LOk.nil c) NL (by
 intro vs es r h;unfold NL at h;split at h
 ·cases h;kernel_rfl
 ·cases h)
def vI(x0:ByteArray)(x1:List (Int×ByteArray×Int)):Bool:= !lineB (x0,x1)
def BL(x1:List (Int×ByteArray×Int)):Bool:=allT [Nx x1]
def HR:List SV→List Entry→Option Out
 | [.one ⟨true,[.val (.string x0),.ref 0]⟩],[.row false 178 (.pair (.int .i64) (.pair .str (.int .i64))) x1]=>some ⟨.one ⟨false,[.val (.bool (vI x0 x1))]⟩,[.row false 178 abW x1],[],[BL x1]⟩
 |_,_=>none
def oI:PF prog:=PF.ofG prog [EA,PF.lend EA,PF.fz EA] [] aP 230 f230 func230 (fun c _=>LOk.nil c) HR (by
 intro vs es r h;unfold HR at h;split at h
 ·cases h;kernel_rfl
 ·cases h)
abbrev bw:=Int×Int×List (ByteArray×(List (Int×(ByteArray×Int))))
def bS(y0:Int)(y2:List (ByteArray×(List (Int×(ByteArray×Int))))):ByteArray×List (Int×ByteArray×Int):=Option.getD y2[Int.toNat y0]? (vO (CTy.pair CTy.str (CTy.sl (178:Nat) abW)))
def iU(y0 y1:Int):Bool:=ltI y0 y1
def ml(y0:Int):Bool:=leI (0:Int) y0
def mm(y0:Int)(y2:List (ByteArray×(List (Int×(ByteArray×Int))))):Bool:=ltI y0 (↑y2.length:Int)
def mn(y0:Int)(y2:List (ByteArray×(List (Int×(ByteArray×Int))))):Bool:=ltN y0.toNat y2.length
def iV(y0:Int)(y2:List (ByteArray×(List (Int×(ByteArray×Int))))):Bool:=BL ((bS y0 y2).2)
def iW(y0:Int)(y2:List (ByteArray×(List (Int×(ByteArray×Int))))):Bool:=vI ((bS y0 y2).1) ((bS y0 y2).2)
def qR(y0:Int):Int:=IntKind.wrap .i64 (y0 + (1:Int))
def FL:bw→List (Nat×SV)
 |(y0,y1,_)=> [(8,(.one ⟨false,[.val (.int .i64 y0)]⟩)),(7,(.one ⟨false,[.val (.int .i64 y1)]⟩)),(1,(.one ⟨false,[.val (.func (.func 230) ⟨[]⟩ ⟨[]⟩)]⟩)),(0,(.one ⟨false,[.ref 0]⟩))]
def FG:bw→List (Nat×Entry)
 |(_,_,y2)=> [(0,(.row false 204 (CTy.pair CTy.str (CTy.sl (178:Nat) abW)) y2))]
def FW:Nat→bw→List (Nat×SV)
 |0,(y0,_,_)=> [(4,(.one ⟨false,[.val (.int .i64 y0)]⟩))]
 |_,(_,_,_)=> []
def FR:Nat→bw→List (Nat×Entry)
 |0,(_,_,y2)=> [(0,(.row false 204 (CTy.pair CTy.str (CTy.sl (178:Nat) abW)) y2))]
 |_,(_,_,y2)=> [(0,(.row false 204 (CTy.pair CTy.str (CTy.sl (178:Nat) abW)) y2))]
def iB:bw→LT bw
 |(y0,y1,y2)=> .ite (iU y0 y1) (.need [ml y0,mm y0 y2,mn y0 y2,iV y0 y2] (.ite (iW y0 y2) (.ext 0 [(0,0)]) (.nrm ((qR y0),y1,y2) [(0,0)]))) (.ext 1 [(0,0)])
def pV(s:St):Option bw:=
 (match s.look 8 with
 |some ⟨none,.one ⟨false,[.val (.int .i64 y0)]⟩⟩=>
 (match s.look 7 with
 |some ⟨none,.one ⟨false,[.val (.int .i64 y1)]⟩⟩=>
 (match s.look 1 with
 |some ⟨none,.one ⟨false,[.val (.func (.func 230) ⟨[]⟩ ⟨[]⟩)]⟩⟩=>
 (match s.look 0 with
 |some ⟨none,.one ⟨false,[.ref 0]⟩⟩=>
 (match s.ent 0 with
 |some (.row false 204 (.pair .str (.sl (178:Nat) (.pair (.int .i64) (.pair .str (.int .i64))))) y2)=>
 some (y0,y1,y2)
 |_=>none)
 |_=>none)
 |_=>none)
 |_=>none)
 |_=>none)
def ay:Lp bw where
 h:=⟨[9,10,5,11,12,13,14,15,16,17,4,18,8],[0],[],[]⟩
 JL:=FL
 JE:=FG
 XL:=FW
 XE:=FR
 q:=fun j=>match j with | 0=> .ret | _=> .exit 0
 tags:= [0,1]
 lt:=iB
 fuel:=fun(y0,y1,y2)=>y0.natAbs + y1.natAbs + y2.length
 fix:=fun(_,y1,y2) (y0,_,_)=>(y0,y1,y2)
 σ:= [(0,0)]
 rd:=pV
theorem EN:LoopOk prog (fun k=>Nat.blt k Tryz.f262.ntmps) ay.F (aZ f262 0):=by
 refine Lp.ok (tbl:= [oI,PF.lend oI,PF.fz oI]) (lf:= []) aP ay (by kernel_rfl) (LOk.nil _) (fun _=>rfl) (fun j _=>by unfold ay;match j with | 0=>rfl | _ + 1=>rfl) ?_ ?_ ?_ ?_ (fun _=>rfl) ?_
 ·rintro⟨y0,y1,y2⟩;kernel_rfl
 ·rintro⟨y0,y1,y2⟩;kernel_rfl
 ·intro s x h
  have h:pV s=some x:=h
  unfold pV at h
  repeat' split at h
  all_goals cases h
  exact⟨aa (by assumption) rfl (aa (by assumption) rfl (aa (by assumption) rfl (aa (by assumption) rfl (rfl)))),ab rfl (by assumption) rfl (rfl)⟩
 ·rintro⟨y0,y1,y2⟩;kernel_rfl
 ·rintro⟨y0,y1,y2⟩ z;exact(And.intro (And.intro trivial rfl) trivial)
section
variable (x0:List (ByteArray×List (Int×ByteArray×Int)))
def nx:Int×Int×List (ByteArray×List (Int×ByteArray×Int)):=((0:Int),(↑x0.length:Int),x0)
def sj:Int:=bif Nat.beq ((Lp.res ay (nx x0)).1) (0:Nat)then ((Lp.res ay (nx x0)).2).1else(-1:Int)
def sk:Bool:=allT [Lp.fin ay (nx x0)]
end
def yC:List SV→List Entry→Option Out
 | [.one ⟨false,[.ref 0]⟩,.one ⟨false,[.val (.func (.func 230) ⟨[]⟩ ⟨[]⟩)]⟩],[.row false 204 (.pair .str (.sl (178:Nat) (.pair (.int .i64) (.pair .str (.int .i64))))) x0]=>some ⟨.one ⟨false,[.val (.int .i64 (sj x0))]⟩,[.row false 204 (CTy.pair CTy.str (CTy.sl (178:Nat) abW)) x0],[],[sk x0]⟩
 |_,_=>none
def sc:PF prog:=PF.ofG prog [oI,PF.lend oI,PF.fz oI] [ay.F] aP 262 f262 func262 (LOk.fnT (l:= [aZ f262 0]) (by kernel_rfl) (.cons EN (.nil _))) yC (by
 intro vs es r h;unfold yC at h;split at h
 ·cases h;kernel_rfl
 ·cases h)
def md(x0:List (ByteArray×List (Int×ByteArray×Int))):Bool:=leI (0:Int) (sj x0)
def me(x0:List (ByteArray×List (Int×ByteArray×Int))):Bool:=allT [sk x0]
def wB:List SV→List Entry→Option Out
 | [.one ⟨false,[.ref 0]⟩,.one ⟨false,[.val (.func (.func 230) ⟨[]⟩ ⟨[]⟩)]⟩],[.row false 204 (.pair .str (.sl (178:Nat) (.pair (.int .i64) (.pair .str (.int .i64))))) x0]=>some ⟨.one ⟨false,[.val (.bool (md x0))]⟩,[.row false 204 (CTy.pair CTy.str (CTy.sl (178:Nat) abW)) x0],[],[me x0]⟩
 |_,_=>none
def qE:PF prog:=PF.ofG prog [sc,PF.lend sc,PF.fz sc] [] aP 229 f229 func229 (fun c _=>LOk.nil c) wB (by
 intro vs es r h;unfold wB at h;split at h
 ·cases h;kernel_rfl
 ·cases h)
def AC(x0:ByteArray)(x2 x3 x4:List ByteArray):List (List ByteArray):=bif kV x0&&true then [x2,x3,x4]else []
def Fc(x0:ByteArray)(x2 x3 x4:List ByteArray):List ByteArray:=bif kV x0&&true then List.flatten (AC x0 x2 x3 x4)else []
def Kl(x0 x1:ByteArray)(x2 x3 x4:List ByteArray)(x5:List (ByteArray×List (Int×ByteArray×Int))):Bool:=
 bif
  bif
    bif
      bif bif kV x0 then List.all (Fc x0 x2 x3 x4) lN else false then
       bif ByteArray.toList x1==ByteArray.toList { data:= #[] } then true else kV x1
      else false then
     ltI (0:Int) (↑x2.length:Int)
    else false then
   ltI (0:Int) (↑x4.length:Int)
  else false then
 ltI (0:Int) (↑x5.length:Int)
 else false
section
variable (x0 x1:ByteArray)(x2 x3 x4:List ByteArray)(x5:List (ByteArray×List (Int×ByteArray×Int)))
def Km:Bool:=bif Kl x0 x1 x2 x3 x4 x5 then jy x2 x3 x4 x5 else false
def CE:Bool:=bif Km x0 x1 x2 x3 x4 x5 then !md x5 else false
def GH:Bool:=allT [!(kV x0&&true)||leN (List.length (AC x0 x2 x3 x4)) (1000:Nat)&&leN (Et (AC x0 x2 x3 x4)) (2000000:Nat),!(kV x0&&true)||leN (List.length (Fc x0 x2 x3 x4)) (9223372036854775807:Nat),!(Kl x0 x1 x2 x3 x4 x5&&true)||jz x2 x3 x4 x5,!(Km x0 x1 x2 x3 x4 x5&&true)||me x5]
end
def Qj:List SV→List Entry→Option Out
 | [.one ⟨true,[.val (.string x0),.ref 0,.ref 1,.ref 2,.val (.string x1),.ref 3]⟩],[.row false 9 (.str) x2,.row false 9 (.str) x3,.row false 9 (.str) x4,.row false 204 (.pair (.str) (.sl 178 (.pair (.int .i64) (.pair (.str) (.int .i64))))) x5]=>some ⟨.one ⟨false,[.val (.bool (CE x0 x1 x2 x3 x4 x5))]⟩,[.row false 9 aen x2,.row false 9 aen x3,.row false 9 aen x4,.row false 204 (CTy.pair CTy.str (CTy.sl (178:TypeId) abW)) x5],[],[GH x0 x1 x2 x3 x4 x5]⟩
 |_,_=>none
def LF:PF prog:=PF.ofG prog [Ib,MP,PF.lend MP,PF.fz MP,bY,PF.lend bY,PF.fz bY,nY,PF.lend nY,PF.fz nY,IO,PF.lend IO,PF.fz IO,qE,PF.lend qE,PF.fz qE] [] aP 183 f183 func183 (fun c _=>LOk.nil c) Qj (by
 intro vs es r h;unfold Qj at h;split at h
 ·cases h;kernel_rfl
 ·cases h)
section
variable (x2 x3 x4:List ByteArray)
def gj:List (List ByteArray):= [x2,x3,x4]
def aS:List ByteArray:=List.flatten (gj x2 x3 x4)
def kA:Bool:=allT [leN (List.length (gj x2 x3 x4)) (1000:Nat)&&leN (Et (gj x2 x3 x4)) (2000000:Nat)]
end
def uI:List SV→List Entry→Option Out
 | [.one ⟨true,[.val (.string _x0),.ref 0,.ref 1,.ref 2,.val (.string _x1),.ref 3]⟩],[.row false 9 (.str) x2,.row false 9 (.str) x3,.row false 9 (.str) x4,.row false 204 (.pair (.str) (.sl 178 (.pair (.int .i64) (.pair (.str) (.int .i64))))) x5]=>some ⟨.one ⟨false,[.ref 4]⟩,[.row false 9 aen x2,.row false 9 aen x3,.row false 9 aen x4,.row false 204 (CTy.pair CTy.str (CTy.sl (178:TypeId) abW)) x5],[.row true 9 aen (aS x2 x3 x4)],[kA x2 x3 x4]⟩
 |_,_=>none
def ek:PF prog:=PF.ofG prog [bY,PF.lend bY,PF.fz bY] [] aP 233 f233 func233 (fun c _=>LOk.nil c) uI (by
 intro vs es r h;unfold uI at h;split at h
 ·cases h;kernel_rfl
 ·cases h)
section
variable (x0:Int)(x1:ByteArray)(x5 x6:List ByteArray)
def oh:Bool:=bif x0==(1:Int)then !lz x5 x1 else false
def oo:Bool:=bif oh x0 x1 x5 then !lz x6 x1 else false
def oq:Bool:=allT [!(x0==(1:Int)&&true)||leN x5.length (9223372036854775807:Nat),!(oh x0 x1 x5&&true)||leN x6.length (9223372036854775807:Nat)]
end
def oi:List SV→List Entry→Option Out
 | [.one ⟨true,[.val (.int .i64 x0),.val (.string x1),.val (.int .i64 _x2)]⟩,.one ⟨false,[.ptr 0 0]⟩],[.box 63 [.val (.string x3),.ref 1,.ref 2,.ref 3,.val (.string x4),.ref 4],.row false 9 (.str) x5,.row false 9 (.str) x6,.row false 9 (.str) x7,.row false 204 (.pair .str (.sl (178:Nat) (.pair (.int .i64) (.pair .str (.int .i64))))) x8]=>some ⟨.one ⟨false,[.val (.bool (oo x0 x1 x5 x6))]⟩,[.box 63 [.val (.string x3),.ref 1,.ref 2,.ref 3,.val (.string x4),.ref 4],.row false 9 aen x5,.row false 9 aen x6,.row false 9 aen x7,.row false 204 (CTy.pair CTy.str (CTy.sl (178:Nat) abW)) x8],[],[oq x0 x1 x5 x6]⟩
 |_,_=>none
def bP:PF prog:=PF.ofG prog [aD,PF.lend aD,PF.fz aD] [] aP 265 f265 func265 (fun c _=>LOk.nil c) oi (by
 intro vs es r h;unfold oi at h;split at h
 ·cases h;kernel_rfl
 ·cases h)
abbrev cN:=Int×Int×ByteArray×ByteArray×List (Int×(ByteArray×Int))×List ByteArray×List ByteArray×List ByteArray×List (ByteArray×(List (Int×(ByteArray×Int))))
section
variable (y0 y1:Int)(y4:List (Int×(ByteArray×Int)))(y5 y6:List ByteArray)
def lF:Int×ByteArray×Int:=Option.getD y4[Int.toNat y0]? ((0:Int),ByteArray.empty,(0:Int))
def Ha:Bool:=ltI y0 y1
def Hb:Bool:=leI (0:Int) y0
def Hc:Bool:=ltI y0 (↑y4.length:Int)
def Hd:Bool:=ltN y0.toNat y4.length
def He:Bool:=oq ((lF y0 y4).1) (((lF y0 y4).2).1) y5 y6
def Hf:Bool:=oo ((lF y0 y4).1) (((lF y0 y4).2).1) y5 y6
def Hg:Int:=IntKind.wrap .i64 (y0 + (1:Int))
end
def FN:cN→List (Nat×SV)
 |(y0,y1,_,_,_,_,_,_,_)=> [(8,(.one ⟨false,[.val (.int .i64 y0)]⟩)),(7,(.one ⟨false,[.val (.int .i64 y1)]⟩)),(1,(.one ⟨false,[.clo 265 [0]]⟩)),(0,(.one ⟨false,[.ref 1]⟩))]
def FI:cN→List (Nat×Entry)
 |(_,_,y2,y3,y4,y5,y6,y7,y8)=> [(0,(.box 63 [.val (.string y2),.ref 2,.ref 3,.ref 4,.val (.string y3),.ref 5])),(1,(.row false 178 abW y4)),(2,(.row false 9 aen y5)),(3,(.row false 9 aen y6)),(4,(.row false 9 aen y7)),(5,(.row false 204 (CTy.pair CTy.str (CTy.sl (178:Nat) abW)) y8))]
def FY:Nat→cN→List (Nat×SV)
 |0,(y0,_,_,_,_,_,_,_,_)=> [(4,(.one ⟨false,[.val (.int .i64 y0)]⟩))]
 |_,(_,_,_,_,_,_,_,_,_)=> []
def FT:Nat→cN→List (Nat×Entry)
 |0,(_,_,y2,y3,y4,y5,y6,y7,y8)=> [(0,(.box 63 [.val (.string y2),.ref 2,.ref 3,.ref 4,.val (.string y3),.ref 5])),(1,(.row false 178 abW y4)),(2,(.row false 9 aen y5)),(3,(.row false 9 aen y6)),(4,(.row false 9 aen y7)),(5,(.row false 204 (CTy.pair CTy.str (CTy.sl (178:Nat) abW)) y8))]
 |_,(_,_,y2,y3,y4,y5,y6,y7,y8)=> [(0,(.box 63 [.val (.string y2),.ref 2,.ref 3,.ref 4,.val (.string y3),.ref 5])),(1,(.row false 178 abW y4)),(2,(.row false 9 aen y5)),(3,(.row false 9 aen y6)),(4,(.row false 9 aen y7)),(5,(.row false 204 (CTy.pair CTy.str (CTy.sl (178:Nat) abW)) y8))]
def Gj:cN→LT cN
 |(y0,y1,y2,y3,y4,y5,y6,y7,y8)=> .ite (Ha y0 y1) (.need [Hb y0,Hc y0 y4,Hd y0 y4,He y0 y4 y5 y6] (.ite (Hf y0 y4 y5 y6) (.ext 0 [(0,0),(1,1),(2,2),(3,3),(4,4),(5,5)]) (.nrm ((Hg y0),y1,y2,y3,y4,y5,y6,y7,y8) [(0,0),(1,1),(2,2),(3,3),(4,4),(5,5)]))) (.ext 1 [(0,0),(1,1),(2,2),(3,3),(4,4),(5,5)])
def pX(s:St):Option cN:=
 (match s.look 8 with
 |some ⟨none,.one ⟨false,[.val (.int .i64 y0)]⟩⟩=>
 (match s.look 7 with
 |some ⟨none,.one ⟨false,[.val (.int .i64 y1)]⟩⟩=>
 (match s.look 1 with
 |some ⟨none,.one ⟨false,[.clo 265 [1]]⟩⟩=>
 (match s.look 0 with
 |some ⟨none,.one ⟨false,[.ref 0]⟩⟩=>
 (match s.ent 1 with
 |some (.box 63 [.val (.string y2),.ref 2,.ref 3,.ref 4,.val (.string y3),.ref 5])=>
 (match s.ent 0 with
 |some (.row false 178 (.pair (.int .i64) (.pair .str (.int .i64))) y4)=>
 (match s.ent 2 with
 |some (.row false 9 (.str) y5)=>
 (match s.ent 3 with
 |some (.row false 9 (.str) y6)=>
 (match s.ent 4 with
 |some (.row false 9 (.str) y7)=>
 (match s.ent 5 with
 |some (.row false 204 (.pair .str (.sl (178:Nat) (.pair (.int .i64) (.pair .str (.int .i64))))) y8)=>
 some (y0,y1,y2,y3,y4,y5,y6,y7,y8)
 |_=>none)
 |_=>none)
 |_=>none)
 |_=>none)
 |_=>none)
 |_=>none)
 |_=>none)
 |_=>none)
 |_=>none)
 |_=>none)
def dk:Lp cN where
 h:=⟨[9,10,5,11,12,13,14,15,16,17,4,18,8],[0,1,2,3,4,5],[],[]⟩
 JL:=FN
 JE:=FI
 XL:=FY
 XE:=FT
 q:=fun j=>match j with | 0=> .ret | _=> .exit 0
 tags:= [0,1]
 lt:=Gj
 fuel:=fun(y0,y1,y2,y3,y4,y5,y6,y7,y8)=>y0.natAbs + y1.natAbs + y2.size + y3.size + y4.length + y5.length + y6.length + y7.length + y8.length
 fix:=fun(_,y1,y2,y3,y4,y5,y6,y7,y8) (y0,_,_,_,_,_,_,_,_)=>(y0,y1,y2,y3,y4,y5,y6,y7,y8)
 σ:= [(0,1),(1,0),(2,2),(3,3),(4,4),(5,5)]
 rd:=pX
theorem EP:LoopOk prog (fun k=>Nat.blt k Tryz.f214.ntmps) dk.F (aZ f214 0):=by
 refine Lp.ok (tbl:= [bP,PF.lend bP,PF.fz bP]) (lf:= []) aP dk (by kernel_rfl) (LOk.nil _) (fun _=>rfl) (fun j _=>by unfold dk;match j with | 0=>rfl | _ + 1=>rfl) ?_ ?_ ?_ ?_ (fun _=>rfl) ?_
 ·rintro⟨y0,y1,y2,y3,y4,y5,y6,y7,y8⟩;kernel_rfl
 ·rintro⟨y0,y1,y2,y3,y4,y5,y6,y7,y8⟩;kernel_rfl
 ·intro s x h
  have h:pX s=some x:=h
  unfold pX at h
  repeat' split at h
  all_goals cases h
  exact⟨aa (by assumption) rfl (aa (by assumption) rfl (aa (by assumption) rfl (aa (by assumption) rfl (rfl)))),ab rfl (by assumption) rfl (ab rfl (by assumption) rfl (ab rfl (by assumption) rfl (ab rfl (by assumption) rfl (ab rfl (by assumption) rfl (ab rfl (by assumption) rfl (rfl))))))⟩
 ·rintro⟨y0,y1,y2,y3,y4,y5,y6,y7,y8⟩;kernel_rfl
 ·rintro⟨y0,y1,y2,y3,y4,y5,y6,y7,y8⟩ z;exact(And.intro (And.intro trivial rfl) trivial)
section
variable (x0:List (Int×ByteArray×Int))(x1 x2:ByteArray)(x3 x4 x5:List ByteArray)(x6:List (ByteArray×List (Int×ByteArray×Int)))
def rP:Int×Int×ByteArray×ByteArray×List (Int×ByteArray×Int)×List ByteArray×List ByteArray×List ByteArray×List (ByteArray×List (Int×ByteArray×Int)):=((0:Int),(↑x0.length:Int),x1,x2,x0,x3,x4,x5,x6)
def rQ:Bool:=Nat.beq ((Lp.res dk (rP x0 x1 x2 x3 x4 x5 x6)).1) (0:Nat)
def zq:Int:=bif rQ x0 x1 x2 x3 x4 x5 x6 then ((Lp.res dk (rP x0 x1 x2 x3 x4 x5 x6)).2).1else(-1:Int)
def zs:ByteArray:=bif rQ x0 x1 x2 x3 x4 x5 x6 then x1 else x1
def zt:ByteArray:=bif rQ x0 x1 x2 x3 x4 x5 x6 then x2 else x2
def zu:Bool:=allT [Lp.fin dk (rP x0 x1 x2 x3 x4 x5 x6)]
end
def yE:List SV→List Entry→Option Out
 | [.one ⟨false,[.ref 0]⟩,.one ⟨false,[.clo 265 [1]]⟩],[.row false 178 (.pair (.int .i64) (.pair .str (.int .i64))) x0,.box 63 [.val (.string x1),.ref 2,.ref 3,.ref 4,.val (.string x2),.ref 5],.row false 9 (.str) x3,.row false 9 (.str) x4,.row false 9 (.str) x5,.row false 204 (.pair .str (.sl (178:Nat) (.pair (.int .i64) (.pair .str (.int .i64))))) x6]=>some ⟨.one ⟨false,[.val (.int .i64 (zq x0 x1 x2 x3 x4 x5 x6))]⟩,[.row false 178 abW x0,.box 63 [.val (.string (zs x0 x1 x2 x3 x4 x5 x6)),.ref 2,.ref 3,.ref 4,.val (.string (zt x0 x1 x2 x3 x4 x5 x6)),.ref 5],.row false 9 aen x3,.row false 9 aen x4,.row false 9 aen x5,.row false 204 (CTy.pair CTy.str (CTy.sl (178:Nat) abW)) x6],[],[zu x0 x1 x2 x3 x4 x5 x6]⟩
 |_,_=>none
def se:PF prog:=PF.ofG prog [bP,PF.lend bP,PF.fz bP] [dk.F] aP 214 f214 func214 (LOk.fnT (l:= [aZ f214 0]) (by kernel_rfl) (.cons EP (.nil _))) yE (by
 intro vs es r h;unfold yE at h;split at h
 ·cases h;kernel_rfl
 ·cases h)
section
variable (x0:List (Int×ByteArray×Int))(x1 x2:ByteArray)(x3 x4 x5:List ByteArray)(x6:List (ByteArray×List (Int×ByteArray×Int)))
def xa:Bool:=leI (0:Int) (zq x0 x1 x2 x3 x4 x5 x6)
def GW:ByteArray:=zs x0 x1 x2 x3 x4 x5 x6
def GX:ByteArray:=zt x0 x1 x2 x3 x4 x5 x6
def xc:Bool:=allT [zu x0 x1 x2 x3 x4 x5 x6]
end
def wD:List SV→List Entry→Option Out
 | [.one ⟨false,[.ref 0]⟩,.one ⟨false,[.clo 265 [1]]⟩],[.row false 178 (.pair (.int .i64) (.pair .str (.int .i64))) x0,.box 63 [.val (.string x1),.ref 2,.ref 3,.ref 4,.val (.string x2),.ref 5],.row false 9 (.str) x3,.row false 9 (.str) x4,.row false 9 (.str) x5,.row false 204 (.pair .str (.sl (178:Nat) (.pair (.int .i64) (.pair .str (.int .i64))))) x6]=>some ⟨.one ⟨false,[.val (.bool (xa x0 x1 x2 x3 x4 x5 x6))]⟩,[.row false 178 abW x0,.box 63 [.val (.string (GW x0 x1 x2 x3 x4 x5 x6)),.ref 2,.ref 3,.ref 4,.val (.string (GX x0 x1 x2 x3 x4 x5 x6)),.ref 5],.row false 9 aen x3,.row false 9 aen x4,.row false 9 aen x5,.row false 204 (CTy.pair CTy.str (CTy.sl (178:Nat) abW)) x6],[],[xc x0 x1 x2 x3 x4 x5 x6]⟩
 |_,_=>none
def qF:PF prog:=PF.ofG prog [se,PF.lend se,PF.fz se] [] aP 159 f159 func159 (fun c _=>LOk.nil c) wD (by
 intro vs es r h;unfold wD at h;split at h
 ·cases h;kernel_rfl
 ·cases h)
def BM(x0 x1:ByteArray)(x3 x4 x5:List ByteArray)(x6:List (ByteArray×List (Int×ByteArray×Int)))(x7:List (Int×ByteArray×Int)):Bool:=xa x7 x0 x1 x3 x4 x5 x6
def BN(x0 x1:ByteArray)(x3 x4 x5:List ByteArray)(x6:List (ByteArray×List (Int×ByteArray×Int)))(x7:List (Int×ByteArray×Int)):Bool:=allT [xc x7 x0 x1 x3 x4 x5 x6]
def rI:List SV→List Entry→Option Out
 | [.one ⟨true,[.val (.string x0),.ref 0,.ref 1,.ref 2,.val (.string x1),.ref 3]⟩,.one ⟨true,[.val (.string _x2),.ref 4]⟩],[.row false 9 (.str) x3,.row false 9 (.str) x4,.row false 9 (.str) x5,.row false 204 (.pair (.str) (.sl 178 (.pair (.int .i64) (.pair (.str) (.int .i64))))) x6,.row false 178 (.pair (.int .i64) (.pair (.str) (.int .i64))) x7]=>some ⟨.one ⟨false,[.val (.bool (BM x0 x1 x3 x4 x5 x6 x7))]⟩,[.row false 9 aen x3,.row false 9 aen x4,.row false 9 aen x5,.row false 204 (CTy.pair CTy.str (CTy.sl (178:TypeId) abW)) x6,.row false 178 abW x7],[],[BN x0 x1 x3 x4 x5 x6 x7]⟩
 |_,_=>none
def cV:PF prog:=PF.ofG prog [qF,PF.lend qF,PF.fz qF] [] aP 238 f238 func238 (fun c _=>LOk.nil c) rI (by
 intro vs es r h;unfold rI at h;split at h
 ·cases h;kernel_rfl
 ·cases h)
def lp(x0:ByteArray)(x1:List ByteArray):Bool:= !lz x1 x0
def lq(x1:List ByteArray):Bool:=allT [leN x1.length (9223372036854775807:Nat)]
def ra:List SV→List Entry→Option Out
 | [.one ⟨false,[.val (.string x0)]⟩,.one ⟨false,[.ptr 0 0]⟩],[.box 60 [.ref 1],.row true 9 (.str) x1]=>some ⟨.one ⟨false,[.val (.bool (lp x0 x1))]⟩,[.box 60 [.ref 1],.row true 9 aen x1],[],[lq x1]⟩
 |_,_=>none
def cH:PF prog:=PF.ofG prog [aD,PF.lend aD,PF.fz aD] [] aP 236 f236 func236 (fun c _=>LOk.nil c) ra (by
 intro vs es r h;unfold ra at h;split at h
 ·cases h;kernel_rfl
 ·cases h)
abbrev bh:=Int×Int×List ByteArray×List ByteArray
section
variable (y0 y1:Int)(y2 y3:List ByteArray)
def gu:Bool:=ltI y0 y1
def gv:Bool:=leI (0:Int) y0
def gw:Bool:=ltI y0 (↑y2.length:Int)
def gx:Bool:=ltN y0.toNat y2.length
def dF:Bool:=lq y3
def gy:Bool:=lp (Option.getD y2[Int.toNat y0]? ByteArray.empty) y3
def ki:Int:=IntKind.wrap .i64 (y0 + (1:Int))
end
def DE:bh→List (Nat×SV)
 |(y0,y1,_,_)=> [(8,(.one ⟨false,[.val (.int .i64 y0)]⟩)),(7,(.one ⟨false,[.val (.int .i64 y1)]⟩)),(1,(.one ⟨false,[.clo 236 [0]]⟩)),(0,(.one ⟨false,[.ref 1]⟩))]
def DB:bh→List (Nat×Entry)
 |(_,_,y2,y3)=> [(0,(.box 60 [.ref 2])),(1,(.row true 9 aen y2)),(2,(.row true 9 aen y3))]
def DL:Nat→bh→List (Nat×SV)
 |0,(y0,_,_,_)=> [(4,(.one ⟨false,[.val (.int .i64 y0)]⟩))]
 |_,(_,_,_,_)=> []
def DI:Nat→bh→List (Nat×Entry)
 |0,(_,_,y2,y3)=> [(0,(.box 60 [.ref 2])),(1,(.row true 9 aen y2)),(2,(.row true 9 aen y3))]
 |_,(_,_,y2,y3)=> [(0,(.box 60 [.ref 2])),(1,(.row true 9 aen y2)),(2,(.row true 9 aen y3))]
def fZ:bh→LT bh
 |(y0,y1,y2,y3)=> .ite (gu y0 y1) (.need [gv y0,gw y0 y2,gx y0 y2,dF y3] (.ite (gy y0 y2 y3) (.ext 0 [(0,0),(1,1),(2,2)]) (.nrm ((ki y0),y1,y2,y3) [(0,0),(1,1),(2,2)]))) (.ext 1 [(0,0),(1,1),(2,2)])
def oe(s:St):Option bh:=
 (match s.look 8 with
 |some ⟨none,.one ⟨false,[.val (.int .i64 y0)]⟩⟩=>
 (match s.look 7 with
 |some ⟨none,.one ⟨false,[.val (.int .i64 y1)]⟩⟩=>
 (match s.look 1 with
 |some ⟨none,.one ⟨false,[.clo 236 [1]]⟩⟩=>
 (match s.look 0 with
 |some ⟨none,.one ⟨false,[.ref 0]⟩⟩=>
 (match s.ent 1 with
 |some (.box 60 [.ref 2])=>
 (match s.ent 0 with
 |some (.row true 9 (.str) y2)=>
 (match s.ent 2 with
 |some (.row true 9 (.str) y3)=>
 some (y0,y1,y2,y3)
 |_=>none)
 |_=>none)
 |_=>none)
 |_=>none)
 |_=>none)
 |_=>none)
 |_=>none)
def ag:Lp bh where
 h:=⟨[9,10,5,11,12,13,14,15,16,17,4,18,8],[0,1,2],[],[]⟩
 JL:=DE
 JE:=DB
 XL:=DL
 XE:=DI
 q:=fun j=>match j with | 0=> .ret | _=> .exit 0
 tags:= [0,1]
 lt:=fZ
 fuel:=fun(y0,y1,y2,y3)=>y0.natAbs + y1.natAbs + y2.length + y3.length
 fix:=fun(_,y1,y2,y3) (y0,_,_,_)=>(y0,y1,y2,y3)
 σ:= [(0,1),(1,0),(2,2)]
 rd:=oe
theorem CX:LoopOk prog (fun k=>Nat.blt k Tryz.f264.ntmps) ag.F (aZ f264 0):=by
 refine Lp.ok (tbl:= [cH,PF.lend cH,PF.fz cH]) (lf:= []) aP ag (by kernel_rfl) (LOk.nil _) (fun _=>rfl) (fun j _=>by unfold ag;match j with | 0=>rfl | _ + 1=>rfl) ?_ ?_ ?_ ?_ (fun _=>rfl) ?_
 ·rintro⟨y0,y1,y2,y3⟩;kernel_rfl
 ·rintro⟨y0,y1,y2,y3⟩;kernel_rfl
 ·intro s x h
  have h:oe s=some x:=h
  unfold oe at h
  repeat' split at h
  all_goals cases h
  exact⟨aa (by assumption) rfl (aa (by assumption) rfl (aa (by assumption) rfl (aa (by assumption) rfl (rfl)))),ab rfl (by assumption) rfl (ab rfl (by assumption) rfl (ab rfl (by assumption) rfl (rfl)))⟩
 ·rintro⟨y0,y1,y2,y3⟩;kernel_rfl
 ·rintro⟨y0,y1,y2,y3⟩ z;exact(And.intro (And.intro trivial rfl) trivial)
section
variable (x0 x1:List ByteArray)
def ia:Int×Int×List ByteArray×List ByteArray:=((0:Int),(↑x0.length:Int),x0,x1)
def lm:Bool:=Nat.beq ((Lp.res ag (ia x0 x1)).1) (0:Nat)
def qb:Int:=bif lm x0 x1 then ((Lp.res ag (ia x0 x1)).2).1else(-1:Int)
def wg:List ByteArray:=bif lm x0 x1 then x0 else x0
def wh:List ByteArray:=bif lm x0 x1 then x1 else x1
def qc:Bool:=allT [Lp.fin ag (ia x0 x1)]
end
def vM:List SV→List Entry→Option Out
 | [.one ⟨false,[.ref 0]⟩,.one ⟨false,[.clo 236 [1]]⟩],[.row true 9 (.str) x0,.box 60 [.ref 2],.row true 9 (.str) x1]=>some ⟨.one ⟨false,[.val (.int .i64 (qb x0 x1))]⟩,[.row true 9 aen (wg x0 x1),.box 60 [.ref 2],.row true 9 aen (wh x0 x1)],[],[qc x0 x1]⟩
 |_,_=>none
def pO:PF prog:=PF.ofG prog [cH,PF.lend cH,PF.fz cH] [ag.F] aP 264 f264 func264 (LOk.fnT (l:= [aZ f264 0]) (by kernel_rfl) (.cons CX (.nil _))) vM (by
 intro vs es r h;unfold vM at h;split at h
 ·cases h;kernel_rfl
 ·cases h)
section
variable (x0 x1:List ByteArray)
def cQ:Bool:=leI (0:Int) (qb x0 x1)
def bZ:List ByteArray:=wg x0 x1
def ke:List ByteArray:=wh x0 x1
def kf:Bool:=allT [qc x0 x1]
end
def uu:List SV→List Entry→Option Out
 | [.one ⟨false,[.ref 0]⟩,.one ⟨false,[.clo 236 [1]]⟩],[.row true 9 (.str) x0,.box 60 [.ref 2],.row true 9 (.str) x1]=>some ⟨.one ⟨false,[.val (.bool (cQ x0 x1))]⟩,[.row true 9 aen (bZ x0 x1),.box 60 [.ref 2],.row true 9 aen (ke x0 x1)],[],[kf x0 x1]⟩
 |_,_=>none
def dD:PF prog:=PF.ofG prog [pO,PF.lend pO,PF.fz pO] [] aP 235 f235 func235 (fun c _=>LOk.nil c) uu (by
 intro vs es r h;unfold uu at h;split at h
 ·cases h;kernel_rfl
 ·cases h)
def lr(x0:ByteArray)(x1:List ByteArray):Bool:= !lz x1 x0
def lu(x1:List ByteArray):Bool:=allT [leN x1.length (9223372036854775807:Nat)]
def rb:List SV→List Entry→Option Out
 | [.one ⟨false,[.val (.string x0)]⟩,.one ⟨false,[.ptr 0 0]⟩],[.box 60 [.ref 1],.row true 9 (.str) x1]=>some ⟨.one ⟨false,[.val (.bool (lr x0 x1))]⟩,[.box 60 [.ref 1],.row true 9 aen x1],[],[lu x1]⟩
 |_,_=>none
def cI:PF prog:=PF.ofG prog [aD,PF.lend aD,PF.fz aD] [] aP 237 f237 func237 (fun c _=>LOk.nil c) rb (by
 intro vs es r h;unfold rb at h;split at h
 ·cases h;kernel_rfl
 ·cases h)
abbrev bi:=Int×Int×List ByteArray×List ByteArray
section
variable (y0 y1:Int)(y2 y3:List ByteArray)
def gz:Bool:=ltI y0 y1
def gA:Bool:=leI (0:Int) y0
def gB:Bool:=ltI y0 (↑y2.length:Int)
def gC:Bool:=ltN y0.toNat y2.length
def dG:Bool:=lu y3
def gD:Bool:=lr (Option.getD y2[Int.toNat y0]? ByteArray.empty) y3
def kj:Int:=IntKind.wrap .i64 (y0 + (1:Int))
end
def DF:bi→List (Nat×SV)
 |(y0,y1,_,_)=> [(8,(.one ⟨false,[.val (.int .i64 y0)]⟩)),(7,(.one ⟨false,[.val (.int .i64 y1)]⟩)),(1,(.one ⟨false,[.clo 237 [0]]⟩)),(0,(.one ⟨false,[.ref 1]⟩))]
def DC:bi→List (Nat×Entry)
 |(_,_,y2,y3)=> [(0,(.box 60 [.ref 2])),(1,(.row true 9 aen y2)),(2,(.row true 9 aen y3))]
def DM:Nat→bi→List (Nat×SV)
 |0,(y0,_,_,_)=> [(4,(.one ⟨false,[.val (.int .i64 y0)]⟩))]
 |_,(_,_,_,_)=> []
def DJ:Nat→bi→List (Nat×Entry)
 |0,(_,_,y2,y3)=> [(0,(.box 60 [.ref 2])),(1,(.row true 9 aen y2)),(2,(.row true 9 aen y3))]
 |_,(_,_,y2,y3)=> [(0,(.box 60 [.ref 2])),(1,(.row true 9 aen y2)),(2,(.row true 9 aen y3))]
def gc:bi→LT bi
 |(y0,y1,y2,y3)=> .ite (gz y0 y1) (.need [gA y0,gB y0 y2,gC y0 y2,dG y3] (.ite (gD y0 y2 y3) (.ext 0 [(0,0),(1,1),(2,2)]) (.nrm ((kj y0),y1,y2,y3) [(0,0),(1,1),(2,2)]))) (.ext 1 [(0,0),(1,1),(2,2)])
def og(s:St):Option bi:=
 (match s.look 8 with
 |some ⟨none,.one ⟨false,[.val (.int .i64 y0)]⟩⟩=>
 (match s.look 7 with
 |some ⟨none,.one ⟨false,[.val (.int .i64 y1)]⟩⟩=>
 (match s.look 1 with
 |some ⟨none,.one ⟨false,[.clo 237 [1]]⟩⟩=>
 (match s.look 0 with
 |some ⟨none,.one ⟨false,[.ref 0]⟩⟩=>
 (match s.ent 1 with
 |some (.box 60 [.ref 2])=>
 (match s.ent 0 with
 |some (.row true 9 (.str) y2)=>
 (match s.ent 2 with
 |some (.row true 9 (.str) y3)=>
 some (y0,y1,y2,y3)
 |_=>none)
 |_=>none)
 |_=>none)
 |_=>none)
 |_=>none)
 |_=>none)
 |_=>none)
def ah:Lp bi where
 h:=⟨[9,10,5,11,12,13,14,15,16,17,4,18,8],[0,1,2],[],[]⟩
 JL:=DF
 JE:=DC
 XL:=DM
 XE:=DJ
 q:=fun j=>match j with | 0=> .ret | _=> .exit 0
 tags:= [0,1]
 lt:=gc
 fuel:=fun(y0,y1,y2,y3)=>y0.natAbs + y1.natAbs + y2.length + y3.length
 fix:=fun(_,y1,y2,y3) (y0,_,_,_)=>(y0,y1,y2,y3)
 σ:= [(0,1),(1,0),(2,2)]
 rd:=og
theorem CY:LoopOk prog (fun k=>Nat.blt k Tryz.f264.ntmps) ah.F (aZ f264 0):=by
 refine Lp.ok (tbl:= [cI,PF.lend cI,PF.fz cI]) (lf:= []) aP ah (by kernel_rfl) (LOk.nil _) (fun _=>rfl) (fun j _=>by unfold ah;match j with | 0=>rfl | _ + 1=>rfl) ?_ ?_ ?_ ?_ (fun _=>rfl) ?_
 ·rintro⟨y0,y1,y2,y3⟩;kernel_rfl
 ·rintro⟨y0,y1,y2,y3⟩;kernel_rfl
 ·intro s x h
  have h:og s=some x:=h
  unfold og at h
  repeat' split at h
  all_goals cases h
  exact⟨aa (by assumption) rfl (aa (by assumption) rfl (aa (by assumption) rfl (aa (by assumption) rfl (rfl)))),ab rfl (by assumption) rfl (ab rfl (by assumption) rfl (ab rfl (by assumption) rfl (rfl)))⟩
 ·rintro⟨y0,y1,y2,y3⟩;kernel_rfl
 ·rintro⟨y0,y1,y2,y3⟩ z;exact(And.intro (And.intro trivial rfl) trivial)
section
variable (x0 x1:List ByteArray)
def ib:Int×Int×List ByteArray×List ByteArray:=((0:Int),(↑x0.length:Int),x0,x1)
def ln:Bool:=Nat.beq ((Lp.res ah (ib x0 x1)).1) (0:Nat)
def qd:Int:=bif ln x0 x1 then ((Lp.res ah (ib x0 x1)).2).1else(-1:Int)
def wi:List ByteArray:=bif ln x0 x1 then x0 else x0
def wj:List ByteArray:=bif ln x0 x1 then x1 else x1
def qe:Bool:=allT [Lp.fin ah (ib x0 x1)]
end
def vN:List SV→List Entry→Option Out
 | [.one ⟨false,[.ref 0]⟩,.one ⟨false,[.clo 237 [1]]⟩],[.row true 9 (.str) x0,.box 60 [.ref 2],.row true 9 (.str) x1]=>some ⟨.one ⟨false,[.val (.int .i64 (qd x0 x1))]⟩,[.row true 9 aen (wi x0 x1),.box 60 [.ref 2],.row true 9 aen (wj x0 x1)],[],[qe x0 x1]⟩
 |_,_=>none
def pP:PF prog:=PF.ofG prog [cI,PF.lend cI,PF.fz cI] [ah.F] aP 264 f264 func264 (LOk.fnT (l:= [aZ f264 0]) (by kernel_rfl) (.cons CY (.nil _))) vN (by
 intro vs es r h;unfold vN at h;split at h
 ·cases h;kernel_rfl
 ·cases h)
section
variable (x0 x1:List ByteArray)
def kg:Bool:=leI (0:Int) (qd x0 x1)
def uD:List ByteArray:=wi x0 x1
def uE:List ByteArray:=wj x0 x1
def kh:Bool:=allT [qe x0 x1]
end
def uv:List SV→List Entry→Option Out
 | [.one ⟨false,[.ref 0]⟩,.one ⟨false,[.clo 237 [1]]⟩],[.row true 9 (.str) x0,.box 60 [.ref 2],.row true 9 (.str) x1]=>some ⟨.one ⟨false,[.val (.bool (kg x0 x1))]⟩,[.row true 9 aen (uD x0 x1),.box 60 [.ref 2],.row true 9 aen (uE x0 x1)],[],[kh x0 x1]⟩
 |_,_=>none
def dE:PF prog:=PF.ofG prog [pP,PF.lend pP,PF.fz pP] [] aP 235 f235 func235 (fun c _=>LOk.nil c) uv (by
 intro vs es r h;unfold uv at h;split at h
 ·cases h;kernel_rfl
 ·cases h)
section
variable (x0:Int)(x1:ByteArray)(x5 x6:List ByteArray)
def iG:Bool:=bif x0==(1:Int)then !lz x5 x1 else false
def eB:Bool:=bif iG x0 x1 x5 then !lz x6 x1 else false
def jj:Bool:=allT [!(x0==(1:Int)&&true)||leN x5.length (9223372036854775807:Nat),!(iG x0 x1 x5&&true)||leN x6.length (9223372036854775807:Nat)]
end
def oj:List SV→List Entry→Option Out
 | [.one ⟨true,[.val (.int .i64 x0),.val (.string x1),.val (.int .i64 _x2)]⟩,.one ⟨false,[.ptr 0 0]⟩],[.box 63 [.val (.string x3),.ref 1,.ref 2,.ref 3,.val (.string x4),.ref 4],.row false 9 (.str) x5,.row false 9 (.str) x6,.row false 9 (.str) x7,.row false 204 (.pair .str (.sl (178:Nat) (.pair (.int .i64) (.pair .str (.int .i64))))) x8]=>some ⟨.one ⟨false,[.val (.bool (eB x0 x1 x5 x6))]⟩,[.box 63 [.val (.string x3),.ref 1,.ref 2,.ref 3,.val (.string x4),.ref 4],.row false 9 aen x5,.row false 9 aen x6,.row false 9 aen x7,.row false 204 (CTy.pair CTy.str (CTy.sl (178:Nat) abW)) x8],[],[jj x0 x1 x5 x6]⟩
 |_,_=>none
def bQ:PF prog:=PF.ofG prog [aD,PF.lend aD,PF.fz aD] [] aP 265 f265 func265 (fun c _=>LOk.nil c) oj (by
 intro vs es r h;unfold oj at h;split at h
 ·cases h;kernel_rfl
 ·cases h)
abbrev bz:=Int×Int×ByteArray×ByteArray×List (Int×(ByteArray×Int))×List ByteArray×List ByteArray×List ByteArray×List (ByteArray×(List (Int×(ByteArray×Int))))
section
variable (y0 y1:Int)(y4:List (Int×(ByteArray×Int)))(y5 y6:List ByteArray)
def bq:Int×ByteArray×Int:=Option.getD y4[Int.toNat y0]? ((0:Int),ByteArray.empty,(0:Int))
def ja:Bool:=ltI y0 y1
def mr:Bool:=leI (0:Int) y0
def mt:Bool:=ltI y0 (↑y4.length:Int)
def mu:Bool:=ltN y0.toNat y4.length
def jb:Bool:=jj ((bq y0 y4).1) (((bq y0 y4).2).1) y5 y6
def je:Bool:=eB ((bq y0 y4).1) (((bq y0 y4).2).1) y5 y6
def qT:Int:=IntKind.wrap .i64 (y0 + (1:Int))
end
def FO:bz→List (Nat×SV)
 |(y0,y1,_,_,_,_,_,_,_)=> [(8,(.one ⟨false,[.val (.int .i64 y0)]⟩)),(7,(.one ⟨false,[.val (.int .i64 y1)]⟩)),(1,(.one ⟨false,[.clo 265 [0]]⟩)),(0,(.one ⟨false,[.ref 1]⟩))]
def FJ:bz→List (Nat×Entry)
 |(_,_,y2,y3,y4,y5,y6,y7,y8)=> [(0,(.box 63 [.val (.string y2),.ref 2,.ref 3,.ref 4,.val (.string y3),.ref 5])),(1,(.row false 178 abW y4)),(2,(.row false 9 aen y5)),(3,(.row false 9 aen y6)),(4,(.row false 9 aen y7)),(5,(.row false 204 (CTy.pair CTy.str (CTy.sl (178:Nat) abW)) y8))]
def FZ:Nat→bz→List (Nat×SV)
 |0,(y0,_,_,_,_,_,_,_,_)=> [(4,(.one ⟨false,[.val (.int .i64 y0)]⟩))]
 |_,(_,_,_,_,_,_,_,_,_)=> []
def FU:Nat→bz→List (Nat×Entry)
 |0,(_,_,y2,y3,y4,y5,y6,y7,y8)=> [(0,(.box 63 [.val (.string y2),.ref 2,.ref 3,.ref 4,.val (.string y3),.ref 5])),(1,(.row false 178 abW y4)),(2,(.row false 9 aen y5)),(3,(.row false 9 aen y6)),(4,(.row false 9 aen y7)),(5,(.row false 204 (CTy.pair CTy.str (CTy.sl (178:Nat) abW)) y8))]
 |_,(_,_,y2,y3,y4,y5,y6,y7,y8)=> [(0,(.box 63 [.val (.string y2),.ref 2,.ref 3,.ref 4,.val (.string y3),.ref 5])),(1,(.row false 178 abW y4)),(2,(.row false 9 aen y5)),(3,(.row false 9 aen y6)),(4,(.row false 9 aen y7)),(5,(.row false 204 (CTy.pair CTy.str (CTy.sl (178:Nat) abW)) y8))]
def iD:bz→LT bz
 |(y0,y1,y2,y3,y4,y5,y6,y7,y8)=> .ite (ja y0 y1) (.need [mr y0,mt y0 y4,mu y0 y4,jb y0 y4 y5 y6] (.ite (je y0 y4 y5 y6) (.ext 0 [(0,0),(1,1),(2,2),(3,3),(4,4),(5,5)]) (.nrm ((qT y0),y1,y2,y3,y4,y5,y6,y7,y8) [(0,0),(1,1),(2,2),(3,3),(4,4),(5,5)]))) (.ext 1 [(0,0),(1,1),(2,2),(3,3),(4,4),(5,5)])
def pY(s:St):Option bz:=
 (match s.look 8 with
 |some ⟨none,.one ⟨false,[.val (.int .i64 y0)]⟩⟩=>
 (match s.look 7 with
 |some ⟨none,.one ⟨false,[.val (.int .i64 y1)]⟩⟩=>
 (match s.look 1 with
 |some ⟨none,.one ⟨false,[.clo 265 [1]]⟩⟩=>
 (match s.look 0 with
 |some ⟨none,.one ⟨false,[.ref 0]⟩⟩=>
 (match s.ent 1 with
 |some (.box 63 [.val (.string y2),.ref 2,.ref 3,.ref 4,.val (.string y3),.ref 5])=>
 (match s.ent 0 with
 |some (.row false 178 (.pair (.int .i64) (.pair .str (.int .i64))) y4)=>
 (match s.ent 2 with
 |some (.row false 9 (.str) y5)=>
 (match s.ent 3 with
 |some (.row false 9 (.str) y6)=>
 (match s.ent 4 with
 |some (.row false 9 (.str) y7)=>
 (match s.ent 5 with
 |some (.row false 204 (.pair .str (.sl (178:Nat) (.pair (.int .i64) (.pair .str (.int .i64))))) y8)=>
 some (y0,y1,y2,y3,y4,y5,y6,y7,y8)
 |_=>none)
 |_=>none)
 |_=>none)
 |_=>none)
 |_=>none)
 |_=>none)
 |_=>none)
 |_=>none)
 |_=>none)
 |_=>none)
def aA:Lp bz where
 h:=⟨[9,10,5,11,12,13,14,15,16,17,4,18,8],[0,1,2,3,4,5],[],[]⟩
 JL:=FO
 JE:=FJ
 XL:=FZ
 XE:=FU
 q:=fun j=>match j with | 0=> .ret | _=> .exit 0
 tags:= [0,1]
 lt:=iD
 fuel:=fun(y0,y1,y2,y3,y4,y5,y6,y7,y8)=>y0.natAbs + y1.natAbs + y2.size + y3.size + y4.length + y5.length + y6.length + y7.length + y8.length
 fix:=fun(_,y1,y2,y3,y4,y5,y6,y7,y8) (y0,_,_,_,_,_,_,_,_)=>(y0,y1,y2,y3,y4,y5,y6,y7,y8)
 σ:= [(0,1),(1,0),(2,2),(3,3),(4,4),(5,5)]
 rd:=pY
theorem EQ:LoopOk prog (fun k=>Nat.blt k Tryz.f214.ntmps) aA.F (aZ f214 0):=by
 refine Lp.ok (tbl:= [bQ,PF.lend bQ,PF.fz bQ]) (lf:= []) aP aA (by kernel_rfl) (LOk.nil _) (fun _=>rfl) (fun j _=>by unfold aA;match j with | 0=>rfl | _ + 1=>rfl) ?_ ?_ ?_ ?_ (fun _=>rfl) ?_
 ·rintro⟨y0,y1,y2,y3,y4,y5,y6,y7,y8⟩;kernel_rfl
 ·rintro⟨y0,y1,y2,y3,y4,y5,y6,y7,y8⟩;kernel_rfl
 ·intro s x h
  have h:pY s=some x:=h
  unfold pY at h
  repeat' split at h
  all_goals cases h
  exact⟨aa (by assumption) rfl (aa (by assumption) rfl (aa (by assumption) rfl (aa (by assumption) rfl (rfl)))),ab rfl (by assumption) rfl (ab rfl (by assumption) rfl (ab rfl (by assumption) rfl (ab rfl (by assumption) rfl (ab rfl (by assumption) rfl (ab rfl (by assumption) rfl (rfl))))))⟩
 ·rintro⟨y0,y1,y2,y3,y4,y5,y6,y7,y8⟩;kernel_rfl
 ·rintro⟨y0,y1,y2,y3,y4,y5,y6,y7,y8⟩ z;exact(And.intro (And.intro trivial rfl) trivial)
section
variable (x0:List (Int×ByteArray×Int))(x1 x2:ByteArray)(x3 x4 x5:List ByteArray)(x6:List (ByteArray×List (Int×ByteArray×Int)))
def jE:Int×Int×ByteArray×ByteArray×List (Int×ByteArray×Int)×List ByteArray×List ByteArray×List ByteArray×List (ByteArray×List (Int×ByteArray×Int)):=((0:Int),(↑x0.length:Int),x1,x2,x0,x3,x4,x5,x6)
def ny:Bool:=Nat.beq ((Lp.res aA (jE x0 x1 x2 x3 x4 x5 x6)).1) (0:Nat)
def sq:Int:=bif ny x0 x1 x2 x3 x4 x5 x6 then ((Lp.res aA (jE x0 x1 x2 x3 x4 x5 x6)).2).1else(-1:Int)
def zw:ByteArray:=bif ny x0 x1 x2 x3 x4 x5 x6 then x1 else x1
def zx:ByteArray:=bif ny x0 x1 x2 x3 x4 x5 x6 then x2 else x2
def sr:Bool:=allT [Lp.fin aA (jE x0 x1 x2 x3 x4 x5 x6)]
end
def yF:List SV→List Entry→Option Out
 | [.one ⟨false,[.ref 0]⟩,.one ⟨false,[.clo 265 [1]]⟩],[.row false 178 (.pair (.int .i64) (.pair .str (.int .i64))) x0,.box 63 [.val (.string x1),.ref 2,.ref 3,.ref 4,.val (.string x2),.ref 5],.row false 9 (.str) x3,.row false 9 (.str) x4,.row false 9 (.str) x5,.row false 204 (.pair .str (.sl (178:Nat) (.pair (.int .i64) (.pair .str (.int .i64))))) x6]=>some ⟨.one ⟨false,[.val (.int .i64 (sq x0 x1 x2 x3 x4 x5 x6))]⟩,[.row false 178 abW x0,.box 63 [.val (.string (zw x0 x1 x2 x3 x4 x5 x6)),.ref 2,.ref 3,.ref 4,.val (.string (zx x0 x1 x2 x3 x4 x5 x6)),.ref 5],.row false 9 aen x3,.row false 9 aen x4,.row false 9 aen x5,.row false 204 (CTy.pair CTy.str (CTy.sl (178:Nat) abW)) x6],[],[sr x0 x1 x2 x3 x4 x5 x6]⟩
 |_,_=>none
def sf:PF prog:=PF.ofG prog [bQ,PF.lend bQ,PF.fz bQ] [aA.F] aP 214 f214 func214 (LOk.fnT (l:= [aZ f214 0]) (by kernel_rfl) (.cons EQ (.nil _))) yF (by
 intro vs es r h;unfold yF at h;split at h
 ·cases h;kernel_rfl
 ·cases h)
section
variable (x0:List (Int×ByteArray×Int))(x1 x2:ByteArray)(x3 x4 x5:List ByteArray)(x6:List (ByteArray×List (Int×ByteArray×Int)))
def qO:Bool:=leI (0:Int) (sq x0 x1 x2 x3 x4 x5 x6)
def GY:ByteArray:=zw x0 x1 x2 x3 x4 x5 x6
def GZ:ByteArray:=zx x0 x1 x2 x3 x4 x5 x6
def qP:Bool:=allT [sr x0 x1 x2 x3 x4 x5 x6]
end
def wE:List SV→List Entry→Option Out
 | [.one ⟨false,[.ref 0]⟩,.one ⟨false,[.clo 265 [1]]⟩],[.row false 178 (.pair (.int .i64) (.pair .str (.int .i64))) x0,.box 63 [.val (.string x1),.ref 2,.ref 3,.ref 4,.val (.string x2),.ref 5],.row false 9 (.str) x3,.row false 9 (.str) x4,.row false 9 (.str) x5,.row false 204 (.pair .str (.sl (178:Nat) (.pair (.int .i64) (.pair .str (.int .i64))))) x6]=>some ⟨.one ⟨false,[.val (.bool (qO x0 x1 x2 x3 x4 x5 x6))]⟩,[.row false 178 abW x0,.box 63 [.val (.string (GY x0 x1 x2 x3 x4 x5 x6)),.ref 2,.ref 3,.ref 4,.val (.string (GZ x0 x1 x2 x3 x4 x5 x6)),.ref 5],.row false 9 aen x3,.row false 9 aen x4,.row false 9 aen x5,.row false 204 (CTy.pair CTy.str (CTy.sl (178:Nat) abW)) x6],[],[qP x0 x1 x2 x3 x4 x5 x6]⟩
 |_,_=>none
def qG:PF prog:=PF.ofG prog [sf,PF.lend sf,PF.fz sf] [] aP 159 f159 func159 (fun c _=>LOk.nil c) wE (by
 intro vs es r h;unfold wE at h;split at h
 ·cases h;kernel_rfl
 ·cases h)
def dc(x0 x1:ByteArray)(x3 x4 x5:List ByteArray)(x6:List (ByteArray×List (Int×ByteArray×Int)))(x7:List (Int×ByteArray×Int)):Bool:=qO x7 x0 x1 x3 x4 x5 x6
def eS(x0 x1:ByteArray)(x3 x4 x5:List ByteArray)(x6:List (ByteArray×List (Int×ByteArray×Int)))(x7:List (Int×ByteArray×Int)):Bool:=allT [qP x7 x0 x1 x3 x4 x5 x6]
def pc:List SV→List Entry→Option Out
 | [.one ⟨true,[.val (.string x0),.ref 0,.ref 1,.ref 2,.val (.string x1),.ref 3]⟩,.one ⟨true,[.val (.string _x2),.ref 4]⟩],[.row false 9 (.str) x3,.row false 9 (.str) x4,.row false 9 (.str) x5,.row false 204 (.pair .str (.sl (178:Nat) (.pair (.int .i64) (.pair .str (.int .i64))))) x6,.row false 178 (.pair (.int .i64) (.pair .str (.int .i64))) x7]=>some ⟨.one ⟨false,[.val (.bool (dc x0 x1 x3 x4 x5 x6 x7))]⟩,[.row false 9 aen x3,.row false 9 aen x4,.row false 9 aen x5,.row false 204 (CTy.pair CTy.str (CTy.sl (178:Nat) abW)) x6,.row false 178 abW x7],[],[eS x0 x1 x3 x4 x5 x6 x7]⟩
 |_,_=>none
def cf:PF prog:=PF.ofG prog [qG,PF.lend qG,PF.fz qG] [] aP 238 f238 func238 (fun c _=>LOk.nil c) pc (by
 intro vs es r h;unfold pc at h;split at h
 ·cases h;kernel_rfl
 ·cases h)
abbrev bx:=Int×Int×ByteArray×ByteArray×List ByteArray×List ByteArray×List ByteArray×List (ByteArray×(List (Int×(ByteArray×Int))))
def cB(y0:Int)(y7:List (ByteArray×(List (Int×(ByteArray×Int))))):List (Int×ByteArray×Int):=(Option.getD y7[Int.toNat y0]? (vO (CTy.pair CTy.str (CTy.sl (178:Nat) abW)))).2
def iX(y0 y1:Int):Bool:=ltI y0 y1
def mo(y0:Int):Bool:=leI (0:Int) y0
def mp(y0:Int)(y7:List (ByteArray×(List (Int×(ByteArray×Int))))):Bool:=ltI y0 (↑y7.length:Int)
def mq(y0:Int)(y7:List (ByteArray×(List (Int×(ByteArray×Int))))):Bool:=ltN y0.toNat y7.length
def iY(y0:Int)(y2 y3:ByteArray)(y4 y5 y6:List ByteArray)(y7:List (ByteArray×(List (Int×(ByteArray×Int))))):Bool:=eS y2 y3 y4 y5 y6 y7 (cB y0 y7)
def iZ(y0:Int)(y2 y3:ByteArray)(y4 y5 y6:List ByteArray)(y7:List (ByteArray×(List (Int×(ByteArray×Int))))):Bool:=dc y2 y3 y4 y5 y6 y7 (cB y0 y7)
def qS(y0:Int):Int:=IntKind.wrap .i64 (y0 + (1:Int))
def FM:bx→List (Nat×SV)
 |(y0,y1,y2,y3,_,_,_,_)=> [(8,(.one ⟨false,[.val (.int .i64 y0)]⟩)),(7,(.one ⟨false,[.val (.int .i64 y1)]⟩)),(1,(.one ⟨false,[.bnd 238 [(0,some (.string y2)),(0,none),(1,none),(2,none),(0,some (.string y3)),(3,none)]]⟩)),(0,(.one ⟨false,[.ref 3]⟩))]
def FH:bx→List (Nat×Entry)
 |(_,_,_,_,y4,y5,y6,y7)=> [(0,(.row false 9 aen y4)),(1,(.row false 9 aen y5)),(2,(.row false 9 aen y6)),(3,(.row false 204 (CTy.pair CTy.str (CTy.sl (178:Nat) abW)) y7))]
def FX:Nat→bx→List (Nat×SV)
 |0,(y0,_,_,_,_,_,_,_)=> [(4,(.one ⟨false,[.val (.int .i64 y0)]⟩))]
 |_,(_,_,_,_,_,_,_,_)=> []
def FS:Nat→bx→List (Nat×Entry)
 |0,(_,_,_,_,y4,y5,y6,y7)=> [(0,(.row false 9 aen y4)),(1,(.row false 9 aen y5)),(2,(.row false 9 aen y6)),(3,(.row false 204 (CTy.pair CTy.str (CTy.sl (178:Nat) abW)) y7))]
 |_,(_,_,_,_,y4,y5,y6,y7)=> [(0,(.row false 9 aen y4)),(1,(.row false 9 aen y5)),(2,(.row false 9 aen y6)),(3,(.row false 204 (CTy.pair CTy.str (CTy.sl (178:Nat) abW)) y7))]
def iC:bx→LT bx
 |(y0,y1,y2,y3,y4,y5,y6,y7)=> .ite (iX y0 y1) (.need [mo y0,mp y0 y7,mq y0 y7,iY y0 y2 y3 y4 y5 y6 y7] (.ite (iZ y0 y2 y3 y4 y5 y6 y7) (.ext 0 [(0,0),(1,1),(2,2),(3,3)]) (.nrm ((qS y0),y1,y2,y3,y4,y5,y6,y7) [(0,0),(1,1),(2,2),(3,3)]))) (.ext 1 [(0,0),(1,1),(2,2),(3,3)])
def pW(s:St):Option bx:=
 (match s.look 8 with
 |some ⟨none,.one ⟨false,[.val (.int .i64 y0)]⟩⟩=>
 (match s.look 7 with
 |some ⟨none,.one ⟨false,[.val (.int .i64 y1)]⟩⟩=>
 (match s.look 1 with
 |some ⟨none,.one ⟨false,[.bnd 238 [(0,some (.string y2)),(1,none),(2,none),(3,none),(0,some (.string y3)),(0,none)]]⟩⟩=>
 (match s.look 0 with
 |some ⟨none,.one ⟨false,[.ref 0]⟩⟩=>
 (match s.ent 1 with
 |some (.row false 9 (.str) y4)=>
 (match s.ent 2 with
 |some (.row false 9 (.str) y5)=>
 (match s.ent 3 with
 |some (.row false 9 (.str) y6)=>
 (match s.ent 0 with
 |some (.row false 204 (.pair .str (.sl (178:Nat) (.pair (.int .i64) (.pair .str (.int .i64))))) y7)=>
 some (y0,y1,y2,y3,y4,y5,y6,y7)
 |_=>none)
 |_=>none)
 |_=>none)
 |_=>none)
 |_=>none)
 |_=>none)
 |_=>none)
 |_=>none)
def az:Lp bx where
 h:=⟨[9,10,5,11,12,13,14,15,16,17,4,18,8],[0,1,2,3],[],[]⟩
 JL:=FM
 JE:=FH
 XL:=FX
 XE:=FS
 q:=fun j=>match j with | 0=> .ret | _=> .exit 0
 tags:= [0,1]
 lt:=iC
 fuel:=fun(y0,y1,y2,y3,y4,y5,y6,y7)=>y0.natAbs + y1.natAbs + y2.size + y3.size + y4.length + y5.length + y6.length + y7.length
 fix:=fun(_,y1,y2,y3,y4,y5,y6,y7) (y0,_,_,_,_,_,_,_)=>(y0,y1,y2,y3,y4,y5,y6,y7)
 σ:= [(0,1),(1,2),(2,3),(3,0)]
 rd:=pW
theorem EO:LoopOk prog (fun k=>Nat.blt k Tryz.f262.ntmps) az.F (aZ f262 0):=by
 refine Lp.ok (tbl:= [cf,PF.lend cf,PF.fz cf]) (lf:= []) aP az (by kernel_rfl) (LOk.nil _) (fun _=>rfl) (fun j _=>by unfold az;match j with | 0=>rfl | _ + 1=>rfl) ?_ ?_ ?_ ?_ (fun _=>rfl) ?_
 ·rintro⟨y0,y1,y2,y3,y4,y5,y6,y7⟩;kernel_rfl
 ·rintro⟨y0,y1,y2,y3,y4,y5,y6,y7⟩;kernel_rfl
 ·intro s x h
  have h:pW s=some x:=h
  unfold pW at h
  repeat' split at h
  all_goals cases h
  exact⟨aa (by assumption) rfl (aa (by assumption) rfl (aa (by assumption) rfl (aa (by assumption) rfl (rfl)))),ab rfl (by assumption) rfl (ab rfl (by assumption) rfl (ab rfl (by assumption) rfl (ab rfl (by assumption) rfl (rfl))))⟩
 ·rintro⟨y0,y1,y2,y3,y4,y5,y6,y7⟩;kernel_rfl
 ·rintro⟨y0,y1,y2,y3,y4,y5,y6,y7⟩ z;exact(And.intro (And.intro trivial rfl) trivial)
section
variable (x0 x1:ByteArray)(x2:List (ByteArray×List (Int×ByteArray×Int)))(x3 x4 x5:List ByteArray)
def jD:Int×Int×ByteArray×ByteArray×List ByteArray×List ByteArray×List ByteArray×List (ByteArray×List (Int×ByteArray×Int)):=((0:Int),(↑x2.length:Int),x0,x1,x3,x4,x5,x2)
def sm:Int:=bif Nat.beq ((Lp.res az (jD x0 x1 x2 x3 x4 x5)).1) (0:Nat)then ((Lp.res az (jD x0 x1 x2 x3 x4 x5)).2).1else(-1:Int)
def sn:Bool:=allT [Lp.fin az (jD x0 x1 x2 x3 x4 x5)]
end
def yD:List SV→List Entry→Option Out
 | [.one ⟨false,[.ref 0]⟩,.one ⟨false,[.bnd 238 [(0,some (.string x0)),(1,none),(2,none),(3,none),(0,some (.string x1)),(0,none)]]⟩],[.row false 204 (.pair .str (.sl (178:Nat) (.pair (.int .i64) (.pair .str (.int .i64))))) x2,.row false 9 (.str) x3,.row false 9 (.str) x4,.row false 9 (.str) x5]=>some ⟨.one ⟨false,[.val (.int .i64 (sm x0 x1 x2 x3 x4 x5))]⟩,[.row false 204 (CTy.pair CTy.str (CTy.sl (178:Nat) abW)) x2,.row false 9 aen x3,.row false 9 aen x4,.row false 9 aen x5],[],[sn x0 x1 x2 x3 x4 x5]⟩
 |_,_=>none
def sd:PF prog:=PF.ofG prog [cf,PF.lend cf,PF.fz cf] [az.F] aP 262 f262 func262 (LOk.fnT (l:= [aZ f262 0]) (by kernel_rfl) (.cons EO (.nil _))) yD (by
 intro vs es r h;unfold yD at h;split at h
 ·cases h;kernel_rfl
 ·cases h)
def mf(x0 x1:ByteArray)(x2:List (ByteArray×List (Int×ByteArray×Int)))(x3 x4 x5:List ByteArray):Bool:=leI (0:Int) (sm x0 x1 x2 x3 x4 x5)
def mg(x0 x1:ByteArray)(x2:List (ByteArray×List (Int×ByteArray×Int)))(x3 x4 x5:List ByteArray):Bool:=allT [sn x0 x1 x2 x3 x4 x5]
def wC:List SV→List Entry→Option Out
 | [.one ⟨false,[.ref 0]⟩,.one ⟨false,[.bnd 238 [(0,some (.string x0)),(1,none),(2,none),(3,none),(0,some (.string x1)),(0,none)]]⟩],[.row false 204 (.pair .str (.sl (178:Nat) (.pair (.int .i64) (.pair .str (.int .i64))))) x2,.row false 9 (.str) x3,.row false 9 (.str) x4,.row false 9 (.str) x5]=>some ⟨.one ⟨false,[.val (.bool (mf x0 x1 x2 x3 x4 x5))]⟩,[.row false 204 (CTy.pair CTy.str (CTy.sl (178:Nat) abW)) x2,.row false 9 aen x3,.row false 9 aen x4,.row false 9 aen x5],[],[mg x0 x1 x2 x3 x4 x5]⟩
 |_,_=>none
def fv:PF prog:=PF.ofG prog [sd,PF.lend sd,PF.fz sd] [] aP 229 f229 func229 (fun c _=>LOk.nil c) wC (by
 intro vs es r h;unfold wC at h;split at h
 ·cases h;kernel_rfl
 ·cases h)
abbrev aT:=Int×Int×List (ByteArray×(List (Int×(ByteArray×Int))))×List ByteArray
def bj(y0:Int)(y2:List (ByteArray×(List (Int×(ByteArray×Int))))):List ByteArray:= [(Option.getD y2[Int.toNat y0]? (vO (CTy.pair CTy.str (CTy.sl (178:Nat) abW)))).1]
def eW(y0 y1:Int):Bool:=ltI y0 y1
def eX(y0:Int):Bool:=leI (0:Int) y0
def eY(y0:Int)(y2:List (ByteArray×(List (Int×(ByteArray×Int))))):Bool:=ltI y0 (↑y2.length:Int)
def eZ(y0:Int)(y2:List (ByteArray×(List (Int×(ByteArray×Int))))):Bool:=ltN y0.toNat y2.length
def fa(y0:Int)(y2:List (ByteArray×(List (Int×(ByteArray×Int)))))(y3:List ByteArray):Bool:=leN (List.length y3 + List.length (bj y0 y2)) (9223372036854775807:Nat)
def fb(y0:Int)(y2:List (ByteArray×(List (Int×(ByteArray×Int)))))(y3:List ByteArray):Bool:=leN ((List.length y3 + List.length (bj y0 y2)) * (16:Nat)) (140737488355328:Nat)
def fc(y0:Int):Int:=IntKind.wrap .i64 (y0 + (1:Int))
def fe(y0:Int)(y2:List (ByteArray×(List (Int×(ByteArray×Int)))))(y3:List ByteArray):List ByteArray:=y3++bj y0 y2
def Cw:aT→List (Nat×SV)
 |(y0,y1,_,_)=> [(10,(.one ⟨false,[.val (.int .i64 y0)]⟩)),(9,(.one ⟨false,[.val (.int .i64 y1)]⟩)),(8,(.one ⟨false,[.ref 0]⟩)),(3,(.one ⟨false,[.ptr 1 0]⟩))]
def Cv:aT→List (Nat×Entry)
 |(_,_,y2,y3)=> [(0,(.row false 204 (CTy.pair CTy.str (CTy.sl (178:Nat) abW)) y2)),(1,(.box 60 [.ref 2])),(2,(.row true 9 aen y3))]
def Cz:Nat→aT→List (Nat×SV)
 |_,(_,_,_,_)=> []
def Cy:Nat→aT→List (Nat×Entry)
 |_,(_,_,y2,y3)=> [(0,(.row false 204 (CTy.pair CTy.str (CTy.sl (178:Nat) abW)) y2)),(1,(.box 60 [.ref 2])),(2,(.row true 9 aen y3))]
def eQ:aT→LT aT
 |(y0,y1,y2,y3)=> .ite (eW y0 y1) (.need [eX y0,eY y0 y2,eZ y0 y2] (.need [fa y0 y2 y3,fb y0 y2 y3] (.nrm ((fc y0),y1,y2,(fe y0 y2 y3)) [(0,0),(1,1),(2,640)]))) (.ext 0 [(0,0),(1,1),(2,2)])
def ni(s:St):Option aT:=
 (match s.look 10 with
 |some ⟨none,.one ⟨false,[.val (.int .i64 y0)]⟩⟩=>
 (match s.look 9 with
 |some ⟨none,.one ⟨false,[.val (.int .i64 y1)]⟩⟩=>
 (match s.look 8 with
 |some ⟨none,.one ⟨false,[.ref 3]⟩⟩=>
 (match s.look 3 with
 |some ⟨none,.one ⟨false,[.ptr 448 0]⟩⟩=>
 (match s.ent 3 with
 |some (.row false 204 (.pair .str (.sl (178:Nat) (.pair (.int .i64) (.pair .str (.int .i64))))) y2)=>
 (match s.ent 448 with
 |some (.box 60 [.ref 449])=>
 (match s.ent 449 with
 |some (.row true 9 (.str) y3)=>
 some (y0,y1,y2,y3)
 |_=>none)
 |_=>none)
 |_=>none)
 |_=>none)
 |_=>none)
 |_=>none)
 |_=>none)
def ai:Lp aT where
 h:=⟨[11,12,13,5,14,15,16,17,18,19,10],[0,1],[2],[]⟩
 JL:=Cw
 JE:=Cv
 XL:=Cz
 XE:=Cy
 q:=fun j=>match j with | _=> .exit 0
 tags:= [0]
 lt:=eQ
 fuel:=fun(y0,y1,y2,y3)=>y0.natAbs + y1.natAbs + y2.length + y3.length
 fix:=fun(_,y1,y2,_) (y0,_,_,y3)=>(y0,y1,y2,y3)
 σ:= [(0,3),(1,448),(2,449)]
 rd:=ni
theorem BO:LoopOk prog (fun k=>Nat.blt k Tryz.f184.ntmps) ai.F (aZ f184 0):=by
 refine Lp.ok (tbl:= [bY,PF.lend bY,PF.fz bY,Ao,PF.lend Ao,PF.fz Ao,ek,PF.lend ek,PF.fz ek,aD,PF.lend aD,PF.fz aD,cV,PF.lend cV,PF.fz cV,dD,PF.lend dD,PF.fz dD,dE,PF.lend dE,PF.fz dE,fv,PF.lend fv,PF.fz fv]) (lf:= []) aP ai (by kernel_rfl) (LOk.nil _) (fun _=>rfl) (fun _ _=>rfl) ?_ ?_ ?_ ?_ (fun _=>rfl) ?_
 ·rintro⟨y0,y1,y2,y3⟩;kernel_rfl
 ·rintro⟨y0,y1,y2,y3⟩;kernel_rfl
 ·intro s x h
  have h:ni s=some x:=h
  unfold ni at h
  repeat' split at h
  all_goals cases h
  exact⟨aa (by assumption) rfl (aa (by assumption) rfl (aa (by assumption) rfl (aa (by assumption) rfl (rfl)))),ab rfl (by assumption) rfl (ab rfl (by assumption) rfl (ab rfl (by assumption) rfl (rfl)))⟩
 ·rintro⟨y0,y1,y2,y3⟩;kernel_rfl
 ·rintro⟨y0,y1,y2,y3⟩ z;exact(And.intro rfl trivial)
def jZ(x1:ByteArray):Bool:=
 !ByteArray.toList x1==ByteArray.toList { data:= #[] }
section
variable (x0 x1:ByteArray)(x2 x3 x4:List ByteArray)(x5:List (ByteArray×List (Int×ByteArray×Int)))
def dB:Bool:=bif bif jZ x1 then !lz x2 x1 else false then !lz x3 x1 else false
def ka:Int×Int×List (ByteArray×List (Int×ByteArray×Int))×List ByteArray:=((0:Int),(↑x5.length:Int),x5,[])
def ak:List ByteArray:=(Lp.res ai (ka x5)).2.2.2.2
def al:List ByteArray:=List.flatten [x3,x4]
def kb:Bool:=kg (ke (ak x5) (al x3 x4)) (bZ (ak x5) (al x3 x4))
def ky:Int:=bif qq (aS x2 x3 x4)then(1:Int)else bif dB x1 x2 x3 then(2:Int)else bif cQ (ak x5) (al x3 x4)then(3:Int)else bif qq (bZ (ak x5) (al x3 x4))then(4:Int)else bif kb x3 x4 x5 then(5:Int)else bif mf x0 x1 x5 x2 x3 x4 then(6:Int)else(0:Int)
def kz:Bool:=allT [Lp.fin ai (ka x5),leN (List.length [x3,x4]) (1000:Nat)&&leN (Et [x3,x4]) (2000000:Nat),kA x2 x3 x4,leN (List.length (aS x2 x3 x4)) (9223372036854775807:Nat),qq (aS x2 x3 x4)||(!(jZ x1&&true)||leN x2.length (9223372036854775807:Nat)),qq (aS x2 x3 x4)||(!((bif jZ x1 then !lz x2 x1 else false)&&true)||leN x3.length (9223372036854775807:Nat)),qq (aS x2 x3 x4)||(dB x1 x2 x3||kf (ak x5) (al x3 x4)),qq (aS x2 x3 x4)||(dB x1 x2 x3||(cQ (ak x5) (al x3 x4)||leN (List.length (bZ (ak x5) (al x3 x4))) (9223372036854775807:Nat))),qq (aS x2 x3 x4)||(dB x1 x2 x3||(cQ (ak x5) (al x3 x4)||(qq (bZ (ak x5) (al x3 x4))||kh (ke (ak x5) (al x3 x4)) (bZ (ak x5) (al x3 x4))))),qq (aS x2 x3 x4)||(dB x1 x2 x3||(cQ (ak x5) (al x3 x4)||(qq (bZ (ak x5) (al x3 x4))||(kb x3 x4 x5||mg x0 x1 x5 x2 x3 x4))))]
end
def uH:List SV→List Entry→Option Out
 | [.one ⟨true,[.val (.string x0),.ref 0,.ref 1,.ref 2,.val (.string x1),.ref 3]⟩],[.row false 9 (.str) x2,.row false 9 (.str) x3,.row false 9 (.str) x4,.row false 204 (.pair (.str) (.sl 178 (.pair (.int .i64) (.pair (.str) (.int .i64))))) x5]=>some ⟨.one ⟨false,[.val (.int .i64 (ky x0 x1 x2 x3 x4 x5))]⟩,[.row false 9 aen x2,.row false 9 aen x3,.row false 9 aen x4,.row false 204 (CTy.pair CTy.str (CTy.sl (178:TypeId) abW)) x5],[],[kz x0 x1 x2 x3 x4 x5]⟩
 |_,_=>none
def oU:PF prog:=PF.ofG prog [bY,PF.lend bY,PF.fz bY,Ao,PF.lend Ao,PF.fz Ao,ek,PF.lend ek,PF.fz ek,aD,PF.lend aD,PF.fz aD,cV,PF.lend cV,PF.fz cV,dD,PF.lend dD,PF.fz dD,dE,PF.lend dE,PF.fz dE,fv,PF.lend fv,PF.fz fv] [ai.F] aP 184 f184 func184 (LOk.fnT (l:= [aZ f184 0]) (by kernel_rfl) (.cons BO (.nil _))) uH (by
 intro vs es r h;unfold uH at h;split at h
 ·cases h;kernel_rfl
 ·cases h)
def NT(x0 x1:ByteArray)(x2 x3 x4:List ByteArray)(x5:List (ByteArray×List (Int×ByteArray×Int))):Bool:=bif CE x0 x1 x2 x3 x4 x5 then ky x0 x1 x2 x3 x4 x5==(0:Int)else false
def NU(x0 x1:ByteArray)(x2 x3 x4:List ByteArray)(x5:List (ByteArray×List (Int×ByteArray×Int))):Bool:=allT [GH x0 x1 x2 x3 x4 x5,!(CE x0 x1 x2 x3 x4 x5&&true)||kz x0 x1 x2 x3 x4 x5]
def Tl:List SV→List Entry→Option Out
 | [.one ⟨true,[.val (.string x0),.ref 0,.ref 1,.ref 2,.val (.string x1),.ref 3]⟩],[.row false 9 (.str) x2,.row false 9 (.str) x3,.row false 9 (.str) x4,.row false 204 (.pair (.str) (.sl 178 (.pair (.int .i64) (.pair (.str) (.int .i64))))) x5]=>some ⟨.one ⟨false,[.val (.bool (NT x0 x1 x2 x3 x4 x5))]⟩,[.row false 9 aen x2,.row false 9 aen x3,.row false 9 aen x4,.row false 204 (CTy.pair CTy.str (CTy.sl (178:TypeId) abW)) x5],[],[NU x0 x1 x2 x3 x4 x5]⟩
 |_,_=>none
def adf:PF prog:=PF.ofG prog [LF,PF.lend LF,PF.fz LF,oU,PF.lend oU,PF.fz oU] [] aP 115 f115 func115 (fun c _=>LOk.nil c) Tl (by
 intro vs es r h;unfold Tl at h;split at h
 ·cases h;kernel_rfl
 ·cases h)
theorem age{ins vs os:List ByteArray}(h1:Lm ins=true)(h2:Lm vs=true)(h3:Lm os=true):
  leN ins.length 9223372036854775807=true∧leN vs.length 9223372036854775807=true∧leN os.length 9223372036854775807=true:=by
 simp only [Lm,Bool.and_eq_true]at h1 h2 h3
 exact⟨h1.1,h2.1,h3.1⟩
def prOk(nm:ByteArray)(ins vs os:List ByteArray)(g:ByteArray)(ls:List LN):Bool:=leN nm.size 9223372036854775807&&(Lm ins&&(Lm vs&&(Lm os&&(leN g.size 9223372036854775807&&(leN (ins.length + vs.length + os.length) 2000000&&Sz ls)))))
theorem OB{nm:ByteArray}{ins vs os:List ByteArray}{g:ByteArray}{ls:List LN}:prOk nm ins vs os g ls=true↔
  nm.size≤9223372036854775807∧Lm ins=true∧Lm vs=true∧Lm os=true∧g.size≤9223372036854775807∧ins.length + vs.length + os.length≤2000000∧Sz ls=true:=by
 simp only [prOk,Bool.and_eq_true,ij]
def rf(b:ByteArray×(List (Int×(ByteArray×Int)))):(Unit)→Nat ⊕ (Unit)
 |_=>(bif(bif(!lI b.1)then true else !Zy (bif !(!lI b.1)&&true then b.2else []))then(.inl 0)else(.inr ()))
def qp(y1 y2:ByteArray)(y3 y4 y5:List ByteArray)(y6:List (ByteArray×(List (Int×(ByteArray×Int)))))(i:Nat):(Unit)→kT
 |_=>((i:Int),y1,y2,y3,y4,y5,y6)
def Gs:kT→Unit
 |(_,_,_,_,_,_,_)=>()
theorem Wn(y1 y2:ByteArray)(y3 y4 y5:List ByteArray)(y6:List (ByteArray×(List (Int×(ByteArray×Int))))) (hn:y6.length≤9223372036854775807) (hA: ∀ l∈y6,l.1.size≤9223372036854775807∧Nx l.2=true):
  ee.fin ((0:Int),y1,y2,y3,y4,y5,y6)=true∧ee.res ((0:Int),y1,y2,y3,y4,y5,y6)=((aC (rf) 1 y6 0 ()).1,(qp y1 y2 y3 y4 y5 y6) (aC (rf) 1 y6 0 ()).2.1 (aC (rf) 1 y6 0 ()).2.2):=by
 have kw:=ee.along (qp y1 y2 y3 y4 y5 y6) Gs (rf) 1 (fun _ _=>True) y6 () (by trivial) (by simp only [ee,qp];omega) (fun i b a hb hI=> ?_) (fun a hI=> ?_)
 ·exact kw
 ·obtain⟨⟩:=a
  have fy:=(List.getElem?_eq_some_iff.1 hb).1
  have jx: ∀ d,Option.getD y6[i]? d=b:=fun d=>by rw [hb];rfl
  have hw:=uF fy hn
  have cM:ltI (i:Int) (y6.length:Int)=true:=gg (by omega)
  have xj:leI (0:Int) (i:Int)=true:=cW (by omega)
  have jC:ltN i y6.length=true:=iF fy
  refine⟨?_,?_,?_,?_⟩
  ·have hg2:lH (i:Int) y6=b:=by simp only [lH,Int.toNat_natCast];exact jx _
   have hm:=hA b (List.mem_of_getElem? hb)
   obtain⟨q1,q2⟩:=JQ b.1 hm.1
   have e0:sV (i:Int) y6=true:=cM
   have e1:sW (i:Int) y6=true:=by simp only [sW,Int.toNat_natCast];exact jC
   have e3:iE (i:Int) y6= !lN b.1:=by simp only [iE,hg2,q1]
   have e4:qf (i:Int) y6=bif lN b.1 then b.2 else []:=by simp only [qf,e3,hg2];cases lN b.1 <;> rfl
   have h7:Nx b.2=true:=hm.2
   have h8:Nx []=true:=rfl
   simp only [um,Cl,Cm,Cn,Co,Cp,Cq,Cr,xW,Cs,vW,ee,LT.nds,allT,qp,e0,e1,e3,e4,hg2,q2,xj,cond_true,Bool.or_true]
   cases lN b.1 <;> simp [LT.nds,h7,h8]
  ·simp [sV,sW,lH,iE,qf,um,Cl,Cm,Cn,Co,Cp,Cq,Cr,xW,Cs,vW,ee,LT.each,qp,Gs,hw]
  ·have hg2:lH (i:Int) y6=b:=by simp only [lH,Int.toNat_natCast];exact jx _
   have e0:sV (i:Int) y6=true:=cM
   simp only [ee,vW,um,xW,iE,qf,LT.fn,qp,Gs,rf,e0,hg2,cond_true]
  ·exact fun _ _=>trivial
 ·obtain⟨⟩:=a
  simp [sV,sW,lH,iE,qf,um,Cl,Cm,Cn,Co,Cp,Cq,Cr,xW,Cs,vW,ee,LT.out,qp]
theorem adx(nm:ByteArray)(ins vs os:List ByteArray)(g:ByteArray)(ls:List LN)(h:prOk nm ins vs os g ls=true):
  Dc nm g ins vs os ls=abT nm ins vs os g ls∧Hh nm g ins vs os ls=true:=by
 obtain⟨h1,h2,h3,h4,h5,h6,h7⟩:=OB.1 h
 obtain⟨hn,hA⟩:=JK.1 h7
 obtain⟨w1,w2⟩:=Wn nm g ins vs os ls (by omega) hA
 have e0:(aC rf 1 ls 0 ())=(aC (fun(k:LN) (_:Unit)=>bif !lineB k then(.inl 0:Nat ⊕ Unit)else .inr ()) 1 ls 0 ()):=by
  refine PC fun b hb a=> ?_
  simp only [rf,(JQ b.1 (hA b hb).1).1,lineB]
  cases lN b.1 <;> simp
 rw [e0,gJ (P:=fun k=> !lineB k) (j:=0) (fun k=>rfl)]at w2
 have e5:(ls.any fun k=> !lineB k)= !ls.all lineB:=by simp [List.all_eq_not_any_not]
 rw [e5]at w2
 obtain⟨q1,q2⟩:=JQ nm h1
 obtain⟨q3,q4⟩:=JQ g h5
 have c1:inR (ins.length:Int) 1 20=inR (ins.length:Int) ((1:Nat):Int) 20:=rfl
 have c0:inR (vs.length:Int) 0 20=inR (vs.length:Int) ((0:Nat):Int) 20:=rfl
 have c2:inR (os.length:Int) 1 20=inR (os.length:Int) ((1:Nat):Int) 20:=rfl
 refine⟨?_,?_⟩
 ·simp only [Dc,KG,KH,KI,KJ,KK,Ft,w2,q1,q3,br,Rx,JO,abT,aaQ,c0,c1,c2]
  generalize lN nm=p1
  generalize ins.all lN=p2
  generalize inR (ins.length:Int) ((1:Nat):Int) 20=p3
  generalize vs.all lN=p4
  generalize inR (vs.length:Int) ((0:Nat):Int) 20=p5
  generalize os.all lN=p6
  generalize inR (os.length:Int) ((1:Nat):Int) 20=p7
  generalize (g.toList== [])=p8
  generalize lN g=p9
  generalize ls.all lineB=p10
  generalize inR (ls.length:Int) 1 40=p11
  cases p1 <;> cases p2 <;> cases p3 <;> simp <;> cases p4 <;> cases p5 <;> simp <;> cases p6 <;> cases p7 <;> simp <;> cases p8 <;> cases p9 <;> simp <;> cases p10 <;> simp [Nat.beq]
 ·simp only [Hh,Ft,w1,q2,q4,h2,h3,h4,allT,Bool.or_true,cond_true]
theorem JJ:(∀ m:Nat,leI 0 (m:Int)=true)∧leI 0 (-1)=false:=⟨fun m=>cW (by omega),rfl⟩
theorem Pj{α:Type}(l:List α)(p:α→Bool):(l.any fun k=> !p k)= !l.all p:=by simp [List.all_eq_not_any_not]
def fo(b:ByteArray×(List (Int×(ByteArray×Int)))):(Unit)→Nat ⊕ (Unit)
 |_=>(bif(cm b.2)then(.inl 0)else(.inr ()))
def cC(y2:List (ByteArray×(List (Int×(ByteArray×Int)))))(i:Nat):(Unit)→bv
 |_=>((i:Int),(↑y2.length:Int),y2)
def pQ:bv→Unit
 |(_,_,_)=>()
theorem Hm(y2:List (ByteArray×(List (Int×(ByteArray×Int))))) (hn:y2.length≤9223372036854775807):
  ax.fin ((0:Int),(↑y2.length:Int),y2)=true∧ax.res ((0:Int),(↑y2.length:Int),y2)=((aC (fo) 1 y2 0 ()).1,(cC y2) (aC (fo) 1 y2 0 ()).2.1 (aC (fo) 1 y2 0 ()).2.2):=by
 have kw:=ax.along (cC y2) pQ (fo) 1 (fun _ _=>True) y2 () (by trivial) (by simp only [ax,cC];omega) (fun i b a hb hI=> ?_) (fun a hI=> ?_)
 ·exact kw
 ·obtain⟨⟩:=a
  have fy:=(List.getElem?_eq_some_iff.1 hb).1
  have jx: ∀ d,Option.getD y2[i]? d=b:=fun d=>by rw [hb];rfl
  have hw:=uF fy hn
  have cM:ltI (i:Int) (y2.length:Int)=true:=gg (by omega)
  have xj:leI (0:Int) (i:Int)=true:=cW (by omega)
  have jC:ltN i y2.length=true:=iF fy
  refine⟨?_,?_,?_,?_⟩
  ·simp only [iT,mh,mi,mj,iA,ax,LT.nds,allT,cC,cM,xj,jC,Int.toNat_natCast,cond_true,Bool.and_self]
   cases fw (i:Int) y2 <;> simp [LT.nds]
  ·simp [iT,mh,mi,mj,fw,qQ,iA,ax,LT.each,cC,pQ,hw]
  ·have hg2:fw (i:Int) y2=cm b.2:=by
    simp only [fw,Int.toNat_natCast];exact congrArg (fun z:LN=>cm z.2) (jx _)
   simp only [iT,iA,ax,LT.fn,cC,pQ,fo,cM,hg2,cond_true]
  ·exact fun _ _=>trivial
 ·obtain⟨⟩:=a
  simp [iT,mh,mi,mj,fw,qQ,iA,ax,LT.out,cC]
theorem ajz(ins vs os:List ByteArray)(ls:List LN)(hn:ls.length≤1048576):
  jy ins vs os ls=(leN ins.length 20&&(leN vs.length 20&&(leN os.length 20&&(leN ls.length 40&&ls.all fun l=>leN l.2.length 40))))∧jz ins vs os ls=true:=by
 obtain⟨w1,w2⟩:=Hm ls (by omega)
 have hc: ∀ (k:Nat) (m:Nat),leI (m:Int) (k:Int)=leN m k:=fun k m=>by rw [Bool.eq_iff_iff,Cj,ij];omega
 have hc20: ∀ m:Nat,leI (m:Int) 20=leN m 20:=fun m=>hc 20 m
 have hc40: ∀ m:Nat,leI (m:Int) 40=leN m 40:=fun m=>hc 40 m
 rw [gJ (P:=fun k=> !leN k.2.length 40) (j:=0) (fun k=>by
  simp only [fo,cm]
  have:ltI 40 (k.2.length:Int)= !leN k.2.length 40:=by rw [Pq,hc40]
  rw [this]),Pj]at w2
 simp only [jy,jz,nz,qM,qN,sg,si,nv,w1,w2,allT,cC,hc20,hc40,Bool.or_true,cond_true]
 refine⟨?_,trivial⟩
 generalize (ls.all fun k=>leN k.2.length 40)=q
 cases leN ins.length 20 <;> cases leN vs.length 20 <;> cases leN os.length 20 <;> cases leN ls.length 40 <;> cases q <;> simp [Nat.beq,JJ.1,JJ.2]
def fq(b:ByteArray×(List (Int×(ByteArray×Int)))):(Unit)→Nat ⊕ (Unit)
 |_=>(bif(vI b.1 b.2)then(.inl 0)else(.inr ()))
def cD(y2:List (ByteArray×(List (Int×(ByteArray×Int)))))(i:Nat):(Unit)→bw
 |_=>((i:Int),(↑y2.length:Int),y2)
def pR:bw→Unit
 |(_,_,_)=>()
theorem Hn(y2:List (ByteArray×(List (Int×(ByteArray×Int))))) (hn:y2.length≤9223372036854775807) (hA: ∀ l∈y2,Nx l.2=true):
  ay.fin ((0:Int),(↑y2.length:Int),y2)=true∧ay.res ((0:Int),(↑y2.length:Int),y2)=((aC (fq) 1 y2 0 ()).1,(cD y2) (aC (fq) 1 y2 0 ()).2.1 (aC (fq) 1 y2 0 ()).2.2):=by
 have kw:=ay.along (cD y2) pR (fq) 1 (fun _ _=>True) y2 () (by trivial) (by simp only [ay,cD];omega) (fun i b a hb hI=> ?_) (fun a hI=> ?_)
 ·exact kw
 ·obtain⟨⟩:=a
  have fy:=(List.getElem?_eq_some_iff.1 hb).1
  have jx: ∀ d,Option.getD y2[i]? d=b:=fun d=>by rw [hb];rfl
  have hw:=uF fy hn
  have cM:ltI (i:Int) (y2.length:Int)=true:=gg (by omega)
  have xj:leI (0:Int) (i:Int)=true:=cW (by omega)
  have jC:ltN i y2.length=true:=iF fy
  refine⟨?_,?_,?_,?_⟩
  ·have hg2:bS (i:Int) y2=b:=by simp only [bS,Int.toNat_natCast];exact jx _
   have hm:=hA b (List.mem_of_getElem? hb)
   have h4:iV (i:Int) y2=true:=by simp only [iV,hg2,BL,hm,allT,cond_true]
   simp only [iU,ml,mm,mn,iB,ay,LT.nds,allT,cD,h4,cM,xj,jC,Int.toNat_natCast,cond_true,Bool.and_self]
   cases iW (i:Int) y2 <;> simp [LT.nds]
  ·simp [bS,iU,ml,mm,mn,iV,iW,qR,iB,ay,LT.each,cD,pR,hw]
  ·have hg2:bS (i:Int) y2=b:=by simp only [bS,Int.toNat_natCast];exact jx _
   simp only [iU,iW,iB,ay,LT.fn,cD,pR,fq,cM,hg2,cond_true]
  ·exact fun _ _=>trivial
 ·obtain⟨⟩:=a
  simp [bS,iU,ml,mm,mn,iV,iW,qR,iB,ay,LT.out,cD]
theorem acV(nm:ByteArray)(ins vs os:List ByteArray)(g:ByteArray)(ls:List LN)(h:prOk nm ins vs os g ls=true):
  CE nm g ins vs os ls=abT nm ins vs os g ls∧GH nm g ins vs os ls=true:=by
 obtain⟨h1,h2,h3,h4,h5,h6,h7⟩:=OB.1 h
 obtain⟨hn,hA⟩:=JK.1 h7
 obtain⟨w1,w2⟩:=Hn ls (by omega) (fun l hl=>(hA l hl).2)
 rw [gJ (P:=fun k=> !lineB k) (j:=0) (fun k=>by simp only [fq,vI]),Pj]at w2
 obtain⟨s1,s2⟩:=ajz ins vs os ls hn
 have t1:Et [ins,vs,os]≤2000000:=by simp [Et];omega
 have t2: [ins,vs,os].flatten.length≤2000000:=by simp;omega
 have hfl: [ins,vs,os].flatten.all lN=(ins.all lN&&(vs.all lN&&os.all lN)):=by simp [List.all_append,Bool.and_assoc]
 have hcont:md ls= !ls.all lineB∧me ls=true:=by
  simp only [md,me,sj,sk,nx,w1,w2,allT,cD]
  cases ls.all lineB <;> simp [Nat.beq,JJ.1,JJ.2]
 refine⟨?_,?_⟩
 ·have hz: ∀ m k:Nat,inR (m:Int) 1 (k:Int)=(ltI 0 (m:Int)&&leN m k):=fun m k=>by
   rw [Bool.eq_iff_iff,DP,Bool.and_eq_true,acl,ij];omega
  have hz0: ∀ m k:Nat,inR (m:Int) ((0:Nat):Int) (k:Int)=leN m k:=fun m k=>by
   rw [Bool.eq_iff_iff,DP,ij];omega
  have c1:inR (ins.length:Int) ((1:Nat):Int) 20=(ltI 0 (ins.length:Int)&&leN ins.length 20):=hz _ 20
  have c2:inR (os.length:Int) ((1:Nat):Int) 20=(ltI 0 (os.length:Int)&&leN os.length 20):=hz _ 20
  have c3:inR (ls.length:Int) 1 40=(ltI 0 (ls.length:Int)&&leN ls.length 40):=hz _ 40
  have c4:inR (vs.length:Int) ((0:Nat):Int) 20=leN vs.length 20:=hz0 _ 20
  have hl40:ls.all lineB=true→(ls.all fun l=>leN l.2.length 40)=true:=fun hl=>by
   rw [List.all_eq_true]at hl ⊢
   intro l hm
   exact em (Vk (hl l hm)).2.1
  simp only [CE,AC,Fc,Kl,Km,Pp,s1,hcont.1,JO,abT,aaQ,c1,c2,c3,c4]
  cases hq:ls.all lineB with
  |false=>simp
  |true=>
   rw [hl40 hq]
   cases lN nm with
   |false=>simp
   |true=>
    simp only [Bool.and_true,cond_true,hfl]
    generalize ins.all lN=p2
    generalize vs.all lN=p4
    generalize os.all lN=p6
    generalize (g.toList== [])=p8
    generalize lN g=p9
    generalize ltI 0 (ins.length:Int)=r1
    generalize ltI 0 (os.length:Int)=r2
    generalize ltI 0 (ls.length:Int)=r3
    generalize leN ins.length 20=r4
    generalize leN vs.length 20=r5
    generalize leN os.length 20=r6
    generalize leN ls.length 40=r7
    cases p2 <;> simp <;> cases p4 <;> simp <;> cases p6 <;> simp <;> cases r1 <;> simp <;> cases r2 <;> simp <;> cases r3 <;> simp <;> cases r4 <;> simp <;> cases r5 <;> simp <;> cases r6 <;> simp <;> cases r7 <;> simp <;> cases p8 <;> simp
 ·simp only [GH,AC,Fc,s2,hcont.2,Pp,allT,Bool.or_true,cond_true]
  cases lN nm with
  |false=>simp
  |true=>
   have t4:leN [ins,vs,os].flatten.length 9223372036854775807=true:=em (by omega)
   have t5:leN (Et [ins,vs,os]) 2000000=true:=em t1
   have t6:leN [ins,vs,os].length 1000=true:=rfl
   simp only [Bool.and_true,cond_true,t4,t5,t6,Bool.and_self,Bool.or_true]
theorem aks(l:List ByteArray)(s:ByteArray):ltI (ii l s) 0= !lz l s:=by rw [Pq,MD]
theorem abG(s:ByteArray)(ins vs:List ByteArray)(h1:leN ins.length 9223372036854775807=true)(h2:leN vs.length 9223372036854775807=true):
  qh s ins vs=QT ins vs s∧zV s ins vs=true:=by
 simp only [qh,zV,MD,h1,h2,QT,allT,Bool.or_true,cond_true,and_true]
 cases lz ins s <;> rfl
def madeB(vs os:List ByteArray)(l:LN):Bool:=lz vs l.1||lz os l.1
def lW(y5 y6:List ByteArray)(b:ByteArray×(List (Int×(ByteArray×Int)))):(List ByteArray)→Nat ⊕ (List ByteArray)
 |y3=>(bif(bif ltI (ii y5 b.1) (0:Int)then ltI (ii y6 b.1) (0:Int)else false)then(.inl 0)else(.inr (y3++ [b.1])))
def oQ(y1 y2:ByteArray)(y4 y5 y6:List ByteArray)(y7:List (ByteArray×(List (Int×(ByteArray×Int)))))(i:Nat):(List ByteArray)→lT
 |y3=>((i:Int),y1,y2,y3,y4,y5,y6,y7)
def Hz:lT→List ByteArray
 |(_,_,_,y3,_,_,_,_)=>y3
theorem Zd(y1 y2:ByteArray)(y4 y5 y6:List ByteArray)(y7:List (ByteArray×(List (Int×(ByteArray×Int)))))(y3:List ByteArray)(hn:y7.length≤9223372036854775807)(hv:leN y5.length 9223372036854775807=true)(ho:leN y6.length 9223372036854775807=true)(hN:y7.length≤1048576)(h3:y3.length=0):
  di.fin ((0:Int),y1,y2,y3,y4,y5,y6,y7)=true∧di.res ((0:Int),y1,y2,y3,y4,y5,y6,y7)=((aC (lW y5 y6) 1 y7 0 y3).1,(oQ y1 y2 y4 y5 y6 y7) (aC (lW y5 y6) 1 y7 0 y3).2.1 (aC (lW y5 y6) 1 y7 0 y3).2.2):=by
 have kw:=di.along (oQ y1 y2 y4 y5 y6 y7) Hz (lW y5 y6) 1 (fun i a=>a.length=i) y7 y3 h3 (by simp only [di,oQ];omega) (fun i b a hb hI=> ?_) (fun a hI=> ?_)
 ·exact kw
 ·obtain y3:=a
  have fy:=(List.getElem?_eq_some_iff.1 hb).1
  have jx: ∀ d,Option.getD y7[i]? d=b:=fun d=>by rw [hb];rfl
  have hw:=uF fy hn
  have cM:ltI (i:Int) (y7.length:Int)=true:=gg (by omega)
  have xj:leI (0:Int) (i:Int)=true:=cW (by omega)
  have jC:ltN i y7.length=true:=iF fy
  refine⟨?_,?_,?_,?_⟩
  ·have hg2:ic (i:Int) y7=b.1:=by simp only [ic,Int.toNat_natCast];exact congrArg Prod.fst (jx _)
   have l1: ∀ s:ByteArray,leN (a.length + List.length [s]) 9223372036854775807=true:=fun s=>em (by rw [List.length_singleton];omega)
   have l2: ∀ s:ByteArray,leN ((a.length + List.length [s]) * 16) 140737488355328=true:=fun s=>em (by rw [List.length_singleton];omega)
   simp only [vr,zI,zJ,zK,zL,zM,zN,zO,zP,zQ,xQ,di,LT.nds,allT,oQ,cM,xj,jC,hg2,hv,ho,l1,l2,Int.toNat_natCast,cond_true,Bool.or_true,Bool.and_self]
   generalize (bif ltI (ii y5 b.1) 0 then ltI (ii y6 b.1) 0 else false)=q
   cases q <;> simp [LT.nds]
  ·simp [ic,vr,zI,zJ,zK,zL,zM,zN,zO,zP,zQ,xQ,di,LT.each,oQ,Hz,hw]
  ·have hg2:ic (i:Int) y7=b.1:=by simp only [ic,Int.toNat_natCast];exact congrArg Prod.fst (jx _)
   simp only [vr,zI,zJ,zK,zL,zM,zN,zO,zP,zQ,xQ,di,LT.fn,oQ,Hz,lW,cM,hg2,cond_true]
  ·intro a' hf
   simp only [lW]at hf
   revert hf
   generalize (bif ltI (ii y5 b.1) 0 then ltI (ii y6 b.1) 0 else false)=q
   cases q with
   |true=>intro hf;cases hf
   |false=>intro hf;simp only [cond_false,Sum.inr.injEq]at hf;subst hf;simp [hI]
 ·obtain y3:=a
  simp [ic,vr,zI,zJ,zK,zL,zM,zN,zO,zP,zQ,xQ,di,LT.out,oQ]
theorem aaq(vs os:List ByteArray): ∀ (ls:List LN) (i:Nat) (acc:List ByteArray),(aC (lW vs os) 1 ls i acc).1=(bif !ls.all (madeB vs os)then 0 else 1)∧
  (ls.all (madeB vs os)=true→(aC (lW vs os) 1 ls i acc).2.2=acc++ls.map Prod.fst)
 | [],i,acc=>by simp [aC]
 |l::r,i,acc=>by
  have hf:lW vs os l acc=bif madeB vs os l then .inr (acc++ [l.1])else .inl 0:=by
   simp only [lW,aks,madeB]
   cases lz vs l.1 <;> cases lz os l.1 <;> rfl
  obtain⟨h1,h2⟩:=aaq vs os r (i + 1) (acc++ [l.1])
  simp only [aC,hf,List.all_cons]
  cases hm:madeB vs os l with
  |false=>simp
  |true=>
   simp only [cond_true,Bool.true_and]
   refine⟨h1,fun h=> ?_⟩
   rw [h2 h];simp
theorem ahY(k:Nat)(u v:ByteArray)(ins vs os:List ByteArray)(ls:List LN)(l:LN)(hl:ls[k]? =some l)(hn:l.2.length≤1048576)(h1:leN ins.length 9223372036854775807=true)(h2:leN vs.length 9223372036854775807=true):
  dv.fin ((0:Int),(k:Int),u,v,ins,vs,os,ls)=true∧(dv.res ((0:Int),(k:Int),u,v,ins,vs,os,ls)).1=bif !l.2.all (usedB ins vs)then 0 else 1:=by
 have hkl:=(List.getElem?_eq_some_iff.1 hl).1
 have hgl: ∀ d,Option.getD ls[k]? d=l:=fun d=>by rw [hl];rfl
 have ha2:uc (k:Int) ls=l.2:=by simp only [uc,Int.toNat_natCast];exact congrArg Prod.snd (hgl _)
 have c0:EW (k:Int)=true:=cW (by omega)
 have c1:EX (k:Int) ls=true:=gg (by omega)
 have c2:Ad (k:Int) ls=true:=by simp only [Ad,Int.toNat_natCast];exact iF hkl
 have kw:=dv.along2 (fun i (_:Unit)=>((i:Int),(k:Int),u,v,ins,vs,os,ls)) (fun _=>()) (fun(b:TM) (_:Unit)=>bif !usedB ins vs b then .inl 0 else .inr ()) 1 (fun _ _=>True) l.2 () trivial (by omega)
  (fun i b a hb hI=> ?_) (fun a hI=> ?_)
 ·rw [gJ (P:=fun b=> !usedB ins vs b) (j:=0) (fun b=>rfl),Pj]at kw
  exact⟨kw.1,by rw [show ((0:Int),(k:Int),u,v,ins,vs,os,ls)=(((0:Nat):Int),(k:Int),u,v,ins,vs,os,ls) from rfl,kw.2]⟩
 ·have fy:=(List.getElem?_eq_some_iff.1 hb).1
  have hw:IntKind.i64.wrap ((i:Int) + 1)=((i + 1:Nat):Int):=by rw [cg (by omega) (by omega)];omega
  have xj:leI (0:Int) (i:Int)=true:=cW (by omega)
  have hg2:ud (i:Int) (k:Int) ls=b:=by simp only [ud,ha2,Int.toNat_natCast,hb,Option.getD_some]
  have hg3:rG (i:Int) (k:Int) ls=true:=by simp only [rG,ha2];exact gg (by omega)
  have c4:Lk (i:Int)=true:=xj
  have c5:EY (i:Int) (k:Int) ls=true:=by simp only [EY,ha2,Int.toNat_natCast];exact iF fy
  obtain⟨r1,r2⟩:=abG b.2.1 ins vs h1 h2
  have c6:EZ (i:Int) (k:Int) ins vs ls=true:=by simp only [EZ,hg2,r2,Bool.or_true]
  have c7:Fa (i:Int) (k:Int) ins vs ls= !usedB ins vs b:=by
   simp only [Fa,DZ,hg2,r1,usedB]
   cases b.1==1 <;> simp
  have c8:Ll (i:Int)=((i + 1:Nat):Int):=hw
  refine⟨?_,?_,?_,fun _ _=>trivial⟩
  ·simp only [dv,tK,LT.nds,allT,c0,c1,c2,c4,c5,c6,c7,hg3,cond_true,Bool.and_self]
   cases usedB ins vs b <;> simp [LT.nds]
  ·simp only [dv,tK,LT.each,c7,c8,hg3]
   cases usedB ins vs b <;> simp [LT.each]
  ·simp only [dv,tK,LT.fn,c7,hg3,cond_true]
 ·have cM:rG (l.2.length:Int) (k:Int) ls=false:=by simp only [rG,ha2];exact SA (by omega)
  simp [dv,tK,LT.out,allT,c0,c1,c2,cM]
theorem ajB(u v:ByteArray)(ins vs os:List ByteArray)(ls:List LN)(hN:ls.length≤1048576)(hL: ∀ l∈ls,l.2.length≤1048576)(h1:leN ins.length 9223372036854775807=true)(h2:leN vs.length 9223372036854775807=true):
  dJ.fin ((0:Int),u,v,ins,vs,os,ls)=true∧(dJ.res ((0:Int),u,v,ins,vs,os,ls)).1=bif !ls.all (fun l=>l.2.all (usedB ins vs))then 0 else 1:=by
 have kw:=dJ.along2 (fun i (_:Unit)=>((i:Int),u,v,ins,vs,os,ls)) (fun _=>()) (fun(b:LN) (_:Unit)=>bif !b.2.all (usedB ins vs)then .inl 0 else .inr ()) 1 (fun _ _=>True) ls () trivial (by omega)
  (fun i b a hb hI=> ?_) (fun a hI=> ?_)
 ·rw [gJ (P:=fun b:LN=> !b.2.all (usedB ins vs)) (j:=0) (fun b=>rfl),Pj]at kw
  exact⟨kw.1,by rw [show ((0:Int),u,v,ins,vs,os,ls)=(((0:Nat):Int),u,v,ins,vs,os,ls) from rfl,kw.2]⟩
 ·have fy:=(List.getElem?_eq_some_iff.1 hb).1
  have hw:IntKind.i64.wrap ((i:Int) + 1)=((i + 1:Nat):Int):=by rw [cg (by omega) (by omega)];omega
  obtain⟨k1,k2⟩:=ahY i u v ins vs os ls b hb (hL b (List.mem_of_getElem? hb)) h1 h2
  have c0:Jl (i:Int) ls=true:=gg (by omega)
  have c1:OL (i:Int) u v ins vs os ls=true:=k1
  have c2:Jm (i:Int) u v ins vs os ls= !b.2.all (usedB ins vs):=by
   simp only [Jm,HN,k2]
   cases b.2.all (usedB ins vs) <;> rfl
  have c3:OM (i:Int)=((i + 1:Nat):Int):=hw
  refine⟨?_,?_,?_,fun _ _=>trivial⟩
  ·simp only [dJ,xR,LT.nds,allT,c0,c1,c2,cond_true]
   cases b.2.all (usedB ins vs) <;> simp [LT.nds]
  ·simp only [dJ,xR,LT.each,c0,c2,c3]
   cases b.2.all (usedB ins vs) <;> simp [LT.each]
  ·simp only [dJ,xR,LT.fn,c0,c2,cond_true]
 ·have cM:Jl (ls.length:Int) ls=false:=SA (by omega)
  simp [dJ,xR,LT.out,cM]
theorem afp(nm:ByteArray)(ins vs os:List ByteArray)(g:ByteArray)(ls:List LN)(h:prOk nm ins vs os g ls=true):
  (IB nm g ins vs os ls==0)=aiP ins vs os g ls∧IC nm g ins vs os ls=true:=by
 obtain⟨h1,h2,h3,h4,h5,h6,h7⟩:=OB.1 h
 obtain⟨hn,hA⟩:=JK.1 h7
 have hL: ∀ l∈ls,l.2.length≤1048576:=fun l hl=>(JR.1 (hA l hl).2).1
 obtain⟨l1,l2,l3⟩:=age h2 h3 h4
 obtain⟨w1,w2⟩:=Zd nm g ins vs os ls [] (by omega) l2 l3 hn rfl
 obtain⟨t1,t2⟩:=aaq vs os ls 0 []
 obtain⟨u1,u2⟩:=ajB nm g ins vs os ls hn hL l1 l2
 obtain⟨r1,r2⟩:=abG g ins vs l1 l2
 have a4:Df nm g ins vs os ls= !ls.all (madeB vs os):=by
  simp only [Df,yy,Hi,w2,t1]
  cases ls.all (madeB vs os) <;> rfl
 have a5:ls.all (madeB vs os)=true→yz nm g ins vs os ls=ls.map Prod.fst:=fun hm=>by
  simp only [yz,yy,Hi,w2,oQ]
  rw [t2 hm];rfl
 have a6:ls.all (madeB vs os)=true→Hj nm g ins vs os ls= !leN (vs.length + os.length) ls.length:=fun hm=>by
  simp only [Hj,a5 hm,List.length_map]
  rw [cg (by omega) (by omega),Bool.eq_iff_iff,acl,Bool.not_eq_true',← Bool.not_eq_true,ij]
  omega
 have e7:(Lp.res dJ (Hk nm g ins vs os ls)).1=bif !ls.all (fun l=>l.2.all (usedB ins vs))then 0 else 1:=u2
 have e8:Lp.fin dJ (Hk nm g ins vs os ls)=true:=u1
 have hnil:(g.toList==ByteArray.toList { data:= #[] })=(g.toList== []):=by rw [JO]
 refine⟨?_,?_⟩
 ·simp only [IB,tg,vq,hnil,r1,a4,e7,aiP]
  cases hm:ls.all (madeB vs os)with
  |false=>
   have hm2:(ls.all fun l=>lz vs l.1||lz os l.1)=false:=hm
   rw [hm2]
   generalize qq (ins++vs++os)=p1
   generalize (g.toList== [])=p2
   generalize QT ins vs g=p3
   cases p1 <;> cases p2 <;> cases p3 <;> rfl
  |true=>
   have hm2:(ls.all fun l=>lz vs l.1||lz os l.1)=true:=hm
   rw [hm2,a5 hm,a6 hm]
   generalize qq (ins++vs++os)=p1
   generalize (g.toList== [])=p2
   generalize QT ins vs g=p3
   generalize qq (ls.map Prod.fst)=p4
   generalize leN (vs.length + os.length) ls.length=p5
   generalize (ls.all fun l=>l.2.all (usedB ins vs))=p6
   cases p1 <;> cases p2 <;> cases p3 <;> cases p4 <;> cases p5 <;> cases p6 <;> rfl
 ·have f1:leN (ins.length + vs.length + os.length) 2000000=true:=em h6
  have f2:leN (ins++vs++os).length 9223372036854775807=true:=em (by simp;omega)
  have f3:Lp.fin di (yy nm g ins vs os ls)=true:=w1
  simp only [IC,tg,vq,f1,f2,f3,r2,a4,e8,allT,Bool.or_true,cond_true]
  cases hm:ls.all (madeB vs os)with
  |false=>simp
  |true=>
   have f4:leN (ls.map Prod.fst).length 9223372036854775807=true:=em (by rw [List.length_map];omega)
   rw [a5 hm,f4]
   simp
def cw(b:ByteArray×(List (Int×(ByteArray×Int)))):(List ByteArray)→Nat ⊕ (List ByteArray)
 |y3=>(.inr (y3++([b.1])))
def bD(y2:List (ByteArray×(List (Int×(ByteArray×Int)))))(i:Nat):(List ByteArray)→aT
 |y3=>((i:Int),(↑y2.length:Int),y2,y3)
def nh:aT→List ByteArray
 |(_,_,_,y3)=>y3
theorem Du(y2:List (ByteArray×(List (Int×(ByteArray×Int)))))(y3:List ByteArray)(hn:y2.length≤9223372036854775807)(hN:y2.length≤1048576)(h3:y3.length=0):
  ai.fin ((0:Int),(↑y2.length:Int),y2,y3)=true∧ai.res ((0:Int),(↑y2.length:Int),y2,y3)=((aC (cw) 0 y2 0 y3).1,(bD y2) (aC (cw) 0 y2 0 y3).2.1 (aC (cw) 0 y2 0 y3).2.2):=by
 have kw:=ai.along (bD y2) nh (cw) 0 (fun i a=>a.length=i) y2 y3 h3 (by simp only [ai,bD];omega) (fun i b a hb hI=> ?_) (fun a hI=> ?_)
 ·exact kw
 ·obtain y3:=a
  have fy:=(List.getElem?_eq_some_iff.1 hb).1
  have jx: ∀ d,Option.getD y2[i]? d=b:=fun d=>by rw [hb];rfl
  have hw:=uF fy hn
  have cM:ltI (i:Int) (y2.length:Int)=true:=gg (by omega)
  have xj:leI (0:Int) (i:Int)=true:=cW (by omega)
  have jC:ltN i y2.length=true:=iF fy
  refine⟨?_,?_,?_,?_⟩
  ·have hg2:bj (i:Int) y2= [b.1]:=by simp only [bj,Int.toNat_natCast];exact congrArg (fun z:LN=> [z.1]) (jx _)
   have l1: ∀ s:ByteArray,leN (a.length + List.length [s]) 9223372036854775807=true:=fun s=>em (by rw [List.length_singleton];omega)
   have l2: ∀ s:ByteArray,leN ((a.length + List.length [s]) * 16) 140737488355328=true:=fun s=>em (by rw [List.length_singleton];omega)
   simp only [eW,eX,eY,eZ,fa,fb,fc,fe,eQ,ai,LT.nds,allT,bD,cM,xj,jC,hg2,l1,l2,Int.toNat_natCast,cond_true,Bool.and_self]
  ·simp [bj,eW,eX,eY,eZ,fa,fb,fc,fe,eQ,ai,LT.each,bD,nh,hw]
  ·have hg2:bj (i:Int) y2= [b.1]:=by simp only [bj,Int.toNat_natCast];exact congrArg (fun z:LN=> [z.1]) (jx _)
   simp only [eW,eX,eY,eZ,fa,fb,fc,fe,eQ,ai,LT.fn,bD,nh,cw,cM,hg2,cond_true]
  ·intro a' hf
   simp only [cw,Sum.inr.injEq]at hf
   subst hf;simp [hI]
 ·obtain y3:=a
  simp [bj,eW,eX,eY,eZ,fa,fb,fc,fe,eQ,ai,LT.out,bD]
theorem afW: ∀ (ls:List LN) (acc:List ByteArray),ls.foldl (fun a l=>a++ [l.1]) acc=acc++ls.map Prod.fst
 | [],acc=>by simp
 |l::r,acc=>by rw [List.foldl_cons,afW r];simp
def gh(y3:List ByteArray)(b:ByteArray):(Unit)→Nat ⊕ (Unit)
 |_=>(bif(lp b y3)then(.inl 0)else(.inr ()))
def bU(y2 y3:List ByteArray)(i:Nat):(Unit)→bh
 |_=>((i:Int),(↑y2.length:Int),y2,y3)
def oa:bh→Unit
 |(_,_,_,_)=>()
theorem Ev(y2 y3:List ByteArray) (hn:y2.length≤9223372036854775807) (hm:leN y3.length 9223372036854775807=true):
  ag.fin ((0:Int),(↑y2.length:Int),y2,y3)=true∧ag.res ((0:Int),(↑y2.length:Int),y2,y3)=((aC (gh y3) 1 y2 0 ()).1,(bU y2 y3) (aC (gh y3) 1 y2 0 ()).2.1 (aC (gh y3) 1 y2 0 ()).2.2):=by
 have kw:=ag.along (bU y2 y3) oa (gh y3) 1 (fun _ _=>True) y2 () (by trivial) (by simp only [ag,bU];omega) (fun i b a hb hI=> ?_) (fun a hI=> ?_)
 ·exact kw
 ·obtain⟨⟩:=a
  have fy:=(List.getElem?_eq_some_iff.1 hb).1
  have jx: ∀ d,Option.getD y2[i]? d=b:=fun d=>by rw [hb];rfl
  have hw:=uF fy hn
  have cM:ltI (i:Int) (y2.length:Int)=true:=gg (by omega)
  have xj:leI (0:Int) (i:Int)=true:=cW (by omega)
  have jC:ltN i y2.length=true:=iF fy
  refine⟨?_,?_,?_,?_⟩
  ·have h4:dF y3=true:=by simp only [dF,lq,hm,allT,cond_true]
   simp only [gu,gv,gw,gx,fZ,ag,LT.nds,allT,bU,h4,cM,xj,jC,Int.toNat_natCast,cond_true,Bool.and_self]
   cases gy (i:Int) y2 y3 <;> simp [LT.nds]
  ·simp [gu,gv,gw,gx,dF,gy,ki,fZ,ag,LT.each,bU,oa,hw]
  ·simp only [gu,gv,gw,gx,dF,gy,ki,fZ,ag,LT.fn,bU,oa,gh,Int.toNat_natCast,cM,xj,jC,jx,cond_true,Bool.cond_self]
  ·exact fun _ _=>trivial
 ·obtain⟨⟩:=a
  simp [gu,gv,gw,gx,dF,gy,ki,fZ,ag,LT.out,bU]
def gi(y3:List ByteArray)(b:ByteArray):(Unit)→Nat ⊕ (Unit)
 |_=>(bif(lr b y3)then(.inl 0)else(.inr ()))
def bV(y2 y3:List ByteArray)(i:Nat):(Unit)→bi
 |_=>((i:Int),(↑y2.length:Int),y2,y3)
def oc:bi→Unit
 |(_,_,_,_)=>()
theorem Ew(y2 y3:List ByteArray) (hn:y2.length≤9223372036854775807) (hm:leN y3.length 9223372036854775807=true):
  ah.fin ((0:Int),(↑y2.length:Int),y2,y3)=true∧ah.res ((0:Int),(↑y2.length:Int),y2,y3)=((aC (gi y3) 1 y2 0 ()).1,(bV y2 y3) (aC (gi y3) 1 y2 0 ()).2.1 (aC (gi y3) 1 y2 0 ()).2.2):=by
 have kw:=ah.along (bV y2 y3) oc (gi y3) 1 (fun _ _=>True) y2 () (by trivial) (by simp only [ah,bV];omega) (fun i b a hb hI=> ?_) (fun a hI=> ?_)
 ·exact kw
 ·obtain⟨⟩:=a
  have fy:=(List.getElem?_eq_some_iff.1 hb).1
  have jx: ∀ d,Option.getD y2[i]? d=b:=fun d=>by rw [hb];rfl
  have hw:=uF fy hn
  have cM:ltI (i:Int) (y2.length:Int)=true:=gg (by omega)
  have xj:leI (0:Int) (i:Int)=true:=cW (by omega)
  have jC:ltN i y2.length=true:=iF fy
  refine⟨?_,?_,?_,?_⟩
  ·have h4:dG y3=true:=by simp only [dG,lu,hm,allT,cond_true]
   simp only [gz,gA,gB,gC,gc,ah,LT.nds,allT,bV,h4,cM,xj,jC,Int.toNat_natCast,cond_true,Bool.and_self]
   cases gD (i:Int) y2 y3 <;> simp [LT.nds]
  ·simp [gz,gA,gB,gC,dG,gD,kj,gc,ah,LT.each,bV,oc,hw]
  ·simp only [gz,gA,gB,gC,dG,gD,kj,gc,ah,LT.fn,bV,oc,gi,Int.toNat_natCast,cM,xj,jC,jx,cond_true,Bool.cond_self]
  ·exact fun _ _=>trivial
 ·obtain⟨⟩:=a
  simp [gz,gA,gB,gC,dG,gD,kj,gc,ah,LT.out,bV]
theorem aj4(a b:List ByteArray)(ha:leN a.length 9223372036854775807=true)(hb:leN b.length 9223372036854775807=true):
  cQ a b=(a.any fun s=> !lz b s)∧bZ a b=a∧ke a b=b∧kf a b=true:=by
 obtain⟨w1,w2⟩:=Ev a b (ij.1 ha) hb
 rw [gJ (P:=fun s=> !lz b s) (j:=0) (fun s=>rfl)]at w2
 refine⟨?_,Bool.cond_self _ _,Bool.cond_self _ _,?_⟩
 ·simp only [cQ,qb,ia,lm,w2,bU]
  cases (a.any fun s=> !lz b s) <;> simp [Nat.beq,JJ.1,JJ.2]
 ·simp only [kf,qc,ia,w1,allT,cond_true]
theorem aj5(a b:List ByteArray)(ha:leN a.length 9223372036854775807=true)(hb:leN b.length 9223372036854775807=true):
  kg a b=(a.any fun s=> !lz b s)∧uD a b=a∧uE a b=b∧kh a b=true:=by
 obtain⟨w1,w2⟩:=Ew a b (ij.1 ha) hb
 rw [gJ (P:=fun s=> !lz b s) (j:=0) (fun s=>rfl)]at w2
 refine⟨?_,Bool.cond_self _ _,Bool.cond_self _ _,?_⟩
 ·simp only [kg,qd,ib,ln,w2,bV]
  cases (a.any fun s=> !lz b s) <;> simp [Nat.beq,JJ.1,JJ.2]
 ·simp only [kh,qe,ib,w1,allT,cond_true]
def fu(y5 y6:List ByteArray)(b:Int×(ByteArray×Int)):(Unit)→Nat ⊕ (Unit)
 |_=>(bif(eB b.1 (b.2.1) y5 y6)then(.inl 0)else(.inr ()))
def cF(y2 y3:ByteArray)(y4:List (Int×(ByteArray×Int)))(y5 y6 y7:List ByteArray)(y8:List (ByteArray×(List (Int×(ByteArray×Int)))))(i:Nat):(Unit)→bz
 |_=>((i:Int),(↑y4.length:Int),y2,y3,y4,y5,y6,y7,y8)
def pT:bz→Unit
 |(_,_,_,_,_,_,_,_,_)=>()
theorem Hq(y2 y3:ByteArray)(y4:List (Int×(ByteArray×Int)))(y5 y6 y7:List ByteArray)(y8:List (ByteArray×(List (Int×(ByteArray×Int))))) (hn:y4.length≤9223372036854775807) (h5:leN y5.length 9223372036854775807=true) (h6:leN y6.length 9223372036854775807=true):
  aA.fin ((0:Int),(↑y4.length:Int),y2,y3,y4,y5,y6,y7,y8)=true∧aA.res ((0:Int),(↑y4.length:Int),y2,y3,y4,y5,y6,y7,y8)=((aC (fu y5 y6) 1 y4 0 ()).1,(cF y2 y3 y4 y5 y6 y7 y8) (aC (fu y5 y6) 1 y4 0 ()).2.1 (aC (fu y5 y6) 1 y4 0 ()).2.2):=by
 have kw:=aA.along (cF y2 y3 y4 y5 y6 y7 y8) pT (fu y5 y6) 1 (fun _ _=>True) y4 () (by trivial) (by simp only [aA,cF];omega) (fun i b a hb hI=> ?_) (fun a hI=> ?_)
 ·exact kw
 ·obtain⟨⟩:=a
  have fy:=(List.getElem?_eq_some_iff.1 hb).1
  have jx: ∀ d,Option.getD y4[i]? d=b:=fun d=>by rw [hb];rfl
  have hw:=uF fy hn
  have cM:ltI (i:Int) (y4.length:Int)=true:=gg (by omega)
  have xj:leI (0:Int) (i:Int)=true:=cW (by omega)
  have jC:ltN i y4.length=true:=iF fy
  refine⟨?_,?_,?_,?_⟩
  ·have hg2:bq (i:Int) y4=b:=by simp only [bq,Int.toNat_natCast];exact jx _
   have h4:jb (i:Int) y4 y5 y6=true:=by simp only [jb,jj,h5,h6,allT,Bool.or_true,cond_true]
   simp only [ja,mr,mt,mu,iD,aA,LT.nds,allT,cF,h4,cM,xj,jC,Int.toNat_natCast,cond_true,Bool.and_self]
   cases je (i:Int) y4 y5 y6 <;> simp [LT.nds]
  ·simp [bq,ja,mr,mt,mu,jb,je,qT,iD,aA,LT.each,cF,pT,hw]
  ·have hg2:bq (i:Int) y4=b:=by simp only [bq,Int.toNat_natCast];exact jx _
   simp only [ja,je,iD,aA,LT.fn,cF,pT,fu,cM,hg2,cond_true]
  ·exact fun _ _=>trivial
 ·obtain⟨⟩:=a
  simp [bq,ja,mr,mt,mu,jb,je,qT,iD,aA,LT.out,cF]
theorem adL(u v:ByteArray)(ins vs os:List ByteArray)(ls:List LN)(ts:List TM)(hn:ts.length≤1048576)(h1:leN ins.length 9223372036854775807=true)(h2:leN vs.length 9223372036854775807=true):
  dc u v ins vs os ls ts= !ts.all (usedB ins vs)∧eS u v ins vs os ls ts=true:=by
 obtain⟨w1,w2⟩:=Hq u v ts ins vs os ls (by omega) h1 h2
 rw [gJ (P:=fun b=> !usedB ins vs b) (j:=0) (fun b=>by
  simp only [fu,eB,iG,usedB,QT]
  cases b.1==1 <;> cases lz ins b.2.1 <;> cases lz vs b.2.1 <;> rfl),Pj]at w2
 refine⟨?_,?_⟩
 ·simp only [dc,qO,sq,jE,ny,w2,cF]
  cases ts.all (usedB ins vs) <;> simp [Nat.beq,JJ.1,JJ.2]
 ·simp only [eS,qP,sr,jE,w1,allT,cond_true]
def ft(y2 y3:ByteArray)(y4 y5 y6:List ByteArray)(y7:List (ByteArray×(List (Int×(ByteArray×Int)))))(b:ByteArray×(List (Int×(ByteArray×Int)))):(Unit)→Nat ⊕ (Unit)
 |_=>(bif(dc y2 y3 y4 y5 y6 y7 b.2)then(.inl 0)else(.inr ()))
def cE(y2 y3:ByteArray)(y4 y5 y6:List ByteArray)(y7:List (ByteArray×(List (Int×(ByteArray×Int)))))(i:Nat):(Unit)→bx
 |_=>((i:Int),(↑y7.length:Int),y2,y3,y4,y5,y6,y7)
def pS:bx→Unit
 |(_,_,_,_,_,_,_,_)=>()
theorem Ho(y2 y3:ByteArray)(y4 y5 y6:List ByteArray)(y7:List (ByteArray×(List (Int×(ByteArray×Int))))) (hn:y7.length≤9223372036854775807) (hL: ∀ l∈y7,l.2.length≤1048576) (h4:leN y4.length 9223372036854775807=true) (h5:leN y5.length 9223372036854775807=true):
  az.fin ((0:Int),(↑y7.length:Int),y2,y3,y4,y5,y6,y7)=true∧az.res ((0:Int),(↑y7.length:Int),y2,y3,y4,y5,y6,y7)=((aC (ft y2 y3 y4 y5 y6 y7) 1 y7 0 ()).1,(cE y2 y3 y4 y5 y6 y7) (aC (ft y2 y3 y4 y5 y6 y7) 1 y7 0 ()).2.1 (aC (ft y2 y3 y4 y5 y6 y7) 1 y7 0 ()).2.2):=by
 have kw:=az.along (cE y2 y3 y4 y5 y6 y7) pS (ft y2 y3 y4 y5 y6 y7) 1 (fun _ _=>True) y7 () (by trivial) (by simp only [az,cE];omega) (fun i b a hb hI=> ?_) (fun a hI=> ?_)
 ·exact kw
 ·obtain⟨⟩:=a
  have fy:=(List.getElem?_eq_some_iff.1 hb).1
  have jx: ∀ d,Option.getD y7[i]? d=b:=fun d=>by rw [hb];rfl
  have hw:=uF fy hn
  have cM:ltI (i:Int) (y7.length:Int)=true:=gg (by omega)
  have xj:leI (0:Int) (i:Int)=true:=cW (by omega)
  have jC:ltN i y7.length=true:=iF fy
  refine⟨?_,?_,?_,?_⟩
  ·have hg2:cB (i:Int) y7=b.2:=by simp only [cB,Int.toNat_natCast];exact congrArg Prod.snd (jx _)
   have k4:iY (i:Int) y2 y3 y4 y5 y6 y7=true:=by simp only [iY,hg2];exact(adL y2 y3 y4 y5 y6 y7 b.2 (hL b (List.mem_of_getElem? hb)) h4 h5).2
   simp only [iX,mo,mp,mq,iC,az,LT.nds,allT,cE,k4,cM,xj,jC,Int.toNat_natCast,cond_true,Bool.and_self]
   cases iZ (i:Int) y2 y3 y4 y5 y6 y7 <;> simp [LT.nds]
  ·simp [cB,iX,mo,mp,mq,iY,iZ,qS,iC,az,LT.each,cE,pS,hw]
  ·have hg2:cB (i:Int) y7=b.2:=by simp only [cB,Int.toNat_natCast];exact congrArg Prod.snd (jx _)
   simp only [iX,iZ,iC,az,LT.fn,cE,pS,ft,cM,hg2,cond_true]
  ·exact fun _ _=>trivial
 ·obtain⟨⟩:=a
  simp [cB,iX,mo,mp,mq,iY,iZ,qS,iC,az,LT.out,cE]
theorem ajA(u v:ByteArray)(ins vs os:List ByteArray)(ls:List LN)(hN:ls.length≤1048576)(hL: ∀ l∈ls,l.2.length≤1048576)(h1:leN ins.length 9223372036854775807=true)(h2:leN vs.length 9223372036854775807=true):
  mf u v ls ins vs os= !ls.all (fun l=>l.2.all (usedB ins vs))∧mg u v ls ins vs os=true:=by
 obtain⟨w1,w2⟩:=Ho u v ins vs os ls (by omega) hL h1 h2
 rw [PC (g:=fun(b:LN) (_:Unit)=>bif !b.2.all (usedB ins vs)then(.inl 0:Nat ⊕ Unit)else .inr ()) (fun b hb a=>by
  simp only [ft,(adL u v ins vs os ls b.2 (hL b hb) h1 h2).1]),gJ (P:=fun b:LN=> !b.2.all (usedB ins vs)) (j:=0) (fun b=>rfl),Pj]at w2
 refine⟨?_,?_⟩
 ·simp only [mf,sm,jD,w2,cE]
  cases ls.all (fun l=>l.2.all (usedB ins vs)) <;> simp [Nat.beq,JJ.1,JJ.2]
 ·simp only [mg,sn,jD,w1,allT,cond_true]
theorem afa(nm:ByteArray)(ins vs os:List ByteArray)(g:ByteArray)(ls:List LN)(h:prOk nm ins vs os g ls=true):
  (ky nm g ins vs os ls==0)=aiP ins vs os g ls∧kz nm g ins vs os ls=true:=by
 obtain⟨h1,h2,h3,h4,h5,h6,h7⟩:=OB.1 h
 obtain⟨hn,hA⟩:=JK.1 h7
 have hL: ∀ l∈ls,l.2.length≤1048576:=fun l hl=>(JR.1 (hA l hl).2).1
 obtain⟨l1,l2,l3⟩:=age h2 h3 h4
 obtain⟨w1,w2⟩:=Du ls [] (by omega) hn rfl
 rw [GG (f:=cw) (g:=fun a (l:LN)=>a++ [l.1]) (fun b a=>rfl),afW]at w2
 have a3:ak ls=ls.map Prod.fst:=by
  simp only [ak,ka,w2,bD,List.nil_append]
 have a4:al vs os=vs++os:=by simp [al]
 have n0:aS ins vs os=ins++vs++os:=by simp [aS,gj]
 have k1:leN (ls.map Prod.fst).length 9223372036854775807=true:=em (by rw [List.length_map];omega)
 have k2:leN (vs++os).length 9223372036854775807=true:=em (by rw [List.length_append];omega)
 obtain⟨s1,s2,s3,s4⟩:=aj4 (ls.map Prod.fst) (vs++os) k1 k2
 obtain⟨v1,v2,v3,v4⟩:=aj5 (vs++os) (ls.map Prod.fst) k2 k1
 obtain⟨u1,u2⟩:=ajA nm g ins vs os ls hn hL l1 l2
 have hnil:(g.toList==ByteArray.toList { data:= #[] })=(g.toList== []):=by rw [JO]
 have hmade:((ls.map Prod.fst).any fun s=> !lz (vs++os) s)= !ls.all (fun l=>lz vs l.1||lz os l.1):=by
  rw [Pj,List.all_map]
  congr 2
  funext l
  simp only [Function.comp,abr]
 have a5:kb vs os ls=(vs++os).any fun s=> !lz (ls.map Prod.fst) s:=by
  simp only [kb,a3,a4,s2,s3,v1]
 refine⟨?_,?_⟩
 ·simp only [ky,n0,dB,jZ,hnil,a3,a4,s1,s2,u1,hmade,a5,aiP,QT]
  cases p1:qq (ins++vs++os)with
  |true=>rfl
  |false=>
   cases p3:(ls.all fun l=>lz vs l.1||lz os l.1)with
   |false=>
    generalize (g.toList== [])=q1
    generalize lz ins g=q2
    generalize lz vs g=q3
    cases q1 <;> cases q2 <;> cases q3 <;> rfl
   |true=>
    cases p4:qq (ls.map Prod.fst)with
    |true=>
     generalize (g.toList== [])=q1
     generalize lz ins g=q2
     generalize lz vs g=q3
     cases q1 <;> cases q2 <;> cases q3 <;> rfl
    |false=>
     rw [ajn p1 p3 p4]
     generalize (g.toList== [])=q1
     generalize lz ins g=q2
     generalize lz vs g=q3
     generalize leN (vs.length + os.length) ls.length=q4
     generalize (ls.all fun l=>l.2.all (usedB ins vs))=q5
     cases q1 <;> cases q2 <;> cases q3 <;> cases q4 <;> cases q5 <;> rfl
 ·have f1:Lp.fin ai (ka ls)=true:=w1
  have f2:(leN [vs,os].length 1000&&leN (Et [vs,os]) 2000000)=true:=by
   rw [Bool.and_eq_true];exact⟨rfl,em (by simp [Et];omega)⟩
  have f3:kA ins vs os=true:=by
   have:(leN [ins,vs,os].length 1000&&leN (Et [ins,vs,os]) 2000000)=true:=by
    rw [Bool.and_eq_true];exact⟨rfl,em (by simp [Et];omega)⟩
   simp only [kA,gj,this,allT,cond_true]
  have f4:leN (ins++vs++os).length 9223372036854775807=true:=em (by simp;omega)
  simp only [kz,f1,f2,f3,n0,f4,a3,a4,s2,s3,s4,v2,v3,v4,u2,l1,l2,k1,k2,allT,Bool.or_true,cond_true]
def zB(nm:ByteArray)(ins vs os:List ByteArray)(g:ByteArray)(ls:List LN):Bool:=abT nm ins vs os g ls&&aiP ins vs os g ls
theorem afr(nm:ByteArray)(ins vs os:List ByteArray)(g:ByteArray)(ls:List LN)(h:prOk nm ins vs os g ls=true):
  OD nm g ins vs os ls=zB nm ins vs os g ls∧OE nm g ins vs os ls=true:=by
 obtain⟨a1,a2⟩:=adx nm ins vs os g ls h
 obtain⟨b1,b2⟩:=afp nm ins vs os g ls h
 simp only [OD,OE,a1,a2,b1,b2,zB,allT,Bool.or_true,cond_true,and_true]
 cases abT nm ins vs os g ls <;> rfl
theorem afb(nm:ByteArray)(ins vs os:List ByteArray)(g:ByteArray)(ls:List LN)(h:prOk nm ins vs os g ls=true):
  NT nm g ins vs os ls=zB nm ins vs os g ls∧NU nm g ins vs os ls=true:=by
 obtain⟨a1,a2⟩:=acV nm ins vs os g ls h
 obtain⟨b1,b2⟩:=afa nm ins vs os g ls h
 simp only [NT,NU,a1,a2,b1,b2,zB,allT,Bool.or_true,cond_true,and_true]
 cases abT nm ins vs os g ls <;> rfl
def TY:List SV→List Entry→Option Out
 | [.one ⟨true,[.val (.string x0),.ref 0,.ref 1,.ref 2,.val (.string x1),.ref 3]⟩],[.row false 9 (.str) x2,.row false 9 (.str) x3,.row false 9 (.str) x4,.row false 204 (.pair (.str) (.sl 178 (.pair (.int .i64) (.pair (.str) (.int .i64))))) x5]=>some ⟨.one ⟨false,[.val (.bool (zB x0 x2 x3 x4 x1 x5))]⟩,[.row false 9 aen x2,.row false 9 aen x3,.row false 9 aen x4,.row false 204 (CTy.pair CTy.str (CTy.sl (178:TypeId) abW)) x5],[],[prOk x0 x2 x3 x4 x1 x5]⟩
 |_,_=>none
def Oq:PF prog:=PF.alt adl TY (by
 intro args es o h dh;unfold TY at h;split at h
 ·rename_i x0 x1 x2 x3 x4 x5
  cases h
  have dh:=qA dh
  have hh:=afr x0 x2 x3 x4 x1 x5 dh
  obtain⟨e0,en⟩:=hh
  exact vG rfl (qB en) (by simp only [e0] <;> rfl) rfl rfl
 ·cases h)
def TT:List SV→List Entry→Option Out
 | [.one ⟨true,[.val (.string x0),.ref 0,.ref 1,.ref 2,.val (.string x1),.ref 3]⟩],[.row false 9 (.str) x2,.row false 9 (.str) x3,.row false 9 (.str) x4,.row false 204 (.pair (.str) (.sl 178 (.pair (.int .i64) (.pair (.str) (.int .i64))))) x5]=>some ⟨.one ⟨false,[.val (.bool (zB x0 x2 x3 x4 x1 x5))]⟩,[.row false 9 aen x2,.row false 9 aen x3,.row false 9 aen x4,.row false 204 (CTy.pair CTy.str (CTy.sl (178:TypeId) abW)) x5],[],[prOk x0 x2 x3 x4 x1 x5]⟩
 |_,_=>none
def Ol:PF prog:=PF.alt adf TT (by
 intro args es o h dh;unfold TT at h;split at h
 ·rename_i x0 x1 x2 x3 x4 x5
  cases h
  have dh:=qA dh
  have hh:=afb x0 x2 x3 x4 x1 x5 dh
  obtain⟨e0,en⟩:=hh
  exact vG rfl (qB en) (by simp only [e0] <;> rfl) rfl rfl
 ·cases h)
def lnSz(l:LN):Prop:=l.1.size≤9223372036854775807∧l.2.length≤9223372036854775807∧ ∀ t∈l.2,t.2.1.size≤9223372036854775807
def ach(k:Int)(l:LN):Int:=Ez l.1 k l.2
theorem YV{l:LN}{k:Int}(h:lnSz l)(hk:0≤k∧k≤1048576):
  Md l.1 k l.2=true∧(ltI (ach k l) 0=false→ach k l=k - l.1.size - l.2.length - ad6 l.2∧(l.1.size:Int) + l.2.length + ad6 l.2≤k):=by
 obtain⟨h1,h2,h3⟩:=h
 have ha:vS l.1 k=k - (l.1.size:Int):=by simp only [vS];exact cg (by omega) (by omega)
 simp only [ach,Ez,Md,ha]
 cases e:ltI (k - (l.1.size:Int)) 0 with
 |true=>exact⟨rfl,fun h=>absurd (show ltI (-1) 0=false from h) (by decide)⟩
 |false=>
  have e2:=wZ.1 e
  have t1:leI (-1) (k - (l.1.size:Int))=true:=cW (by omega)
  have t2:leI (k - (l.1.size:Int)) 1048576=true:=cW (by omega)
  refine⟨by simp only [em h2,t1,t2,allT,Bool.false_or,Bool.and_self,cond_true],?_⟩
  cases e3:ltI (afx (k - (l.1.size:Int)) l.2) 0 with
  |true=>exact fun h=>absurd (show ltI (-1) 0=false from h) (by decide)
  |false=>
   intro _
   obtain⟨q1,q2⟩:=ahV h3 (by omega) e3
   simp only [cond_false]
   omega
def abK:Int→List LN→Int
 |k,[]=>k
 |k,l::r=>bif ltI (ach k l) 0 then -1 else abK (ach k l) r
def ahR(k:Int)(ls:List LN):Int:=bif ltI (k - ls.length) 0 then -1 else abK (k - ls.length) ls
def totL:List LN→Nat
 | []=>0
 |l::r=>l.1.size + l.2.length + ad6 l.2 + totL r
def ru(b:ByteArray×(List (Int×(ByteArray×Int)))):(Int)→Nat ⊕ (Int)
 |y1=>(bif(ltI (Ez b.1 y1 b.2) (0:Int))then(.inl 0)else(.inr (Ez b.1 y1 b.2)))
def ql(y2:List (ByteArray×(List (Int×(ByteArray×Int)))))(i:Nat):(Int)→np
 |y1=>((i:Int),y1,y2)
def IR:np→Int
 |(_,y1,_)=>y1
theorem aak(y2:List (ByteArray×(List (Int×(ByteArray×Int)))))(y1:Int)(hn:y2.length≤9223372036854775807)(hA: ∀ l∈y2,lnSz l)(h1:0≤y1∧y1≤1048576):
  eE.fin ((0:Int),y1,y2)=true∧eE.res ((0:Int),y1,y2)=((aC (ru) 1 y2 0 y1).1,(ql y2) (aC (ru) 1 y2 0 y1).2.1 (aC (ru) 1 y2 0 y1).2.2):=by
 have kw:=eE.along (ql y2) IR (ru) 1 (fun _ a=>0≤a∧a≤1048576) y2 y1 h1 (by simp only [eE,ql];omega) (fun i b a hb hI=> ?_) (fun a hI=> ?_)
 ·exact kw
 ·obtain y1:=a
  have fy:=(List.getElem?_eq_some_iff.1 hb).1
  have jx: ∀ d,Option.getD y2[i]? d=b:=fun d=>by rw [hb];rfl
  have hw:=uF fy hn
  have cM:ltI (i:Int) (y2.length:Int)=true:=gg (by omega)
  have xj:leI (0:Int) (i:Int)=true:=cW (by omega)
  have jC:ltN i y2.length=true:=iF fy
  refine⟨?_,?_,?_,?_⟩
  ·have hg2:lZ (i:Int) y2=b:=by simp only [lZ,Int.toNat_natCast];exact jx _
   have h3:AY (i:Int) a y2=true:=by simp only [AY,hg2];exact(YV (hA b (List.mem_of_getElem? hb)) hI).1
   simp only [wR,Fh,Fi,zd,eE,LT.nds,allT,ql,h3,cM,xj,jC,Int.toNat_natCast,cond_true,Bool.and_self]
   cases AZ (i:Int) a y2 <;> simp [LT.nds]
  ·simp [lZ,yT,wR,Fh,Fi,AY,AZ,Ba,Ku,Fj,zd,eE,LT.each,ql,IR,hw]
  ·have hg2:lZ (i:Int) y2=b:=by simp only [lZ,Int.toNat_natCast];exact jx _
   simp only [wR,AZ,Fj,yT,zd,eE,LT.fn,ql,IR,ru,cM,hg2,cond_true]
  ·intro a' hf
   have hs:=(YV (hA b (List.mem_of_getElem? hb)) hI).2
   have hf':(bif ltI (ach a b) 0 then(.inl 0:Nat ⊕ Int)else .inr (ach a b))= .inr a':=hf
   cases e:ltI (ach a b) 0 with
   |true=>rw [e]at hf';cases hf'
   |false=>
    rw [e]at hf'
    simp only [cond_false,Sum.inr.injEq]at hf'
    subst hf'
    obtain⟨q1,q2⟩:=hs e
    omega
 ·obtain y1:=a
  simp [lZ,yT,wR,Fh,Fi,AY,AZ,Ba,Ku,Fj,zd,eE,LT.out,ql]
theorem agN: ∀ (r:List LN) (i:Nat) (k:Int),(bif Nat.beq (aC ru 1 r i k).1 0 then -1 else(aC ru 1 r i k).2.2)=abK k r
 | [],i,k=>rfl
 |t::r,i,k=>by
  have hf:ru t k=bif ltI (ach k t) 0 then .inl 0 else .inr (ach k t):=rfl
  simp only [aC,hf,abK]
  cases h:ltI (ach k t) 0 with
  |true=>rfl
  |false=>simp only [cond_false];exact agN r (i + 1) _
theorem abL: ∀ (r:List LN) (k:Int),(∀ t∈r,lnSz t)→0≤k→k≤1048576→ltI (abK k r) 0=false→abK k r=k - totL r∧(totL r:Int)≤k
 | [],k,_,h0,h1,_=>by simp [abK,totL];omega
 |t::r,k,hs,h0,h1,h=>by
  have hz:=(YV (hs t (by simp)) ⟨h0,h1⟩).2
  simp only [abK]at h ⊢
  cases h2:ltI (ach k t) 0 with
  |true=>rw [h2]at h;exact absurd (show ltI (-1) 0=false from h) (by decide)
  |false=>
   obtain⟨z1,z2⟩:=hz h2
   have h3:=wZ.1 h2
   rw [h2,cond_false]at h
   obtain⟨q1,q2⟩:=abL r _ (fun t ht=>hs t (by simp [ht])) h3 (by omega) h
   rw [cond_false,q1]
   simp only [totL]
   omega
theorem aj7(k:Int)(xs:List LN)(hn:xs.length≤9223372036854775807)(hA: ∀ l∈xs,lnSz l)(hk:0≤k∧k≤1048576):
  CQ k xs=ahR k xs∧Gg k xs=true:=by
 have hw:IntKind.i64.wrap (k - (xs.length:Int))=k - (xs.length:Int):=cg (by omega) (by omega)
 have e:Ba= -1:=rfl
 cases h2:ltI (k - (xs.length:Int)) 0 with
 |true=>simp only [CQ,Gg,El,hw,h2,ahR,allT,Bool.true_or,cond_true,and_self]
 |false=>
  have h3:=wZ.1 h2
  obtain⟨w1,w2⟩:=aak xs (k - (xs.length:Int)) hn hA ⟨h3,by omega⟩
  have hs:=agN xs 0 (k - (xs.length:Int))
  simp only [CQ,Gg,El,Io,hw,h2,w1,w2,ql,allT,Bool.or_true,cond_true,cond_false,ahR,e,hs,and_self]
theorem ahS{k:Int}{xs:List LN}(hA: ∀ l∈xs,lnSz l)(hk:k≤1048576)(h:ltI (ahR k xs) 0=false):ahR k xs=k - xs.length - totL xs∧(xs.length:Int) + totL xs≤k:=by
 simp only [ahR]at h ⊢
 cases h2:ltI (k - (xs.length:Int)) 0 with
 |true=>rw [h2]at h;simp at h
 |false=>
  have h3:=wZ.1 h2
  rw [h2,cond_false]at h
  obtain⟨q1,q2⟩:=abL xs _ hA h3 (by omega) h
  rw [cond_false,q1]
  omega
theorem adJ: ∀ {ls:List LN} {l:LN},l∈ls→l.2.length≤totL ls
 |a::r,l,h=>by
  simp only [totL]
  rcases List.mem_cons.1 h with rfl | h
  ·omega
  ·have:=adJ h;omega
structure PrSz (nm:ByteArray) (ins vs os:List ByteArray) (g:ByteArray) (ls:List LN):Prop where
 n:nm.size≤9223372036854775807
 i0:ins.length≤9223372036854775807
 i1: ∀ t∈ins,t.size≤9223372036854775807
 v0:vs.length≤9223372036854775807
 v1: ∀ t∈vs,t.size≤9223372036854775807
 o0:os.length≤9223372036854775807
 o1: ∀ t∈os,t.size≤9223372036854775807
 g0:g.size≤9223372036854775807
 l0:ls.length≤9223372036854775807
 l1: ∀ l∈ls,lnSz l
structure PrFit (nm:ByteArray) (ins vs os:List ByteArray) (g:ByteArray) (ls:List LN) (k z:Int):Prop where
 zz:0≤z∧z≤k
 sum:(nm.size:Int) + ins.length + vs.length + os.length + g.size + ls.length + totL ls + z≤k
 pr:prOk nm ins vs os g ls=true
theorem adI{l:List ByteArray}(h0:l.length≤9223372036854775807)(h1: ∀ t∈l,t.size≤9223372036854775807):Lm l=true:=by
 simp only [Lm,Bool.and_eq_true,List.all_eq_true]
 exact⟨em h0,fun t ht=>em (h1 t ht)⟩
theorem Vo{P:Prop}(h:ltI (-1) 0=false):P:=absurd h (by decide)
theorem ahT{nm:ByteArray}{ins vs os:List ByteArray}{g:ByteArray}{ls:List LN}(h:PrSz nm ins vs os g ls):
  qz nm g 1048576 ins vs os ls=true∧(ltI (gV nm g 1048576 ins vs os ls) 0=false→PrFit nm ins vs os g ls 1048576 (gV nm g 1048576 ins vs os ls)):=by
 obtain⟨n0,i0,i1,v0,v1,o0,o1,g0,l0,l1⟩:=h
 have a0:cO nm 1048576=1048576 - (nm.size:Int):=by simp only [cO];exact cg (by omega) (by omega)
 cases e0:ltI (1048576 - (nm.size:Int)) 0 with
 |true=>
  simp only [gV,qz,a0,e0,allT,Bool.true_or,cond_true,true_and]
  exact Vo
 |false=>
 have z0:=wZ.1 e0
 generalize hk0:1048576 - (nm.size:Int)=k0 at a0 e0 z0
 have t0:leI (-1) k0=true:=cW (by omega)
 have t1:leI k0 1048576=true:=cW (by omega)
 cases e1:ltI (Ic k0 ins) 0 with
 |true=>
  simp only [gV,qz,a0,e0,e1,t0,t1,em i0,allT,Bool.true_or,Bool.or_true,Bool.and_self,cond_true,cond_false,true_and]
  exact Vo
 |false=>
 have z1:=wZ.1 e1
 obtain⟨p1,p2⟩:=YW i1 (by omega) e1
 generalize hk1:Ic k0 ins=k1 at e1 z1 p1
 have t2:leI (-1) k1=true:=cW (by omega)
 have t3:leI k1 1048576=true:=cW (by omega)
 have a1:Bb nm 1048576 ins vs=ltI (Ic k1 vs) 0:=by simp only [Bb,a0,hk1]
 cases e2:ltI (Ic k1 vs) 0 with
 |true=>
  simp only [gV,qz,a0,a1,e0,e1,e2,hk1,t0,t1,t2,t3,em i0,em v0,allT,Bool.true_or,Bool.or_true,Bool.and_self,cond_true,cond_false,true_and]
  exact Vo
 |false=>
 have z2:=wZ.1 e2
 obtain⟨p3,p4⟩:=YW v1 (by omega) e2
 generalize hk2:Ic k1 vs=k2 at e2 z2 p3 a1
 have t4:leI (-1) k2=true:=cW (by omega)
 have t5:leI k2 1048576=true:=cW (by omega)
 have a2:Fk nm 1048576 ins vs os=ltI (Ic k2 os) 0:=by simp only [Fk,a0,hk1,hk2]
 cases e3:ltI (Ic k2 os) 0 with
 |true=>
  simp only [gV,qz,a0,a1,a2,e0,e1,e2,e3,hk1,hk2,t0,t1,t2,t3,t4,t5,em i0,em v0,em o0,allT,Bool.true_or,Bool.or_true,Bool.and_self,cond_true,cond_false,true_and]
  exact Vo
 |false=>
 have z3:=wZ.1 e3
 obtain⟨p5,p6⟩:=YW o1 (by omega) e3
 generalize hk3:Ic k2 os=k3 at e3 z3 p5 a2
 have a3:wS nm g 1048576 ins vs os=k3 - (g.size:Int):=by
  simp only [wS,a0,hk1,hk2,hk3];exact cg (by omega) (by omega)
 cases e4:ltI (k3 - (g.size:Int)) 0 with
 |true=>
  simp only [gV,qz,Bc,a0,a1,a2,a3,e0,e1,e2,e3,e4,hk1,hk2,hk3,t0,t1,t2,t3,t4,t5,em i0,em v0,em o0,allT,Bool.true_or,Bool.or_true,Bool.and_self,cond_true,cond_false,true_and]
  exact Vo
 |false=>
 have z4:=wZ.1 e4
 obtain⟨s1,s2⟩:=aj7 (k3 - (g.size:Int)) ls l0 l1 ⟨z4,by omega⟩
 refine⟨by simp only [qz,Bc,a0,a1,a2,a3,e0,e1,e2,e3,e4,hk1,hk2,hk3,s2,t0,t1,t2,t3,t4,t5,em i0,em v0,em o0,allT,Bool.true_or,Bool.or_true,Bool.and_self,cond_true,cond_false],?_⟩
 simp only [gV,Bc,a0,a1,a2,a3,e0,e1,e2,e3,e4,hk1,hk2,hk3,s1,cond_false]
 cases e5:ltI (ahR (k3 - (g.size:Int)) ls) 0 with
 |true=>exact Vo
 |false=>
  intro _
  obtain⟨p7,p8⟩:=ahS l1 (by omega) e5
  have z5:=wZ.1 e5
  simp only [cond_false]
  refine⟨⟨z5,by omega⟩,by omega,?_⟩
  refine OB.2 ⟨n0,adI i0 i1,adI v0 v1,adI o0 o1,g0,by omega,?_⟩
  refine JK.2 ⟨by omega,fun l hl=>⟨(l1 l hl).1,JR.2 ⟨?_,(l1 l hl).2.2⟩⟩⟩
  have:=adJ hl
  omega
def tD(y1:List (ByteArray×(List (Int×(ByteArray×Int)))))(b:Nat):(List (ByteArray×(List (Int×(ByteArray×Int)))))→Nat ⊕ (List (ByteArray×(List (Int×(ByteArray×Int)))))
 |y2=>(.inr (List.set y2 b ((Option.getD y1[b]? (vO (CTy.pair CTy.str (CTy.sl (175:Nat) abW)))).1,(Option.getD y1[b]? (vO (CTy.pair CTy.str (CTy.sl (175:Nat) abW)))).2)))
def qn(y1:List (ByteArray×(List (Int×(ByteArray×Int)))))(i:Nat):(List (ByteArray×(List (Int×(ByteArray×Int)))))→nr
 |y2=>((i:Int),y1,y2)
def IV:nr→List (ByteArray×(List (Int×(ByteArray×Int))))
 |(_,_,y2)=>y2
theorem aam(y1 y2:List (ByteArray×(List (Int×(ByteArray×Int)))))(hn:y1.length≤9223372036854775807)(hl:y2.length=y1.length)(hA: ∀ l∈y1,leN l.2.length 1048576=true):
  gW.fin ((0:Int),y1,y2)=true∧gW.res ((0:Int),y1,y2)=((aC (tD y1) 0 (List.range y1.length) 0 y2).1,(qn y1) (aC (tD y1) 0 (List.range y1.length) 0 y2).2.1 (aC (tD y1) 0 (List.range y1.length) 0 y2).2.2):=by
 have kw:=gW.along (qn y1) IV (tD y1) 0 (fun _ a=>a.length=y1.length) (List.range y1.length) y2 hl (by simp only [gW,qn,List.length_range];omega) (fun i b a hb hI=> ?_) (fun a hI=> ?_)
 ·exact kw
 ·obtain y2:=a
  obtain⟨rfl,fy⟩:=ul hb
  have hw:IntKind.i64.wrap ((b:Int) + 1)=((b + 1:Nat):Int):=by rw [cg (by omega) (by omega)];omega
  have cM:ltI (b:Int) (y1.length:Int)=true:=gg (by omega)
  have xj:leI (0:Int) (b:Int)=true:=cW (by omega)
  have jC:ltN b y1.length=true:=iF (by omega)
  refine⟨?_,?_,?_,?_⟩
  ·have CD: ∀ d:LN,(Option.getD y1[b]? d)∈y1:=fun d=>by rw [List.getElem?_eq_getElem fy];exact List.getElem_mem fy
   have h3:wW (b:Int) y1=true:=by simp only [wW,Qa,rZ,Int.toNat_natCast,allT];exact congrArg (fun z:Bool=>bif z then true else false) (hA _ (CD _))
   simp only [wU,wV,Bk,Bl,Bm,zf,gW,LT.nds,allT,qn,h3,hI,cM,xj,jC,Int.toNat_natCast,cond_true,Bool.and_self]
  ·simp [rZ,wU,wV,Bk,wW,Bl,Bm,Fo,Fp,zf,gW,LT.each,qn,IV,hw,hI]
  ·simp only [rZ,wU,wV,Bk,wW,Bl,Bm,Fo,Fp,zf,gW,LT.fn,qn,IV,tD,Int.toNat_natCast,cM,cond_true]
  ·intro a' hf;simp only [tD,Sum.inr.injEq]at hf;subst hf;simpa using hI
 ·obtain y2:=a
  simp [rZ,wU,wV,Bk,wW,Bl,Bm,Fo,Fp,zf,gW,LT.out,qn,List.length_range]
def wG(y1 y2:List (ByteArray×(List (Int×(ByteArray×Int)))))(b:Nat):(Unit)→Nat ⊕ (Unit)
 |_=>(bif(!HV ((Option.getD y1[b]? (vO (CTy.pair CTy.str (CTy.sl (178:Nat) abW)))).1) ((Option.getD y2[b]? (vO (CTy.pair CTy.str (CTy.sl (178:Nat) abW)))).1) ((Option.getD y1[b]? (vO (CTy.pair CTy.str (CTy.sl (178:Nat) abW)))).2) ((Option.getD y2[b]? (vO (CTy.pair CTy.str (CTy.sl (178:Nat) abW)))).2))then(.inl 0)else(.inr ()))
def su(y1 y2:List (ByteArray×(List (Int×(ByteArray×Int)))))(i:Nat):(Unit)→nk
 |_=>((i:Int),y1,y2)
def IP:nk→Unit
 |(_,_,_)=>()
theorem aai(y1 y2:List (ByteArray×(List (Int×(ByteArray×Int))))) (hn:y1.length≤9223372036854775807) (he:y2.length=y1.length) (hA: ∀ l∈y1,leN l.2.length 9223372036854775807=true):
  fU.fin ((0:Int),y1,y2)=true∧fU.res ((0:Int),y1,y2)=((aC (wG y1 y2) 1 (List.range y1.length) 0 ()).1,(su y1 y2) (aC (wG y1 y2) 1 (List.range y1.length) 0 ()).2.1 (aC (wG y1 y2) 1 (List.range y1.length) 0 ()).2.2):=by
 have kw:=fU.along (su y1 y2) IP (wG y1 y2) 1 (fun _ _=>True) (List.range y1.length) () (by trivial) (by simp only [fU,su,List.length_range];omega) (fun i b a hb hI=> ?_) (fun a hI=> ?_)
 ·exact kw
 ·obtain⟨⟩:=a
  obtain⟨rfl,fy⟩:=ul hb
  have hw:IntKind.i64.wrap ((b:Int) + 1)=((b + 1:Nat):Int):=by rw [cg (by omega) (by omega)];omega
  have cM:ltI (b:Int) (y1.length:Int)=true:=gg (by omega)
  have xj:leI (0:Int) (b:Int)=true:=cW (by omega)
  have jC:ltN b y1.length=true:=iF (by omega)
  refine⟨?_,?_,?_,?_⟩
  ·have CD: ∀ d:LN,(Option.getD y1[b]? d)∈y1:=fun d=>by rw [List.getElem?_eq_getElem fy];exact List.getElem_mem fy
   have h5:wO (b:Int) y1 y2=true:=by
    have q:leN (List.length ((nW (b:Int) y1).2)) 9223372036854775807=true:=by simp only [nW,Int.toNat_natCast];exact hA _ (CD _)
    simp only [wO,PZ,q,allT,Bool.or_true,cond_true]
   simp only [wM,wN,AM,AO,AP,zb,fU,LT.nds,allT,su,h5,he,cM,xj,jC,Int.toNat_natCast,cond_true,Bool.and_self]
   cases AQ (b:Int) y1 y2 <;> simp [LT.nds]
  ·simp [nW,vg,wM,wN,AM,AO,AP,wO,AQ,Fd,zb,fU,LT.each,su,IP,hw,he]
  ·simp only [nW,vg,wM,wN,AM,AO,AP,wO,AQ,Fd,zb,fU,LT.fn,su,IP,wG,Int.toNat_natCast,cM,cond_true]
  ·exact fun _ _=>trivial
 ·obtain⟨⟩:=a
  simp [nW,vg,wM,wN,AM,AO,AP,wO,AQ,Fd,zb,fU,LT.out,su,List.length_range]
theorem ahW(xs:List LN)(hn:xs.length≤1048576)(hA: ∀ l∈xs,leN l.2.length 1048576=true):Gh xs=xs∧Kv xs=true:=by
 have hr:(List.replicate (Int.toNat (xs.length:Int)) (((⟨#[]⟩:ByteArray),[]):LN)).length=xs.length:=by simp
 obtain⟨w1,w2⟩:=aam xs (List.replicate (Int.toNat (xs.length:Int)) (((⟨#[]⟩:ByteArray),[]):LN)) (by omega) hr hA
 have hc:=Rc (C:=LN) (xs:=xs) (d:=vO (CTy.pair CTy.str (CTy.sl (175:Nat) abW))) (g:=fun x:LN=>(x.1,x.2)) (f:=tD xs) (e:=0) (fun b a=>rfl) hr
 have jY:xs.map (fun x:LN=>(x.1,x.2))=xs:=List.map_id' xs
 rw [jY]at hc
 rw [hc]at w2
 refine⟨?_,?_⟩
 ·simp only [Gh,uC,Iu,w2,qn]
 ·have q1:leI 0 (xs.length:Int)=true:=cW (by omega)
  have q2:leI (xs.length:Int) (xs.length:Int)=true:=cW (by omega)
  have q3:leI (((40:Nat):Int) * (xs.length:Int)) 281474976710656=true:=cW (by omega)
  have q4:leI (xs.length:Int) 9223372036854775807=true:=cW (by omega)
  simp only [Kv,uC,Iu,w1,q1,q2,q3,q4,allT,cond_true]
theorem aeZ(xs:List LN)(hn:xs.length≤9223372036854775807)(hA: ∀ l∈xs,leN l.2.length 9223372036854775807=true):Kq xs xs=true∧Kr xs xs=true:=by
 obtain⟨w1,w2⟩:=aai xs xs hn rfl hA
 have h3: ∀ a:LN,(!HV a.1 a.1 a.2 a.2)=false:=fun a=>by simp [HV,Ob,aiy]
 rw [gJ (P:=fun _=>false) (j:=0) (fun b=>by simp only [wG,h3])]at w2
 have hf:((List.range xs.length).any fun _=>false)=false:=by simp
 rw [hf]at w2
 have a0:Ij xs xs=false:=by simp [Ij]
 simp only [Kq,Kr,MM,a0,w1,w2,allT]
 simp [Nat.beq]
theorem aiK{nm:ByteArray}{ins vs os:List ByteArray}{g:ByteArray}{ls:List LN}(h:PrSz nm ins vs os g ls):
  GM nm g nm g ins vs os ls ins vs os ls=true∧GN nm g nm g ins vs os ls ins vs os ls=true:=by
 obtain⟨e1,e2⟩:=aeZ ls h.l0 (fun l hl=>em (h.l1 l hl).2.1)
 have a0:tI nm nm=false:=by simp [tI]
 have a1:Fe g g=false:=by simp [Fe]
 simp only [GM,GN,a0,a1,aiw,e1,e2,em h.i0,em h.v0,em h.o0,allT,Bool.not_true,Bool.or_true,cond_true,cond_false,and_self]
theorem ajY{nm:ByteArray}{ins vs os:List ByteArray}{g:ByteArray}{ls:List LN}{z:Int}(h:PrFit nm ins vs os g ls 1048576 z)(h2:PrSz nm ins vs os g ls):
  Gh ls=ls∧oG ls=ls∧CR ins vs os ls=true:=by
 have hs:=h.sum
 have hz:=h.zz
 obtain⟨t1,t2⟩:=ahW ls (by omega) (fun l hl=>by have:=adJ hl;exact em (by omega))
 refine⟨t1,t1,?_⟩
 simp only [CR,t2,em (show ins.length≤1048576 by omega),em (show vs.length≤1048576 by omega),em (show os.length≤1048576 by omega),allT,cond_true]
end Go.SX
