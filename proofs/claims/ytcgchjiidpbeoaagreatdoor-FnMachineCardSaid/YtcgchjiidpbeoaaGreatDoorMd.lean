/- What functions of the program come to, and what that says in plain words: part 4. -/
import Derived.Test.YtcgchjiidpbeoaaGreatDoorMc
import Derived.Test.YtcgchjiidpbeoaaGreatDoorTXh
import Derived.Test.YtcgchjiidpbeoaaGreatDoorProg
import Derived.Test.YtcgchjiidpbeoaaGreatDoorSh
import Derived.Test.YtcgchjiidpbeoaaGreatDoorTXi
set_option linter.unusedSimpArgs false
set_option linter.unusedVariables false
open Bool renaming and_eq_true → q8
open Int renaming toNat_natCast → q9
open List renaming length_singleton → w5
open List renaming length_append → j6
open List renaming length_cons → j7
open Bool renaming cond_self → j8
open Int renaming toNat → j9
open List renaming length → k7
open Option renaming getD → k8
open Go.IntKind renaming wrap → k9
open List renaming replicate → v5
open List renaming eq_of_mem_replicate → v6
open List renaming mem_singleton → v7
namespace Go.SX
open Go.Proofs Go.Proofs.Tryz
set_option maxRecDepth 100000
def cTs(ins vs:List aAi):List TM→Int→List IN
 | [],_=> []
 |t::r,k=>cT ins vs k t::cTs ins vs r (cK k t)
def cKs:List TM→Int→Int
 | [],k=>k
 |t::r,k=>cKs r (cK k t)
def knB(t:TM):Bool:=inR t.1 1 12
def lnI(ins vs os:List aAi)(l:LN)(k:Int):List IN:=cTs ins vs l.2 k++ [nmI vs os 8 9 l.1]
def apI(st l:List IN):List IN:=st++l
theorem awJ(k:Int)(t:TM):k≤cK k t∧cK k t≤k + 1:=by
 simp only [cK];cases leI 7 t.1 <;> simp <;> omega
theorem aub: ∀ (ts:List TM) (k:Int),k≤cKs ts k∧cKs ts k≤k + ts.length
 | [],k=>by simp [cKs]
 |t::r,k=>by
  have h1:=awJ k t
  have h2:=aub r (cK k t)
  simp only [cKs,j7]
  omega
theorem aoN(ins vs:List aAi): ∀ (ts:List TM) (k:Int),(cTs ins vs ts k).length=ts.length
 | [],k=>rfl
 |t::r,k=>by simp only [cTs,j7,aoN ins vs r]
theorem awL(ins vs os:List aAi)(ls:List LN)(bl ts:List TM)(u g:aAi)(a b c:Int)(hi:ins.length≤1048576)(hv:vs.length≤1048576)(ht:ts.length≤1000)(hk:ts.all knB=true):
  ∀ (r:List TM) (i:Nat) (k:Int) (st:List IN),ts.drop i=r→i + r.length=ts.length→0≤k→k + r.length≤1048576→st.length + r.length≤1048576→
  Pj aT.lt (r.length + 1) ((i:Int),(ts.length:Int),ts,u,g,a,b,c,k,ins,vs,os,ls,bl,st)=
   some (0,((ts.length:Int),(ts.length:Int),ts,u,g,a,b,c,cKs r k,ins,vs,os,ls,bl,st++cTs ins vs r k))
 | [],i,k,st,_,hl,_,_,_=>by
  have e:i=ts.length:=by simpa using hl
  rw [e]
  have q:ltI (ts.length:Int) (ts.length:Int)=false:=Ej (by omega)
  rw [cKs,cTs,List.append_nil]
  refine NP _ ?_
  simp only [aT,qM,LT.out,rm,q,cond_false]
 |t::r,i,k,st,hd,hl,h0,h1,h2=>by
  simp only [j7]at hl h1 h2
  have hlt:i < ts.length:=by omega
  have hg:ts[i]? =some t:=by
   have:(ts.drop i)[0]? =some t:=by rw [hd];rfl
   rw [List.getElem?_drop]at this;simpa using this
  have hm:t∈ts:=List.mem_of_getElem? hg
  have hd':ts.drop (i + 1)=r:=by
   have e:ts.drop (i + 1)=(ts.drop i).drop 1:=by rw [List.drop_drop]
   rw [e,hd];rfl
  have g0:gx (i:Int) ts=t:=by
   simp only [gx,kZ,q9,hg,Option.getD_some]
  have q0:ltI (i:Int) (ts.length:Int)=true:=dL (by omega)
  have q1:leI 0 (i:Int)=true:=bx (by omega)
  have q2:ltN i ts.length=true:=er hlt
  have q3:k9 .i64 ((i:Int) + 1)=((i + 1:Nat):Int):=by rw [wrap_i64 (by omega) (by omega)];omega
  have q4:cTN ins vs k st t=true:=by
   have e1:leN ins.length 1048576=true:=aY hi
   have e2:leN vs.length 1048576=true:=aY hv
   have e3:leN st.length 1048576=true:=aY (by omega)
   have e4:inR t.1 1 12=true:=List.all_eq_true.1 hk t hm
   have e5:inR k 0 1048576=true:=pR.2 ⟨h0,by omega⟩
   simp only [cTN,cN,e1,e2,e3,e4,e5,Bool.and_self]
  have hc:=awJ k t
  rw [j7,Le (y:=(((i + 1:Nat):Int),(ts.length:Int),ts,u,g,a,b,c,cK k t,ins,vs,os,ls,bl,st++ [cT ins vs k t])) _ (by
   simp only [aT,qM,LT.out,rm,zT,zU,zW,
    zX,zY,zZ,Aa,q9,g0,q0,q1,q2,q3,q4,snI,allT,cond_true])]
  rw [awL ins vs os ls bl ts u g a b c hi hv ht hk r (i + 1) (cK k t) (st++ [cT ins vs k t]) hd' (by omega) (by omega) (by omega) (by rw [j6,w5];omega)]
  simp only [cKs,cTs,List.append_assoc,List.cons_append,List.nil_append]
def cLN(ins vs os:List aAi)(k:Int)(ts:List TM)(st:List IN):Bool:=leN ins.length 1000&&(leN vs.length 1000&&(leN os.length 1000&&(leN ts.length 1000&&(ts.all knB&&(inR k 0 100000&&leN st.length 100000)))))
theorem awM(a b c:aAi)(d e f g:Int)(i:List TM)(j k l:List aAi)(m:List LN)(o:List TM)(p:List IN)(h:cLN j k l g i p=true):
  sY a b k=b∧sZ a c k=c∧ta a d k=d∧tb a e k=e∧
  tc a f k=f∧td a b c d e f g i j k l m o p=cKs i g∧te a k o=o∧
  tf a b c d e f g i j k l m o p=apI p (lnI j k l (a,i) g)∧th a b c d e f g i j k l m o p=true:=by
 simp only [cLN,q8,eN,pR]at h
 obtain⟨h1,h2,h3,h4,h5,⟨h6,h7⟩,h8⟩:=h
 have oe:=awL j k l m o i b c d e f (by omega) (by omega) h4 h5 i 0 g p (List.drop_zero ..) (by omega) h6 (by omega) (by omega)
 obtain⟨p1,p2⟩:=aT.run oe (adK (by simp only [aT];omega))
 have p1:aT.fin (mR b c d e f g i j k l m o p)=true:=p1
 have p2:aT.res (mR b c d e f g i j k l m o p)=_:=p2
 have a2:mT b c d e f g i j k l m o p=cKs i g:=by simp only [mT,mS,p2]
 have a3:fu b c d e f g i j k l m o p=p++cTs j k i g:=by simp only [fu,mS,p2]
 have n:=fun x y=>arS x y (p++cTs j k i g) (by rw [j6,aoN];omega)
 have e1:leN k.length 9223372036854775807=true:=aY (by omega)
 have e2:leN l.length 9223372036854775807=true:=aY (by omega)
 simp only [sY,sZ,ta,tb,tc,td,
  te,tf,th,aV,eo,j8,Zq,a2,a3,p1,n,e1,e2,apI,lnI,nmI,allT,List.append_assoc,true_and]
 cases hc:lY k a with
 |false=>exact⟨rfl,rfl⟩
 |true=>rw [JS hc];exact⟨rfl,rfl⟩
def BG:aAj
 | [.one ⟨false,[.ptr 0 0]⟩,.one ⟨true,[.val (.string a),.ref 1]⟩],[.box 100 [.val (.string b),.ref 2,.ref 3,.ref 4,.val (.string c),.ref 5,.val (.int .i64 d),.val (.int .i64 e),.val (.int .i64 f),.ref 6,.ref 7,.val (.int .i64 g)],.row false 66 (.pair (.int .i64) (.pair (.str) (.int .i64))) i,.row false 9 (.str) j,.row false 9 (.str) k,.row false 9 (.str) l,.row false 91 (.pair (.str) (.sl 66 (.pair (.int .i64) (.pair (.str) (.int .i64))))) m,.row true 66 (.pair (.int .i64) (.pair (.str) (.int .i64))) n,.row true 60 (.pair (.int .i64) (.int .i64)) o]=>some ⟨.tup [],[.box 100 [.val (.string b),.ref 2,.ref 3,.ref 4,.val (.string c),.ref 5,aAk d,aAk e,aAk f,.ref 6,.ref 8,aAk (cKs i g)],aAp i,aAn j,aAn k,aAn l,aAt m,aAv n,.gone],[aAy (apI o (lnI j k l (a,i) g))],[cLN j k l g i o]⟩
 |_,_=>none
def BT:PF prog:=PF.alt OT BG (by
 intro args es o h cL;unfold BG at h;split at h
 ·rename_i a b c d e f g i j k l m n p
  cases h
  have cL:=kO cL
  have hh:=awM a b c d e f g i j k l m n p cL
  obtain⟨e0,e1,e2,e3,e4,e5,e6,e7,en⟩:=hh
  exact qm rfl (jv en) rfl (by simp only [e0,e1,e2,e3,e4,e5,e6] <;> rfl) (by simp only [e7] <;> rfl)
 ·cases h)
abbrev xl:=Int×Int×List (aAi×(List (Int×(aAi×Int))))×aAi×aAi×Int×Int×Int×Int×List aAi×List aAi×List aAi×List (Int×(aAi×Int))×List (Int×Int)
section
variable (a b:Int)(c:aiJ)(d:Int)(e f g:List aAi)(i:auv)
def Ct:aAi×aoQ:=k8 c[j9 a]? (vB aaP)
def VG:Bool:=ltI a b
def acG:Bool:=leI 0 a
def acH:Bool:=ltI a (↑c.length:Int)
def acI:Bool:=ltN a.toNat c.length
def acJ:Bool:=cLN e f g d ((Ct a c).2) i
def acK:Int:=k9 .i64 (a + (1:Int))
def acL:Int:=cKs ((Ct a c).2) d
def acM:auv:=apI i (lnI e f g ((Ct a c).1,(Ct a c).2) d)
end
def akg:xl→List (Nat×SV)
 |(a,b,_,_,_,_,_,_,_,_,_,_,_,_)=> [(11,(aAm a)),(10,(aAm b)),(9,(aAl (.ref 0))),(3,(aAl (.ptr 1 0)))]
def aj9:xl→List (Nat×Entry)
 |(_,_,a,b,c,d,e,f,g,i,j,k,l,m)=> [(0,(aAs a)),(1,(.box 100 [.val (.string b),.ref 2,.ref 3,.ref 4,.val (.string c),.ref 0,aAk d,aAk e,aAk f,.ref 5,.ref 6,aAk g])),(2,(aAn i)),(3,(aAn j)),(4,(aAn k)),(5,(aAv l)),(6,(aAy m))]
def aku:Nat→xl→List (Nat×SV)
 |_,_=>[]
def Ug:xl→LT xl
 |(a,b,c,d,e,f,g,i,j,k,l,m,n,o)=> .ite (VG a b) (.need [acG a,acH a c,acI a c] (.need [acJ a c j k l m o] (.nrm ((acK a),b,c,d,e,f,g,i,acL a c j,k,l,m,n,(acM a c j k l m o)) [(0,0),(1,1),(2,2),(3,3),(4,4),(5,5),(6,512)]))) (.ext 0 [(0,0),(1,1),(2,2),(3,3),(4,4),(5,5),(6,6)])
def Un(s:St):Option xl:=do
 let some ⟨none,.one ⟨false,[.val (.int .i64 a)]⟩⟩:=s.look 11|none
 let some ⟨none,.one ⟨false,[.val (.int .i64 b)]⟩⟩:=s.look 10|none
 let some ⟨none,.one ⟨false,[.ref 3]⟩⟩:=s.look 9|none
 let some ⟨none,.one ⟨false,[.ptr 512 0]⟩⟩:=s.look 3|none
 let some (.row false 91 (.pair .str (.sl 66 (.pair (.int .i64) (.pair .str (.int .i64))))) c):=s.ent 3|none
 let some (.box 100 [.val (.string d),.ref 0,.ref 1,.ref 2,.val (.string e),.ref 3,.val (.int .i64 f),.val (.int .i64 g),.val (.int .i64 i),.ref 513,.ref 514,.val (.int .i64 j)]):=s.ent 512|none
 let some (.row false 9 (.str) k):=s.ent 0|none
 let some (.row false 9 (.str) l):=s.ent 1|none
 let some (.row false 9 (.str) m):=s.ent 2|none
 let some (.row true 66 (.pair (.int .i64) (.pair .str (.int .i64))) n):=s.ent 513|none
 let some (.row true 60 (.pair (.int .i64) (.int .i64)) o):=s.ent 514|none
 some (a,b,c,d,e,f,g,i,j,k,l,m,n,o)
def lI:Lp xl where
 h:=⟨[12,13,14,5,15,16,17,18,11],[0,1,2,3,4,5],[6],[]⟩
 JL:=akg
 JE:=aj9
 XL:=aku
 XE:=fun _=>aj9
 q:=fun j=>match j with | _=> .exit 0
 tags:= [0]
 lt:=Ug
 fuel:=fun(a,b,c,d,e,f,g,i,k,l,m,n,o,p)=>a.natAbs + b.natAbs + c.length + d.size + e.size + f.natAbs + g.natAbs + i.natAbs + k.natAbs + l.length + m.length + n.length + o.length + p.length
 fix:=fun(_,b,c,d,e,f,g,i,_,l,m,n,o,_) (a,_,_,_,_,_,_,_,k,_,_,_,_,p)=>(a,b,c,d,e,f,g,i,k,l,m,n,o,p)
 σ:= [(0,3),(1,512),(2,0),(3,1),(4,2),(5,513),(6,514)]
 rd:=Un
theorem aib:LoopOk prog (fun k=>Nat.blt k Tryz.f22.ntmps) lI.F (bc f22 0):=by
 refine Lp.ok (tbl:= [abn,BT,BU]) (lf:= []) aU lI (by kernel_rfl) (LOk.nil _) (fun _=>rfl) (fun _ _=>rfl) ?_ ?_ ?_ ?_ (fun _=>rfl) ?_
 ·intro _;kernel_rfl
 ·intro _;kernel_rfl
 ·intro s x h
  have h:Un s=some x:=h
  unfold Un at h
  repeat' split at h
  all_goals cases h
  constructor<;>repeat(first|refine ab ‹_› rfl ?_|refine aa rfl ‹_› rfl ?_|rfl)
 ·intro _;kernel_rfl
 ·intro _ _;exact(And.intro rfl trivial)
section
variable (a b:aAi)(c d e:List aAi)(f:aiK)
def Bj:Bool:= !ByteArray.toList b==ByteArray.toList (ByteArray.mk #[])
def TA:Int×Int×aiK×aAi×aAi×Int×Int×Int×Int×List aAi×List aAi×List aAi×aoQ×auv:=((0:Int),(↑f.length:Int),f,a,b,Gb c,Gc d,Gd e,(0:Int),c,d,e,Ge f,aa9)
def NL:auv:=(Lp.res lI (TA a b c d e f)).2.2.2.2.2.2.2.2.2.2.2.2.2.2
def aa1:Int:=bif Bj b then Gb c else Gb c
def aa2:Int:=bif Bj b then Gc d else Gc d
def aa3:Int:=bif Bj b then Gd e else Gd e
def aa4:aor:=bif Bj b then Ge f else Ge f
def aa5:auv:=bif Bj b then snI (NL a b c d e f) (nmI c d 10 11 b)else NL a b c d e f
def aa6:Bool:=allT [Uc f,Lp.fin lI (TA a b c d e f),!Bj b||cN c d (NL a b c d e f)]
end
def ag8:aAj
 | [.one ⟨true,[.val (.string a),.ref 0,.ref 1,.ref 2,.val (.string b),.ref 3]⟩],[.row false 9 (.str) c,.row false 9 (.str) d,.row false 9 (.str) e,.row false 91 (.pair (.str) (.sl 66 (.pair (.int .i64) (.pair (.str) (.int .i64))))) f]=>some ⟨.one ⟨true,[aAk (aa1 b c),aAk (aa2 b d),aAk (aa3 b e),.ref 4,.ref 5]⟩,[aAn c,aAn d,aAn e,aAt f],[aAv (aa4 b f),aAy (aa5 a b c d e f)],[aa6 a b c d e f]⟩
 |_,_=>none
def ap0:PF prog:=PF.ofG prog [abn,BT,BU] [lI.F] aU 22 f22 func22 (LOk.fnT (l:= [bc f22 0]) (by kernel_rfl) (.cons aib (.nil _))) ag8 (by
 intro _ _ _ h;unfold ag8 at h;split at h<;>cases h;kernel_rfl)
section
variable (a b:aAi)(c d e:List aAi)(f:aiK)
def Ok:Int:=bif !gj a c d e b f then(0:Int)else aa1 b c
def Ol:Int:=bif !gj a c d e b f then(0:Int)else aa2 b d
def Om:Int:=bif !gj a c d e b f then(0:Int)else aa3 b e
def On:Int:=bif !gj a c d e b f then(1:Int)else(0:Int)
def Oo:aor:=bif !gj a c d e b f then []else aa4 b f
def Oq:auv:=bif !gj a c d e b f then []else aa5 a b c d e f
def Ot:Bool:=allT [adZ a c d e b f,!gj a c d e b f||aa6 a b c d e f]
end
def Xf:aAj
 | [.one ⟨true,[.val (.string a),.ref 0,.ref 1,.ref 2,.val (.string b),.ref 3]⟩],[.row false 9 (.str) c,.row false 9 (.str) d,.row false 9 (.str) e,.row false 91 (.pair (.str) (.sl 66 (.pair (.int .i64) (.pair (.str) (.int .i64))))) f]=>some ⟨.tup [⟨true,[aAk (Ok a b c d e f),aAk (Ol a b c d e f),aAk (Om a b c d e f),.ref 4,.ref 5]⟩,⟨false,[aAk (On a b c d e f)]⟩],[aAn c,aAn d,aAn e,aAt f],[aAv (Oo a b c d e f),aAy (Oq a b c d e f)],[Ot a b c d e f]⟩
 |_,_=>none
def ag1:PF prog:=PF.ofG prog (T3z [abh,ap0]) [] aU 7 f7 func7 (fun c _=>LOk.nil c) Xf (by
 intro _ _ _ h;unfold Xf at h;split at h<;>cases h;kernel_rfl)
def cLs(ins vs os:List aAi):List LN→Int→List IN
 | [],_=> []
 |l::r,k=>lnI ins vs os l k++cLs ins vs os r (cKs l.2 k)
def lKs:List LN→Int→Int
 | [],k=>k
 |l::r,k=>lKs r (cKs l.2 k)
def cpS(ins vs os:List aAi)(g:aAi)(ls:List LN):List IN:=cLs ins vs os ls 0++bif g.toList== []then []else [nmI ins vs 10 11 g]
def cLb(l:LN):Bool:=leN l.2.length 40&&l.2.all knB
theorem aoM{l:LN}:cLb l=true↔l.2.length≤40∧l.2.all knB=true:=by simp only [cLb,q8,eN]
theorem avH(ins vs os:List aAi)(l:LN)(k:Int):(lnI ins vs os l k).length=l.2.length + 1:=by rw [lnI,j6,aoN,w5]
theorem arN(ins vs os:List aAi): ∀ (ls:List LN) (k:Int),ls.all cLb=true→(cLs ins vs os ls k).length≤41 * ls.length
 | [],k,_=>by simp [cLs]
 |l::r,k,h=>by
  simp only [List.all_cons,q8]at h
  have h1:=(aoM.1 h.1).1
  have h2:=arN ins vs os r (cKs l.2 k) h.2
  simp only [cLs,j6,avH,j7]
  omega
theorem axc: ∀ (ts:List TM) (n e:Int),htT ts n=some e→ts.all knB=true
 | [],n,e,_=>rfl
 |t::r,n,e,h=>by
  simp only [htT]at h
  cases hc:(termB t.1 t.2.1 t.2.2&&leI (takesK t.1) n)with
  |false=>rw [hc]at h;cases h
  |true=>
   rw [hc,cond_true]at h
   simp only [q8,termB]at hc
   simp only [List.all_cons,axc r _ e h,knB,hc.1.1,Bool.and_self]
theorem aqj{nm:aAi}{ins vs os:List aAi}{g:aAi}{ls:List LN}(h:gj nm ins vs os g ls=true):ls.all cLb=true:=by
 have hL:=(Vb h).2.1
 refine List.all_eq_true.2 fun l hl=> ?_
 obtain⟨_,q2,q3⟩:=aal (List.all_eq_true.1 hL l hl)
 exact aoM.2 ⟨q2,axc _ _ _ q3⟩
theorem awQ(ins vs os:List aAi)(ls:List LN)(bl:List TM)(u g:aAi)(a b c:Int)(hi:ins.length≤20)(hv:vs.length≤20)(ho:os.length≤20)(hn:ls.length≤40)(hk:ls.all cLb=true):
  ∀ (r:List LN) (i:Nat) (k:Int) (st:List IN),ls.drop i=r→i + r.length=ls.length→0≤k→k + 40 * r.length≤100000→st.length + 41 * r.length≤100000→
  Pj lI.lt (r.length + 1) ((i:Int),(ls.length:Int),ls,u,g,a,b,c,k,ins,vs,os,bl,st)=
   some (0,((ls.length:Int),(ls.length:Int),ls,u,g,a,b,c,lKs r k,ins,vs,os,bl,st++cLs ins vs os r k))
 | [],i,k,st,_,hl,_,_,_=>by
  have e:i=ls.length:=by simpa using hl
  rw [e]
  have q:ltI (ls.length:Int) (ls.length:Int)=false:=Ej (by omega)
  rw [lKs,cLs,List.append_nil]
  refine NP _ ?_
  simp only [lI,Ug,LT.out,VG,q,cond_false]
 |(tg,ts)::r,i,k,st,hd,hl,h0,h1,h2=>by
  simp only [j7]at hl h1 h2
  have hlt:i < ls.length:=by omega
  have hg:ls[i]? =some (tg,ts):=by
   have:(ls.drop i)[0]? =some (tg,ts):=by rw [hd];rfl
   rw [List.getElem?_drop]at this;simpa using this
  obtain⟨q5,q6⟩:=aoM.1 (List.all_eq_true.1 hk _ (List.mem_of_getElem? hg))
  simp only at q5 q6
  have hd':ls.drop (i + 1)=r:=by
   have e:ls.drop (i + 1)=(ls.drop i).drop 1:=by rw [List.drop_drop]
   rw [e,hd];rfl
  have g0:Ct (i:Int) ls=(tg,ts):=by
   simp only [Ct,q9,hg];rfl
  have q0:ltI (i:Int) (ls.length:Int)=true:=dL (by omega)
  have q1:leI 0 (i:Int)=true:=bx (by omega)
  have q2:ltN i ls.length=true:=er hlt
  have q3:k9 .i64 ((i:Int) + 1)=((i + 1:Nat):Int):=by rw [wrap_i64 (by omega) (by omega)];omega
  have q4:cLN ins vs os k ts st=true:=by
   have e1:leN ins.length 1000=true:=aY (by omega)
   have e2:leN vs.length 1000=true:=aY (by omega)
   have e3:leN os.length 1000=true:=aY (by omega)
   have e4:leN ts.length 1000=true:=aY (by omega)
   have e5:inR k 0 100000=true:=pR.2 ⟨h0,by omega⟩
   have e6:leN st.length 100000=true:=aY (by omega)
   simp only [cLN,e1,e2,e3,e4,e5,e6,q6,Bool.and_self]
  have hc:=aub ts k
  rw [j7,Le (y:=(((i + 1:Nat):Int),(ls.length:Int),ls,u,g,a,b,c,cKs ts k,ins,vs,os,bl,st++lnI ins vs os (tg,ts) k)) _ (by
   simp only [lI,Ug,LT.out,VG,acG,acH,acI,acJ,acK,acL,acM,q9,g0,q0,q1,q2,q3,q4,apI,allT,cond_true])]
  rw [awQ ins vs os ls bl u g a b c hi hv ho hn hk r (i + 1) (cKs ts k) (st++lnI ins vs os (tg,ts) k) hd' (by omega) (by omega) (by omega) (by rw [j6,avH];simp only;omega)]
  simp only [lKs,cLs,List.append_assoc]
def cpI(nm:aAi)(ins vs os:List aAi)(g:aAi)(ls:List LN):Int:=bif gj nm ins vs os g ls then(ins.length:Int)else 0
def cpV(nm:aAi)(ins vs os:List aAi)(g:aAi)(ls:List LN):Int:=bif gj nm ins vs os g ls then(vs.length:Int)else 0
def cpO(nm:aAi)(ins vs os:List aAi)(g:aAi)(ls:List LN):Int:=bif gj nm ins vs os g ls then(os.length:Int)else 0
def cpC(nm:aAi)(ins vs os:List aAi)(g:aAi)(ls:List LN):Int:=bif gj nm ins vs os g ls then 0 else 1
def cpB(nm:aAi)(ins vs os:List aAi)(g:aAi)(ls:List LN):List TM:=bif gj nm ins vs os g ls then blL ls else []
def cpL(nm:aAi)(ins vs os:List aAi)(g:aAi)(ls:List LN):List IN:=bif gj nm ins vs os g ls then cpS ins vs os g ls else []
theorem azz(nm g:aAi)(ins vs os:List aAi)(ls:List LN)(h:adZ nm ins vs os g ls=true):
  Ok nm g ins vs os ls=cpI nm ins vs os g ls∧Ol nm g ins vs os ls=cpV nm ins vs os g ls∧Om nm g ins vs os ls=cpO nm ins vs os g ls∧
  On nm g ins vs os ls=cpC nm ins vs os g ls∧Oo nm g ins vs os ls=cpB nm ins vs os g ls∧Oq nm g ins vs os ls=cpL nm ins vs os g ls∧Ot nm g ins vs os ls=true:=by
 simp only [Ok,Ol,Om,On,Oo,Oq,Ot,aa1,aa2,aa3,aa4,j8,cpI,cpV,cpO,cpC,cpB,cpL,h,allT]
 cases hs:gj nm ins vs os g ls with
 |false=>exact⟨rfl,rfl,rfl,rfl,rfl,rfl,rfl⟩
 |true=>
  obtain⟨_,hL,hm,hu,hn,h1,h2,h3⟩:=Vb hs
  have hlb:=aqj hs
  have oe:=awQ ins vs os ls (blL ls) nm g (ins.length:Int) (vs.length:Int) (os.length:Int) h1 h2 h3 hn hlb ls 0 0 [] (List.drop_zero ..) (by omega) (by omega) (by omega) (by simp only [List.length_nil];omega)
  obtain⟨p1,p2⟩:=lI.run oe (adK (by simp only [lI];omega))
  have p1:lI.fin (TA nm g ins vs os ls)=true:=p1
  have p2:lI.res (TA nm g ins vs os ls)=_:=p2
  have a2:NL nm g ins vs os ls=cLs ins vs os ls 0:=by simp only [NL,p2,List.nil_append]
  have a0:Bj g= !(g.toList== []):=by simp only [Bj,Sb]
  have hk:ZY ls=true:=(Wa.1 h).2.2.2.2.2.2
  have hN:cN ins vs (cLs ins vs os ls 0)=true:=by
   have e1:leN ins.length 1048576=true:=aY (by omega)
   have e2:leN vs.length 1048576=true:=aY (by omega)
   have e3:leN (cLs ins vs os ls 0).length 1048576=true:=aY (by have:=arN ins vs os ls 0 hlb;omega)
   simp only [cN,e1,e2,e3,Bool.and_self]
  simp only [aa5,aa6,Gb,Gc,Gd,Ge,Uc,Do,a0,a2,p1,hk,hN,snI,cpS,allT]
  cases g.toList== [] <;> simp
def Xi:aAj
 | [.one ⟨true,[.val (.string a),.ref 0,.ref 1,.ref 2,.val (.string b),.ref 3]⟩],[.row false 9 (.str) c,.row false 9 (.str) d,.row false 9 (.str) e,.row false 91 (.pair (.str) (.sl 66 (.pair (.int .i64) (.pair (.str) (.int .i64))))) f]=>some ⟨.tup [⟨true,[aAk (cpI a c d e b f),aAk (cpV a c d e b f),aAk (cpO a c d e b f),.ref 4,.ref 5]⟩,⟨false,[aAk (cpC a c d e b f)]⟩],[aAn c,aAn d,aAn e,aAt f],[aAv (cpB a c d e b f),aAy (cpL a c d e b f)],[adZ a c d e b f]⟩
 |_,_=>none
def OR:PF prog:=PF.alt ag1 Xi (by
 intro args es o h cL;unfold Xi at h;split at h
 ·rename_i a b c d e f
  cases h
  have cL:=kO cL
  have hh:=azz a b c d e f cL
  obtain⟨e0,e1,e2,e3,e4,e5,en⟩:=hh
  exact qm rfl (jv en) (by simp only [e0,e1,e2,e3] <;> rfl) rfl (by simp only [e4,e5] <;> rfl)
 ·cases h)
theorem axk(ins vs:List aAi)(a b:Int)(s:aAi):(RM s a b ins,RN s ins vs)=nmI ins vs a b s:=by
 simp only [RM,RN,nmI,Zq]
 cases h:lY ins s with
 |true=>simp only [cond_true,JS h]
 |false=>simp only [cond_false]
theorem avl{α:Type}{l:List α}{k:Nat}{d:α}(h:k < l.length):l.drop k=k8 l[k]? d::l.drop (k + 1):=by
 rw [List.getElem?_eq_getElem h,Option.getD_some,List.drop_eq_getElem_cons h]
theorem awk(TOT:List IN)(KT:Int)(x:jh)(hx:match x with | (a,b,c,e,f,g,i,l,m,n)=>((ae b n).length:Int)≤a + (100:Nat)∧0≤a∧g.length + (100:Nat)≤20000∧(0≤b∧b < (n.length:Int))∧RZ 100 n=true∧i.length≤50∧l.length≤50∧((ae b n).all knB=true∧0≤c∧c + (100:Nat)≤1000000∧g++cTs i l ((ae b n).drop a.toNat) c=TOT∧cKs ((ae b n).drop a.toNat) c=KT)):
  cq.fin x=true∧ ∃ j y,cq.res x=(j,y)∧(match y with | (a,b,c,e,f,g,i,l,m,n)=>c=KT∧g=TOT):=by
 refine cq.inv2 (fun k x=>match x with | (a,b,c,e,f,g,i,l,m,n)=>((ae b n).length:Int)≤a + k∧0≤a∧g.length + k≤20000∧(0≤b∧b < (n.length:Int))∧RZ 100 n=true∧i.length≤50∧l.length≤50∧((ae b n).all knB=true∧0≤c∧c + k≤1000000∧g++cTs i l ((ae b n).drop a.toNat) c=TOT∧cKs ((ae b n).drop a.toNat) c=KT)) (fun y=>match y with | (a,b,c,e,f,g,i,l,m,n)=>c=KT∧g=TOT) (fun k x hx=> ?_) (fun x hx=> ?_) 100 x (by omega) hx
 ·obtain⟨a,b,c,e,f,g,i,l,m,n⟩:=x
  obtain⟨h0,h1,h2,⟨h4,h5⟩,h6,h7,h8,hkn,c1,c2,c3,c4⟩:=hx
  have p0:uk b=true:=bx h4
  have p1:ul b n=true:=dL h5
  have p2:um b n=true:=er (by omega)
  cases ht:uo a b n with
  |false=>
   have hge:=Yj.1 (show ltI a ((ae b n).length:Int)=false from ht)
   have hd:(ae b n).drop a.toNat= []:=List.drop_eq_nil_iff.2 (by omega)
   rw [hd]at c3 c4
   simp only [cTs,List.append_nil]at c3
   simp only [cq,pO,LT.ok,FR,FS,p0,p1,p2,ht,Bool.false_eq_true,false_implies,true_implies,true_and,and_true]
   exact⟨c4,c3⟩
  |true=>
   have hlt:a < ((ae b n).length:Int):=Sa.1 ht
   have hA:(ae b n).length≤100:=by
    have:=(zd.1 h6).2 (k8 n[b.toNat]? (vB (.pair .str (.sl 66 (.pair (.int .i64) (.pair .str (.int .i64))))))) (by
     rw [List.getElem?_eq_getElem (show b.toNat < n.length by omega)];exact List.getElem_mem _)
    exact(Co.1 this.2).1
   have hd:=avl (d:=((0:Int),ByteArray.empty,(0:Int))) (show a.toNat < (ae b n).length by omega)
   have e1:k8 (ae b n)[a.toNat]? ((0:Int),ByteArray.empty,(0:Int))=bZ a b n:=rfl
   rw [e1]at hd
   have hk:knB (bZ a b n)=true:=List.all_eq_true.1 hkn _ (List.mem_of_mem_drop (by rw [hd];exact List.mem_cons_self ..))
   have hk:=pR.1 hk
   rw [hd]at c3 c4
   simp only [cTs,cKs]at c3 c4
   have p4:LM a=true:=bx h1
   have p5:LO a b n=true:=er (by omega)
   have p6:LP a b i l n=true:=by
    refine tI ?_
    simp only [He,aY (show i.length≤9223372036854775807 by omega),aY (show l.length≤9223372036854775807 by omega),allT,Bool.or_true,cond_true]
   have b1:leN (g.length + 1) 9223372036854775807=true:=aY (by omega)
   have b2:leN ((g.length + 1) * 16) 140737488355328=true:=aY (by omega)
   have p7:LQ a b g i l n=true:=tI b1
   have p8:LR a b g i l n=true:=tI b2
   have p9:LU a b g n=true:=tI (tI b1)
   have p10:Jp a b g n=true:=tI (tI b2)
   have p11:Jq a b g n=true:=tI (tI (tI b1))
   have p12:Jr a b g n=true:=tI (tI (tI b2))
   have p13:Js a b g n=true:=tI (tI (tI (tI b1)))
   have p14:Jt a b g n=true:=tI (tI (tI (tI b2)))
   have p15:Ju a b c g n=true:=tI (tI (tI (tI b1)))
   have p16:Jv a b c g n=true:=tI (tI (tI (tI b2)))
   have w:eu a=a + 1:=wrap_i64 (by omega) (by omega)
   have w2:Tw c=c + 1:=wrap_i64 (by omega) (by omega)
   have tn:(a + 1).toNat=a.toNat + 1:=by omega
   have nx: ∀ {q:List IN} {z:Int},q=g++ [cT i l c (bZ a b n)]→z=cK c (bZ a b n)→((ae b n).length:Int)≤(eu a) + (k:Int)∧0≤eu a∧q.length + k≤20000∧(0≤b∧b < (n.length:Int))∧RZ 100 n=true∧i.length≤50∧l.length≤50∧
     ((ae b n).all knB=true∧0≤z∧z + k≤1000000∧q++cTs i l ((ae b n).drop (eu a).toNat) z=TOT∧cKs ((ae b n).drop (eu a).toNat) z=KT):=fun hq hz=>by
    subst hq hz
    have ck:=awJ c (bZ a b n)
    rw [w,tn]
    refine⟨by omega,by omega,by rw [j6,w5];omega,⟨h4,h5⟩,h6,h7,h8,hkn,by omega,by omega,?_,c4⟩
    rw [List.append_assoc];exact c3
   generalize hT:bZ a b n=T at *
   have e17:Tt a b n=(T.1==1):=by rw [← hT];rfl
   have e20:Tu a b n=(T.1==2):=by rw [← hT];rfl
   have e22:Tv a b n=(T.1==3):=by rw [← hT];rfl
   have e24:JA a b n=((T.1==4)||((T.1==5)||(T.1==6))):=by
    rw [← hT];simp only [JA,sN,JB,JC]
    cases (bZ a b n).1==(4:Int) <;> cases (bZ a b n).1==(5:Int) <;> simp
   have v19:De a b g i l n=g++ [nmI i l 2 3 T.2.1]:=by rw [← hT,← axk];rfl
   have v25:yo a b g n=g++ [(T.1,0)]:=by
    have:k9 .i64 (k9 .i64 (T.1 - 4) + 4)=T.1:=by rw [wrap_i64 (x:=T.1 - 4) (by omega) (by omega),wrap_i64 (by omega) (by omega)];omega
    simp only [yo,yp,hT,this]
   simp only [cq,pO,LT.ok,FR,FS,and_true,true_and,ht,p0,p1,p2,p4,p5,p6,p7,p8,p9,p10,p11,p12,p13,p14,p15,p16,Bool.false_eq_true,reduceCtorEq,false_implies,true_implies]
   have hc:T.1=1∨T.1=2∨T.1=3∨T.1=4∨T.1=5∨T.1=6∨7≤T.1:=by omega
   obtain⟨kd,nm,num⟩:=T
   simp only at hc e17 e20 e22 e24 v19 v25
   rw [e17,e20,e22,e24]
   refine⟨fun q=> ?_,fun n1=>⟨fun q=> ?_,fun n2=>⟨fun q=> ?_,fun n3=>⟨fun q=> ?_,fun n4=> ?_⟩⟩⟩⟩
   ·have:kd=1:=by simpa using q
    subst this
    exact nx (by rw [v19];rfl) rfl
   ·have:kd=2:=by simpa using q
    subst this
    exact nx rfl rfl
   ·have:kd=3:=by simpa using q
    subst this
    exact nx rfl rfl
   ·have:kd=4∨kd=5∨kd=6:=by simpa using q
    rcases this with rfl | rfl | rfl
    ·exact nx (by rw [v25];rfl) rfl
    ·exact nx (by rw [v25];rfl) rfl
    ·exact nx (by rw [v25];rfl) rfl
   ·have m1: ¬ kd=1:=by simpa using n1
    have m2: ¬ kd=2:=by simpa using n2
    have m3: ¬ kd=3:=by simpa using n3
    have m4: ¬ kd=4∧ ¬ kd=5∧ ¬ kd=6:=by simpa using n4
    have h7:7≤kd:=by omega
    have q: ∀ j:Int,j < 7→(kd==j)=false:=fun j hj=>by simp;omega
    exact nx (by simp only [Df,wQ,cT,q 1 (by decide),q 2 (by decide),q 3 (by decide),bx h7,cond_false,cond_true]) (by simp only [w2,cK,bx h7,cond_true])
 ·obtain⟨a,b,c,e,f,g,i,l,m,n⟩:=x
  obtain⟨h0,h1,h2,⟨h4,h5⟩,h6,h7,h8,hkn,c1,c2,c3,c4⟩:=hx
  have p0:uk b=true:=bx h4
  have p1:ul b n=true:=dL h5
  have p2:um b n=true:=er (by omega)
  have ht:uo a b n=false:=Ej (by omega)
  have hd:(ae b n).drop a.toNat= []:=List.drop_eq_nil_iff.2 (by omega)
  rw [hd]at c3 c4
  simp only [cTs,List.append_nil]at c3
  simp only [cq,pO,LT.ok,FR,FS,p0,p1,p2,ht,Bool.false_eq_true,false_implies,true_implies,true_and,and_true]
  exact⟨c4,c3⟩
theorem awl(TOT:List IN)(x:mr)(hx:match x with | (a,b,c,e,f,g,i,m,n)=>(n.length:Int)≤a + (100:Nat)∧0≤a∧f.length + 101 * (100:Nat)≤10100∧RZ 100 n=true∧g.length≤50∧i.length≤50∧m.length≤50∧((∀ l∈n,l.2.all knB=true)∧0≤b∧b + 101 * (100:Nat)≤100000∧f++cLs g i m (n.drop a.toNat) b=TOT)):
  dx.fin x=true∧ ∃ j y,dx.res x=(j,y)∧(match y with | (a,b,c,e,f,g,i,m,n)=>f=TOT):=by
 refine dx.inv2 (fun k x=>match x with | (a,b,c,e,f,g,i,m,n)=>(n.length:Int)≤a + k∧0≤a∧f.length + 101 * k≤10100∧RZ 100 n=true∧g.length≤50∧i.length≤50∧m.length≤50∧((∀ l∈n,l.2.all knB=true)∧0≤b∧b + 101 * k≤100000∧f++cLs g i m (n.drop a.toNat) b=TOT)) (fun y=>match y with | (a,b,c,e,f,g,i,m,n)=>f=TOT) (fun k x hx=> ?_) (fun x hx=> ?_) 100 x (by omega) hx
 ·obtain⟨a,b,c,e,f,g,i,m,n⟩:=x
  obtain⟨h0,h1,h2,h3,h4,h5,h6,hkn,c1,c2,c3⟩:=hx
  have l8:=(zd.1 h3).1
  cases ht:zH a n with
  |false=>
   have hge:=Yj.1 (show ltI a (n.length:Int)=false from ht)
   have hd:n.drop a.toNat= []:=List.drop_eq_nil_iff.2 (by omega)
   rw [hd]at c3
   simp only [cLs,List.append_nil]at c3
   simp only [dx,ti,LT.ok,ht,Bool.false_eq_true,false_implies,true_implies,true_and,and_true]
   exact c3
  |true=>
   have hlt:a < (n.length:Int):=Sa.1 ht
   have hm:k8 n[a.toNat]? (vB (.pair .str (.sl 66 (.pair (.int .i64) (.pair .str (.int .i64))))))∈n:=by
    rw [List.getElem?_eq_getElem (show a.toNat < n.length by omega)];exact List.getElem_mem _
   have hA:(ae a n).length≤100:=(Co.1 ((zd.1 h3).2 _ hm).2).1
   have hB:(ae a n).all knB=true:=hkn _ hm
   have hd:List.drop a.toNat n=(cn a n,ae a n)::List.drop (a.toNat + 1) n:=avl (α:=LN) (d:=vB (.pair .str (.sl 66 (.pair (.int .i64) (.pair .str (.int .i64)))))) (show a.toNat < n.length by omega)
   rw [hd]at c3
   have c3:f++((cTs g i (ae a n) b++ [nmI i m 8 9 (cn a n)])++cLs g i m (List.drop (a.toNat + 1) n) (cKs (ae a n) b))=TOT:=c3
   obtain⟨f0,j0,⟨z0,z1,z2,z3,z4,z5,z6,z7,z8,z9⟩,g0,q1,q2⟩:=awk (f++cTs g i (ae a n) b) (cKs (ae a n) b) (xX a b c e f g i m n) (by
    simp only [xX]
    exact⟨by omega,by omega,by omega,⟨h1,hlt⟩,h3,h4,h5,hB,c1,by omega,rfl,rfl⟩)
   have e4:tD a b c e f g i m n=z2:=by simp only [tD,Cl,g0]
   have e5:lG a b c e f g i m n=z5:=by simp only [lG,Cl,g0]
   have zl:z5.length≤f.length + 100:=by rw [q2,j6,aoN];omega
   have p1:RD a b c e f g i m n=true:=f0
   have p2:RE a=true:=bx h1
   have p3:RF a n=true:=er (by omega)
   have p4:RG i=true:=aY (by omega)
   have b1:leN (z5.length + 1) 9223372036854775807=true:=aY (by omega)
   have b2:leN ((z5.length + 1) * 16) 140737488355328=true:=aY (by omega)
   have p5:RH a b c e f g i m n=true:=tI (by rw [e5];exact b1)
   have p6:RI a b c e f g i m n=true:=tI (by rw [e5];exact b2)
   have p7:RJ a i n=true:=tI (bx h1)
   have p8:RK a i n=true:=tI ht
   have p9:RL a i n=true:=tI (er (by omega))
   have p10:PN a i m n=true:=tI (aY (by omega))
   have p11:PO a b c e f g i m n=true:=tI (by rw [e5];exact b1)
   have p12:PP a b c e f g i m n=true:=tI (by rw [e5];exact b2)
   have w:lF a=a + 1:=wrap_i64 (by omega) (by omega)
   have tn:(a + 1).toNat=a.toNat + 1:=by omega
   have ck:=aub (ae a n) b
   have nx: ∀ {q:List IN},q=z5++ [nmI i m 8 9 (cn a n)]→(n.length:Int)≤(lF a) + (k:Int)∧0≤lF a∧q.length + 101 * k≤10100∧RZ 100 n=true∧g.length≤50∧i.length≤50∧m.length≤50∧
     ((∀ l∈n,l.2.all knB=true)∧0≤tD a b c e f g i m n∧tD a b c e f g i m n + 101 * (k:Int)≤100000∧q++cLs g i m (n.drop (lF a).toNat) (tD a b c e f g i m n)=TOT):=fun hq=>by
    subst hq
    rw [w,tn,e4,q1]
    refine⟨by omega,by omega,by rw [j6,w5];omega,h3,h4,h5,h6,hkn,by omega,by omega,?_⟩
    rw [q2,← c3];simp only [List.append_assoc]
   have hI:=Zq i (cn a n)
   have v16:lY i (cn a n)=true→Cj a b c e f g i m n=z5++ [nmI i m 8 9 (cn a n)]:=fun hh=>by
    simp only [Cj,e5,Cm,nmI,hh,cond_true,JS hh]
   have v17:lY i (cn a n)=false→Ck a b c e f g i m n=z5++ [nmI i m 8 9 (cn a n)]:=fun hh=>by
    simp only [Ck,e5,Cn,nmI,hh,cond_false]
   have e13:XA a i n=lY i (cn a n):=hI
   simp only [dx,ti,LT.ok,FR,FS,and_true,true_and,ht,p1,p2,p3,p4,p5,p6,p7,p8,p9,p10,p11,p12,e13,Bool.false_eq_true,reduceCtorEq,false_implies,true_implies]
   exact⟨fun hh=>nx (v16 hh),fun hh=>nx (v17 hh)⟩
 ·obtain⟨a,b,c,e,f,g,i,m,n⟩:=x
  obtain⟨h0,h1,h2,h3,h4,h5,h6,hkn,c1,c2,c3⟩:=hx
  have ht:zH a n=false:=Ej (by omega)
  have hd:n.drop a.toNat= []:=List.drop_eq_nil_iff.2 (by omega)
  rw [hd]at c3
  simp only [cLs,List.append_nil]at c3
  simp only [dx,ti,LT.ok,ht,Bool.false_eq_true,false_implies,true_implies,true_and,and_true]
  exact c3
theorem ayj(a b:aAi)(c d e:List aAi)(f:List LN)(hp:prD a c d e b f=true)(hS:gj a c d e b f=true):
  tU b c=c.length∧AR b d=d.length∧AU b e=e.length∧AV b f=blL f∧nj a b c d e f=cpS c d e b f:=by
 obtain⟨_,hi,hv,ho,_,hl⟩:=JY.1 hp
 have i0:=(pe.1 hi).1
 have v0:=(pe.1 hv).1
 have o0:=(pe.1 ho).1
 have l0:=(zd.1 hl).1
 have hk: ∀ l∈f,l.2.all knB=true:=fun l hlm=>(aoM.1 (List.all_eq_true.1 (aqj hS) l hlm)).2
 obtain⟨f0,j0,⟨z0,z1,z2,z3,z4,z5,z6,z7,z8⟩,g0,q1⟩:=awl (cLs c d e f 0) (CS a b c d e f) (by
  simp only [CS]
  exact⟨by omega,by omega,by simp,hl,i0,v0,o0,hk,by omega,by omega,rfl⟩)
 have e2:vq a b c d e f=cLs c d e f 0:=by simp only [vq,g0,q1]
 have ea:jO b= !(b.toList== []):=by simp only [jO,Sb]
 refine⟨by simp only [tU,j8],by simp only [AR,j8],by simp only [AU,j8],by simp only [AV,j8],?_⟩
 simp only [nj,e2,Hd,axk,ea,cpS]
 cases b.toList== [] <;> simp
section
variable (a b:aAi)(c d e:List aAi)(f:aiK)
def Pl:Int:=bif !gj a c d e b f then(0:Int)else tU b c
def Pm:Int:=bif !gj a c d e b f then(0:Int)else AR b d
def Pn:Int:=bif !gj a c d e b f then(0:Int)else AU b e
def Po:Int:=bif !gj a c d e b f then(1:Int)else(0:Int)
def Pp:aor:=bif !gj a c d e b f then []else AV b f
def Pq:auv:=bif !gj a c d e b f then []else nj a b c d e f
def Pr:Bool:=allT [adZ a c d e b f,!gj a c d e b f||prD a c d e b f]
end
def Xh:aAj
 | [.one ⟨true,[.val (.string a),.ref 0,.ref 1,.ref 2,.val (.string b),.ref 3]⟩],[.row false 9 (.str) c,.row false 9 (.str) d,.row false 9 (.str) e,.row false 91 (.pair (.str) (.sl 66 (.pair (.int .i64) (.pair (.str) (.int .i64))))) f]=>some ⟨.tup [⟨true,[aAk (Pl a b c d e f),aAk (Pm a b c d e f),aAk (Pn a b c d e f),.ref 4,.ref 5]⟩,⟨false,[aAk (Po a b c d e f)]⟩],[aAn c,aAn d,aAn e,aAt f],[aAv (Pp a b c d e f),aAy (Pq a b c d e f)],[Pr a b c d e f]⟩
 |_,_=>none
def ag2:PF prog:=PF.ofG prog (T3z [nr,VQ]) [] aU 8 f8 func8 (fun c _=>LOk.nil c) Xh (by
 intro _ _ _ h;unfold Xh at h;split at h<;>cases h;kernel_rfl)
abbrev ru:=Int×List (Int×(aAi×Int))×List (Int×(aAi×Int))
section
variable (a:Int)(b c:aor)
def Hi:Int×aAi×Int:=k8 b[j9 a]? ((0:Int),ByteArray.empty,(0:Int))
def Hj:Int×aAi×Int:=k8 c[j9 a]? ((0:Int),ByteArray.empty,(0:Int))
def Ih:Bool:=ltI a (↑b.length:Int)
def QX:Bool:=leI 0 a
def YP:Bool:=ltN a.toNat b.length
def YQ:Bool:=ltI a (↑c.length:Int)
def YR:Bool:=ltN a.toNat c.length
def YS:Bool:= !bif (Hi a b).1==(Hj a c).1then bif ((Hi a b).2).1==((Hj a c).2).1then bif (Hi a b).2.2==(Hj a c).2.2then true else false else false else false
def YT:Int:=k9 .i64 (a + (1:Int))
end
def agw:ru→List (Nat×SV)
 |(a,_,_)=> [(5,(aAm a)),(0,(aAl (.ref 0))),(1,(aAl (.ref 1)))]
def ago:ru→List (Nat×Entry)
 |(_,a,b)=> [(0,(aAp a)),(1,(aAp b))]
def agM:Nat→ru→List (Nat×SV)
 |0,(_,_,_)=> [(4,(aAl (.val (.bool false))))]
 |_,_=>[]
def OO:ru→LT ru
 |(a,b,c)=> .ite (Ih a b) (.need [QX a,Ih a b,YP a b,QX a,YQ a c,YR a c] (.ite (YS a b c) (.ext 0 [(0,0),(1,1)]) (.nrm ((YT a),b,c) [(0,0),(1,1)]))) (.ext 1 [(0,0),(1,1)])
def OZ(s:St):Option ru:=do
 let some ⟨none,.one ⟨false,[.val (.int .i64 a)]⟩⟩:=s.look 5|none
 let some ⟨none,.one ⟨false,[.ref 0]⟩⟩:=s.look 0|none
 let some ⟨none,.one ⟨false,[.ref 1]⟩⟩:=s.look 1|none
 let some (.row false 66 (.pair (.int .i64) (.pair .str (.int .i64))) b):=s.ent 0|none
 let some (.row false 66 (.pair (.int .i64) (.pair .str (.int .i64))) c):=s.ent 1|none
 some (a,b,c)
def fW:Lp ru where
 h:=⟨[11,12,13,14,17,18,19,20,21,22,23,24,25,4,15,16,5],[0,1],[],[]⟩
 JL:=agw
 JE:=ago
 XL:=agM
 XE:=fun _=>ago
 q:=fun j=>match j with | 0=> .ret | _=> .exit 0
 tags:= [0,1]
 lt:=OO
 fuel:=fun(a,b,c)=>a.natAbs + b.length + c.length
 fix:=fun(_,b,c) (a,_,_)=>(a,b,c)
 σ:= [(0,0),(1,1)]
 rd:=OZ
theorem aez:LoopOk prog (fun k=>Nat.blt k Tryz.f25.ntmps) fW.F (bc f25 0):=by
 refine Lp.ok (tbl:= []) (lf:= []) aU fW (by kernel_rfl) (LOk.nil _) (fun _=>rfl) (fun j _=>by unfold fW;match j with | 0=>rfl | _ + 1=>rfl) ?_ ?_ ?_ ?_ (fun _=>rfl) ?_
 ·intro _;kernel_rfl
 ·intro _;kernel_rfl
 ·intro s x h
  have h:OZ s=some x:=h
  unfold OZ at h
  repeat' split at h
  all_goals cases h
  constructor<;>repeat(first|refine ab ‹_› rfl ?_|refine aa rfl ‹_› rfl ?_|rfl)
 ·intro _;kernel_rfl
 ·intro _ _;exact(And.intro (And.intro trivial rfl) trivial)
section
variable (a b:aoQ)
def MX:Bool:=(↑a.length:Int)!=(↑b.length:Int)
def Ue:Int×aoQ×aoQ:=((0:Int),a,b)
def PW:Bool:=bif MX a b then false else bif Nat.beq ((Lp.res fW (Ue a b)).1) 0 then false else true
def PX:Bool:=allT [MX a b||Lp.fin fW (Ue a b)]
end
def acs:aAj
 | [.one ⟨false,[.ref 0]⟩,.one ⟨false,[.ref 1]⟩],[.row false 66 (.pair (.int .i64) (.pair (.str) (.int .i64))) a,.row false 66 (.pair (.int .i64) (.pair (.str) (.int .i64))) b]=>some ⟨aAl (.val (.bool (PW a b))),[aAp a,aAp b],[],[PX a b]⟩
 |_,_=>none
def Ek:PF prog:=PF.ofG prog [] [fW.F] aU 25 f25 func25 (LOk.fnT (l:= [bc f25 0]) (by kernel_rfl) (.cons aez (.nil _))) acs (by
 intro _ _ _ h;unfold acs at h;split at h<;>cases h;kernel_rfl)
abbrev rt:=Int×Int×Int×Int×Int×Int×Int×List (Int×(aAi×Int))×List (Int×Int)×List (Int×(aAi×Int))×List (Int×Int)
section
variable (a:Int)(b c:auv)
def OE:Int×Int:=k8 b[j9 a]? ((0:Int),(0:Int))
def OG:Int×Int:=k8 c[j9 a]? ((0:Int),(0:Int))
def Ig:Bool:=ltI a (↑b.length:Int)
def QU:Bool:=leI 0 a
def YK:Bool:=ltN a.toNat b.length
def YL:Bool:=ltI a (↑c.length:Int)
def YM:Bool:=ltN a.toNat c.length
def YN:Bool:= !bif (OE a b).1==(OG a c).1then bif (OE a b).2==(OG a c).2then true else false else false
def YO:Int:=k9 .i64 (a + (1:Int))
end
def agv:rt→List (Nat×SV)
 |(a,_,_,_,_,_,_,_,_,_,_)=> [(5,(aAm a)),(2,(aAl (.ptr 0 0))),(3,(aAl (.ptr 1 0)))]
def agn:rt→List (Nat×Entry)
 |(_,a,b,c,d,e,f,g,i,j,k)=> [(0,(.box 39 [aAk a,aAk b,aAk c,.ref 2,.ref 3])),(1,(.box 39 [aAk d,aAk e,aAk f,.ref 4,.ref 5])),(2,(aAp g)),(3,(aAx i)),(4,(aAp j)),(5,(aAx k))]
def agL:Nat→rt→List (Nat×SV)
 |0,(_,_,_,_,_,_,_,_,_,_,_)=> [(4,(aAl (.val (.bool false))))]
 |_,_=>[]
def ON:rt→LT rt
 |(a,b,c,d,e,f,g,i,j,k,l)=> .ite (Ig a j) (.need [QU a,Ig a j,YK a j,QU a,YL a l,YM a l] (.ite (YN a j l) (.ext 0 [(0,0),(1,1),(2,2),(3,3),(4,4),(5,5)]) (.nrm ((YO a),b,c,d,e,f,g,i,j,k,l) [(0,0),(1,1),(2,2),(3,3),(4,4),(5,5)]))) (.ext 1 [(0,0),(1,1),(2,2),(3,3),(4,4),(5,5)])
def OY(s:St):Option rt:=do
 let some ⟨none,.one ⟨false,[.val (.int .i64 a)]⟩⟩:=s.look 5|none
 let some ⟨none,.one ⟨false,[.ptr 320 0]⟩⟩:=s.look 2|none
 let some ⟨none,.one ⟨false,[.ptr 384 0]⟩⟩:=s.look 3|none
 let some (.box 39 [.val (.int .i64 b),.val (.int .i64 c),.val (.int .i64 d),.ref 0,.ref 1]):=s.ent 320|none
 let some (.box 39 [.val (.int .i64 e),.val (.int .i64 f),.val (.int .i64 g),.ref 2,.ref 3]):=s.ent 384|none
 let some (.row false 66 (.pair (.int .i64) (.pair .str (.int .i64))) i):=s.ent 0|none
 let some (.row false 60 (.pair (.int .i64) (.int .i64)) j):=s.ent 1|none
 let some (.row false 66 (.pair (.int .i64) (.pair .str (.int .i64))) k):=s.ent 2|none
 let some (.row false 60 (.pair (.int .i64) (.int .i64)) l):=s.ent 3|none
 some (a,b,c,d,e,f,g,i,j,k,l)
def fV:Lp rt where
 h:=⟨[42,43,44,45,46,49,50,51,52,53,54,55,56,57,58,59,4,47,48,5],[0,1,2,3,4,5],[],[]⟩
 JL:=agv
 JE:=agn
 XL:=agL
 XE:=fun _=>agn
 q:=fun j=>match j with | 0=> .ret | _=> .exit 0
 tags:= [0,1]
 lt:=ON
 fuel:=fun(a,b,c,d,e,f,g,i,k,l,m)=>a.natAbs + b.natAbs + c.natAbs + d.natAbs + e.natAbs + f.natAbs + g.natAbs + i.length + k.length + l.length + m.length
 fix:=fun(_,b,c,d,e,f,g,i,k,l,m) (a,_,_,_,_,_,_,_,_,_,_)=>(a,b,c,d,e,f,g,i,k,l,m)
 σ:= [(0,320),(1,384),(2,0),(3,1),(4,2),(5,3)]
 rd:=OY
theorem aey:LoopOk prog (fun k=>Nat.blt k Tryz.f9.ntmps) fV.F (bc f9 0):=by
 refine Lp.ok (tbl:= (T3z [Ek])) (lf:= []) aU fV (by kernel_rfl) (LOk.nil _) (fun _=>rfl) (fun j _=>by unfold fV;match j with | 0=>rfl | _ + 1=>rfl) ?_ ?_ ?_ ?_ (fun _=>rfl) ?_
 ·intro _;kernel_rfl
 ·intro _;kernel_rfl
 ·intro s x h
  have h:OY s=some x:=h
  unfold OY at h
  repeat' split at h
  all_goals cases h
  constructor<;>repeat(first|refine ab ‹_› rfl ?_|refine aa rfl ‹_› rfl ?_|rfl)
 ·intro _;kernel_rfl
 ·intro _ _;exact(And.intro (And.intro trivial rfl) trivial)
section
variable (a b c d e f:Int)(g:aoQ)(i:auv)(j:aoQ)(k:auv)
def MV:Bool:=bif bif a !=d then true else b !=e then true else c !=f
def MW:Bool:=bif bif MV a b c d e f then true else !PW g j then true else(↑i.length:Int)!=(↑k.length:Int)
def Ud:Int×Int×Int×Int×Int×Int×Int×aoQ×auv×aoQ×auv:=((0:Int),a,b,c,d,e,f,g,i,j,k)
def PU:Bool:=bif MW a b c d e f g i j k then false else bif Nat.beq ((Lp.res fV (Ud a b c d e f g i j k)).1) 0 then false else true
def PV:Bool:=allT [!(!MV a b c d e f&&true)||PX g j,MW a b c d e f g i j k||Lp.fin fV (Ud a b c d e f g i j k)]
end
def acr:aAj
 | [.one ⟨true,[.val (.int .i64 a),.val (.int .i64 b),.val (.int .i64 c),.ref 0,.ref 1]⟩,.one ⟨true,[.val (.int .i64 d),.val (.int .i64 e),.val (.int .i64 f),.ref 2,.ref 3]⟩],[.row false 66 (.pair (.int .i64) (.pair (.str) (.int .i64))) g,.row false 60 (.pair (.int .i64) (.int .i64)) i,.row false 66 (.pair (.int .i64) (.pair (.str) (.int .i64))) j,.row false 60 (.pair (.int .i64) (.int .i64)) k]=>some ⟨aAl (.val (.bool (PU a b c d e f g i j k))),[aAp g,aAx i,aAp j,aAx k],[],[PV a b c d e f g i j k]⟩
 |_,_=>none
def VV:PF prog:=PF.ofG prog (T3z [Ek]) [fV.F] aU 9 f9 func9 (LOk.fnT (l:= [bc f9 0]) (by kernel_rfl) (.cons aey (.nil _))) acr (by
 intro _ _ _ h;unfold acr at h;split at h<;>cases h;kernel_rfl)
theorem azp(a b:aAi)(c d e:List aAi)(f:List LN)(hp:prD a c d e b f=true):
  Pl a b c d e f=cpI a c d e b f∧Pm a b c d e f=cpV a c d e b f∧Pn a b c d e f=cpO a c d e b f∧Po a b c d e f=cpC a c d e b f∧
  Pp a b c d e f=cpB a c d e b f∧Pq a b c d e f=cpL a c d e b f∧Pr a b c d e f=true:=by
 have ho:=asr hp
 simp only [Pl,Pm,Pn,Po,Pp,Pq,Pr,cpI,cpV,cpO,cpC,cpB,cpL,ho,hp,allT]
 cases hS:gj a c d e b f with
 |false=>exact⟨rfl,rfl,rfl,rfl,rfl,rfl,rfl⟩
 |true=>
  obtain⟨v0,v1,v2,v3,v4⟩:=ayj a b c d e f hp hS
  rw [v0,v1,v2,v3,v4]
  exact⟨rfl,rfl,rfl,rfl,rfl,rfl,rfl⟩
def Xj:aAj
 | [.one ⟨true,[.val (.string a),.ref 0,.ref 1,.ref 2,.val (.string b),.ref 3]⟩],[.row false 9 (.str) c,.row false 9 (.str) d,.row false 9 (.str) e,.row false 91 (.pair (.str) (.sl 66 (.pair (.int .i64) (.pair (.str) (.int .i64))))) f]=>some ⟨.tup [⟨true,[aAk (cpI a c d e b f),aAk (cpV a c d e b f),aAk (cpO a c d e b f),.ref 4,.ref 5]⟩,⟨false,[aAk (cpC a c d e b f)]⟩],[aAn c,aAn d,aAn e,aAt f],[aAv (cpB a c d e b f),aAy (cpL a c d e b f)],[prD a c d e b f]⟩
 |_,_=>none
def OS:PF prog:=PF.alt ag2 Xj (by
 intro args es o h cL;unfold Xj at h;split at h
 ·rename_i a b c d e f
  cases h
  have cL:=kO cL
  obtain⟨e0,e1,e2,e3,e4,e5,en⟩:=azp a b c d e f cL
  exact qm rfl (jv en) (by simp only [e0,e1,e2,e3] <;> rfl) rfl (by simp only [e4,e5] <;> rfl)
 ·cases h)
theorem axY(s:aAi):(s==s)=true:=by
 obtain⟨d⟩:=s
 show (d==d)=true
 exact beq_self_eq_true d
theorem avF(ts:List TM)(hn:ts.length≤1048576): ∀ (r k:Nat),k + r=ts.length→Pj fW.lt (r + 1) ((k:Int),ts,ts)=some (1,((ts.length:Int),ts,ts))
 |0,k,h=>by
  have e:k=ts.length:=by omega
  subst e
  exact NP _ (by
   have e0:ltI (ts.length:Int) (ts.length:Int)=false:=Ej (by omega)
   simp only [fW,OO,LT.out,Ih,e0,cond_false])
 |r + 1,k,h=>by
  have w:k9 .i64 ((k:Int) + 1)=((k + 1:Nat):Int):=by rw [wrap_i64 (by omega) (by omega)];omega
  have q0:ltI (k:Int) (ts.length:Int)=true:=dL (by omega)
  have q1:leI 0 (k:Int)=true:=bx (by omega)
  have q2:ltN k ts.length=true:=er (by omega)
  rw [Le (y:=(((k + 1:Nat):Int),ts,ts)) _ (by
   simp only [fW,OO,LT.out,Ih,QX,YP,YQ,YR,YS,YT,Hi,Hj,w,q0,q1,q2,q9,allT,beq_self_eq_true,axY,Bool.not_true,cond_true,cond_false])]
  exact avF ts hn r (k + 1) (by omega)
theorem axo(ts:List TM)(hn:ts.length≤1048576):PW ts ts=true∧PX ts ts=true:=by
 obtain⟨f1,f2⟩:=fW.run (avF ts hn ts.length 0 (by omega)) (adK (by simp only [fW];omega))
 have f1:Lp.fin fW ((0:Int),ts,ts)=true:=f1
 have f2:Lp.res fW ((0:Int),ts,ts)=(1,((ts.length:Int),ts,ts)):=f2
 have a0:MX ts ts=false:=by simp [MX]
 simp only [PW,PX,Ue,a0,f1,f2,allT]
 exact⟨rfl,rfl⟩
theorem avE(i v o:Int)(bs:List TM)(st:List IN)(hn:st.length≤1048576): ∀ (r k:Nat),k + r=st.length→Pj fV.lt (r + 1) ((k:Int),i,v,o,i,v,o,bs,st,bs,st)=some (1,((st.length:Int),i,v,o,i,v,o,bs,st,bs,st))
 |0,k,h=>by
  have e:k=st.length:=by omega
  subst e
  exact NP _ (by
   have e0:ltI (st.length:Int) (st.length:Int)=false:=Ej (by omega)
   simp only [fV,ON,LT.out,Ig,e0,cond_false])
 |r + 1,k,h=>by
  have w:k9 .i64 ((k:Int) + 1)=((k + 1:Nat):Int):=by rw [wrap_i64 (by omega) (by omega)];omega
  have q0:ltI (k:Int) (st.length:Int)=true:=dL (by omega)
  have q1:leI 0 (k:Int)=true:=bx (by omega)
  have q2:ltN k st.length=true:=er (by omega)
  rw [Le (y:=(((k + 1:Nat):Int),i,v,o,i,v,o,bs,st,bs,st)) _ (by
   simp only [fV,ON,LT.out,Ig,QU,YK,YL,YM,YN,YO,OE,OG,w,q0,q1,q2,q9,allT,beq_self_eq_true,Bool.not_true,cond_true,cond_false])]
  exact avE i v o bs st hn r (k + 1) (by omega)
theorem atp(i v o:Int)(bs:List TM)(st:List IN)(hb:bs.length≤1048576)(hn:st.length≤1048576):PU i v o i v o bs st bs st=true∧PV i v o i v o bs st bs st=true:=by
 obtain⟨f1,f2⟩:=fV.run (avE i v o bs st hn st.length 0 (by omega)) (adK (by simp only [fV];omega))
 have f1:Lp.fin fV ((0:Int),i,v,o,i,v,o,bs,st,bs,st)=true:=f1
 have f2:Lp.res fV ((0:Int),i,v,o,i,v,o,bs,st,bs,st)=(1,((st.length:Int),i,v,o,i,v,o,bs,st,bs,st)):=f2
 obtain⟨t0,t1⟩:=axo bs hb
 have a0:MV i v o i v o=false:=by simp [MV]
 have a1:MW i v o i v o bs st bs st=false:=by simp [MW,a0,t0]
 simp only [PU,PV,Ud,a1,f1,f2,t1,allT,Bool.or_true,cond_true,cond_false]
 exact⟨rfl,trivial⟩
theorem ayO(n:Nat):(zz zI n).length=n * 2:=by rw [zz_length];rfl
theorem azo(w:World)(g n cap i m vc:Nat)(sa:Option Addr)(cur:Array Value)(vs:List Value)(hg:w.heap[g]? =some (.cells cur 60 (0,0)))(hn:n≤cap)(hc:cap≤9223372036854775807)(hs:cur.size=cap * 2)(hi:i + 2≤n)
  (hm:m≤1) (hlv:vs.length=m * 2) (hsrc:0 < m→ ∃ a,sa=some a∧ ∀ j v,vs[j]? =some v→w.cell? (a.add j)=some v) (honev: ∀ v∈vs,v.oneCell'=true)
  (hone: ∀ v∈cur.toList.take (n * 2),v.oneCell'=true):
  Calls prog 66 #[.slice (some ⟨g,0,none⟩) n cap,.int .i64 i,.int .i64 ((i + 2:Nat):Int),.slice sa m vc] w fun e w'=> ∃ cur',e= .returned (.slice (some ⟨g,0,none⟩) (n - 2 + m) cap)∧Chg w w' (fun k=>k=g)∧
   w'.heap[g]? =some (.cells cur' 60 (0,0))∧cur'.size=cap * 2∧cur'.toList.take ((n - 2 + m) * 2)=(cur.toList.take (n * 2)).take (i * 2)++vs++(cur.toList.take (n * 2)).drop ((i + 2) * 2):=by
 have hcl:cur.toList.length=cap * 2:=hs
 have e0:(cur.toList.take (n * 2)).take (i * 2)=cur.toList.take (i * 2):=by rw [List.take_take,Nat.min_eq_left (by omega)]
 rw [e0]
 obtain⟨D,hD⟩: ∃ D,D=(cur.toList.take (n * 2)).drop ((i + 2) * 2):=⟨_,rfl⟩
 rw [← hD]
 have hDl:D.length=(n - (i + 2)) * 2:=by rw [hD,List.length_drop,List.length_take,hcl];omega
 have hDg: ∀ j v,D[j]? =some v→cur[(i + 2) * 2 + j]? =some v:=fun j v hj=>by
  rw [hD,List.getElem?_drop,List.getElem?_take]at hj
  split at hj
  ·rw [← Array.getElem?_toList];exact hj
  ·cases hj
 have hDo: ∀ v∈D,v.oneCell'=true:=fun v hv=>hone v (by rw [hD]at hv;exact List.mem_of_mem_drop hv)
 have hch: ∀ X,Chg w (w.setRow g X) (fun k=>k=g):=fun X=>Chg.setRow w g X
 have hch2: ∀ X,Chg w (w.drew.drew.setRow g X) (fun k=>k=g):=fun X=>⟨rfl,rfl,rfl,Nat.le_of_eq (setRow_size w.drew.drew g X).symm,fun k _ hX=>setRow_other w.drew.drew g k _ hX⟩
 have hgd:w.drew.drew.heap[g]? =some (.cells cur 60 (0,0)):=hg
 have hz:=ayO
 have hm2:m=0∨m=1:=by omega
 by_cases hend:i + 2=n
 ·have hD0:D= []:=List.length_eq_zero_iff.1 (by rw [hDl];omega)
  rw [hD0,List.append_nil]
  rcases hm2 with rfl | rfl
  ·have hv0:vs= []:=List.length_eq_zero_iff.1 (by rw [hlv])
   rw [hv0,List.append_nil]
   have s1:i * 2 + (zz zI 2).length≤cur.size:=by rw [hz];omega
   refine(rp_end_nil w g n cap i vc sa cur hg hn hc hs hend).mono ?_
   rintro e w' ⟨rfl,rfl⟩
   refine⟨layA cur (i * 2) (zz zI 2),by rw [show n - 2 + 0=i by omega],hch _,setRow_heap w g cur _ 60 _ hg,by rw [layA_size s1];exact hs,?_⟩
   rw [show n - 2 + 0=i by omega]
   exact layA_take (Nat.le_refl _) (by omega)
  ·obtain⟨a,rfl,ha⟩:=hsrc (by omega)
   have s1:i * 2 + vs.length≤cur.size:=by omega
   have s2:(i + 1) * 2 + (zz zI 1).length≤(layA cur (i * 2) vs).size:=by rw [layA_size s1,hz];omega
   refine(rp_end_one w g n cap i vc a cur vs hg hn hc hs hend hlv ha honev).mono ?_
   rintro e w' ⟨rfl,rfl⟩
   refine⟨layA (layA cur (i * 2) vs) ((i + 1) * 2) (zz zI 1),by rw [show n - 2 + 1=i + 1 by omega],hch _,setRow_heap w g cur _ 60 _ hg,by rw [layA_size s2,layA_size s1];exact hs,?_⟩
   rw [show n - 2 + 1=i + 1 by omega,layA_take (Nat.le_refl _) (by rw [layA_size s1];omega),show (i + 1) * 2=i * 2 + vs.length by omega,layA_full s1]
 ·have hlt:i + 2 < n:=by omega
  rcases hm2 with rfl | rfl
  ·have hv0:vs= []:=List.length_eq_zero_iff.1 (by rw [hlv])
   rw [hv0,List.append_nil]
   have s1:i * 2 + D.length≤cur.size:=by omega
   have s2:(n - 2) * 2 + (zz zI 2).length≤(layA cur (i * 2) D).size:=by rw [layA_size s1,hz];omega
   refine(rp_mid_nil w g n cap i vc sa cur D hg hn hc hs hlt hDl hDg hDo).mono ?_
   rintro e w' ⟨rfl,rfl⟩
   refine⟨layA (layA cur (i * 2) D) ((n - 2) * 2) (zz zI 2),rfl,hch2 _,setRow_heap _ g cur _ 60 _ hgd,by rw [layA_size s2,layA_size s1];exact hs,?_⟩
   rw [Nat.add_zero,layA_take (Nat.le_refl _) (by rw [layA_size s1];omega),show (n - 2) * 2=i * 2 + D.length by omega,layA_full s1]
  ·obtain⟨a,rfl,ha⟩:=hsrc (by omega)
   have s1:i * 2 + vs.length≤cur.size:=by omega
   have s2:(i + 1) * 2 + D.length≤(layA cur (i * 2) vs).size:=by rw [layA_size s1];omega
   have s3:(n - 1) * 2 + (zz zI 1).length≤(layA (layA cur (i * 2) vs) ((i + 1) * 2) D).size:=by rw [layA_size s2,layA_size s1,hz];omega
   refine(rp_mid_one w g n cap i vc a cur vs D hg hn hc hs hlt hlv ha honev hDl hDg hDo).mono ?_
   rintro e w' ⟨rfl,rfl⟩
   refine⟨layA (layA (layA cur (i * 2) vs) ((i + 1) * 2) D) ((n - 1) * 2) (zz zI 1),by rw [show n - 2 + 1=n - 1 by omega],hch2 _,setRow_heap _ g cur _ 60 _ hgd,by rw [layA_size s3,layA_size s2,layA_size s1];exact hs,?_⟩
   rw [show n - 2 + 1=n - 1 by omega,layA_take (Nat.le_refl _) (by rw [layA_size s2,layA_size s1];omega),show (n - 1) * 2=(i + 1) * 2 + D.length by omega,layA_full s2,show (i + 1) * 2=i * 2 + vs.length by omega,layA_full s1]
def ael:aAj
 | [.one ⟨false,[.ref 0]⟩,.one ⟨false,[.val (.int .i64 i)]⟩,.one ⟨false,[.val (.int .i64 j)]⟩,.one ⟨false,[.ref 1]⟩],[.row true 60 (.pair (.int .i64) (.int .i64)) xs,.row true 60 (.pair (.int .i64) (.int .i64)) vs]=>
  some ⟨.one ⟨false,[.ref 2]⟩,[.gone,.row true 60 (.pair (.int .i64) (.int .i64)) vs],[.row true 60 (.pair (.int .i64) (.int .i64)) (xs.take i.toNat++vs++xs.drop (i.toNat + 2))],
   [leI 0 i,j==i + 2,leI j (xs.length:Int),leN vs.length 1]⟩
 |_,_=>none
def aeI:PF prog where
 k:=66
 F:=ael
 ok:=by
  intro args es o h cL mem ρ w hp
  unfold ael at h
  split at h
  ·rename_i i j xs vs
   cases h
   have h1:=zJ.1 (cL _ (List.mem_cons_self ..))
   have h2:j=i + 2:=by simpa using cL _ (List.mem_cons_of_mem _ (List.mem_cons_self ..))
   have h3:=zJ.1 (cL _ (List.mem_cons_of_mem _ (List.mem_cons_of_mem _ (List.mem_cons_self ..))))
   have h4:=eN.1 (cL _ (List.mem_cons_of_mem _ (List.mem_cons_of_mem _ (List.mem_cons_of_mem _ (v7.2 rfl)))))
   subst h2
   obtain⟨k,rfl⟩: ∃ k:Nat,i=k:=⟨i.toNat,by omega⟩
   have hk:k + 2≤xs.length:=by omega
   obtain⟨⟨cs,o1,o2,o3⟩,hu,_⟩:=hp.he 0 _ rfl
   obtain⟨⟨ds,q1,q2,q3⟩,hu2,_⟩:=hp.he 1 _ rfl
   rcases o1.2 with⟨_,hn⟩ | ⟨g,cap,cur,hv,hc0,hg,hnc,hcm,hcur,htk⟩
   ·have:xs.length=0:=hn
    omega
   have hv:ρ 0= .slice (some ⟨g,0,none⟩) xs.length cap:=hv
   have hnc:xs.length≤cap:=hnc
   have hcur:cur.size=cap * 2:=hcur
   have htk:cur.toList.take (xs.length * 2)=cs:=htk
   have hone: ∀ v∈cur.toList.take (xs.length * 2),v.oneCell'=true:=by rw [htk];exact qu.cell_one o2
   have hdone: ∀ v∈ds,v.oneCell'=true:=qu.cell_one q2
   have hdl:ds.length=vs.length * 2:=q1.1
   obtain⟨sa,vc,hv1,hsrc⟩: ∃ sa vc,ρ 1= .slice sa vs.length vc∧(0 < vs.length→ ∃ a,sa=some a∧ ∀ j v,ds[j]? =some v→w.cell? (a.add j)=some v):=by
    rcases q1.2 with⟨hz,hn⟩ | ⟨g2,cap2,cur2,hv2,_,hg2,_,_,_,htk2⟩
    ·have hn:vs.length=0:=hn
     rw [hn]
     rcases hz with hz | ⟨a,hz⟩
     ·exact⟨none,0,hz,fun h=>absurd h (by omega)⟩
     ·exact⟨some a,0,hz,fun h=>absurd h (by omega)⟩
    ·refine⟨some ⟨g2,0,none⟩,cap2,hv2,fun _=>⟨_,rfl,fun j v hj=> ?_⟩⟩
     have htk2:cur2.toList.take (vs.length * 2)=ds:=htk2
     rw [Addr.add_lit,cell_of hg2,Nat.zero_add,← Array.getElem?_toList]
     rw [← htk2,List.getElem?_take]at hj
     split at hj
     ·exact hj
     ·cases hj
   have harg:([SV.one ⟨false,[.ref 0]⟩,.one ⟨false,[.val (.int .i64 (k:Int))]⟩,.one ⟨false,[.val (.int .i64 ((k:Int) + 2))]⟩,.one ⟨false,[.ref 1]⟩].map (SV.conc ρ)).toArray=
     #[.slice (some ⟨g,0,none⟩) xs.length cap,.int .i64 k,.int .i64 ((k + 2:Nat):Int),.slice sa vs.length vc]:=by
    simp [SV.conc,V1.conc,Cell.conc,hv,hv1]
   rw [harg]
   refine(azo w g xs.length cap k vs.length vc sa cur ds hg hnc hcm hcur hk h4 hdl hsrc hdone hone).mono ?_
   rintro e w' ⟨cur',he,hch,hg',hs',ht'⟩
   rw [htk]at ht'
   have hL:(xs.take k++vs++xs.drop (k + 2)).length=xs.length - 2 + vs.length:=by
    simp only [j6,List.length_take,List.length_drop];omega
   have zK:qu ρ.mem (.pair (.int .i64) (.int .i64)) (cs.take (k * 2)++ds++cs.drop ((k + 2) * 2)) (xs.take k++vs++xs.drop (k + 2)):=
    qu.append (qu.append (qu.take o2 (by omega)) q2) (qu.drop o2 (by omega))
   have hcl:cs.length=xs.length * 2:=o1.1
   have xG:Mh w' 60 (CTy.pair (.int .i64) (.int .i64)).size (.slice (some ⟨g,0,none⟩) (xs.length - 2 + vs.length) cap) (xs.take k++vs++xs.drop (k + 2)).length (cs.take (k * 2)++ds++cs.drop ((k + 2) * 2)):=by
    refine⟨zK.1,.inr ⟨g,cap,cur',by rw [hL],hc0,hg',by rw [hL];omega,hcm,hs',?_⟩⟩
    show cur'.toList.take ((xs.take k++vs++xs.drop (k + 2)).length * 2)=_
    rw [hL,ht']
   obtain⟨hX,hH⟩:=Hp.rowTo (nid:=2) hp (id:=0) (xs:=xs) rfl rfl (w':=w') ⟨hch.os,hch.tape,hch.output,hch.size,fun b hb hnb=>hch.block b hb (fun e=>hnb (by rw [hv,uu hc0,e];simp))⟩ xG zK
    (fun b hb=> .inr (by rw [uu hc0]at hb;rw [hv,uu hc0];exact hb))
   refine⟨upd ρ 2 (.slice (some ⟨g,0,none⟩) (xs.length - 2 + vs.length) cap),hX,by rw [he];rfl,rfl,(by intro v hv';rw [v7.1 hv'];rfl),?_⟩
   unfold HpL
   have hU: ∀ id,dp (fun i=>Nat.blt i [Entry.row true 60 (CTy.pair (.int .i64) (.int .i64)) xs,.row true 60 (.pair (.int .i64) (.int .i64)) vs].length) [2] id=true→Nat.blt id 3=true:=fun id h=>by
    match id with
    |0=>rfl
    |1=>rfl
    |2=>rfl
    |id + 3=>exact absurd h (by simp [dp,memN,Nat.blt])
   refine Hp.less (ent1:=bS (fun i=> [Entry.row true 60 (CTy.pair (.int .i64) (.int .i64)) xs,.row true 60 (.pair (.int .i64) (.int .i64)) vs][i]?) [(2,.row true 60 (.pair (.int .i64) (.int .i64)) (xs.take k++vs++xs.drop (k + 2))),(0,.gone)]) ⟨fun id en hen=> ?_,hH.hi,hH.hf⟩ fun id e2 he2=> ?_
   ·obtain⟨a1,a2,a3⟩:=hH.he id en hen
    exact⟨a1,hU id a2,Entry.inU_mono (fun i hi=>hU i hi) a3⟩
   ·match id with
    |0=>cases he2;exact⟨.gone,rfl,trivial,fun _ h=>h,trivial⟩
    |1=>cases he2;exact⟨_,rfl,(hH.he 1 _ rfl).1,fun _ h=>h,trivial⟩
    |2=>cases he2;exact⟨_,rfl,(hH.he 2 _ rfl).1,fun _ h=>h,trivial⟩
    |id + 3=>cases he2
  ·cases h
def Dd(a:aoQ):Bool:=allT [ltN 0 a.length,false||leN (0 + k7 a) 9223372036854775807,false||leN ((0 + k7 a) * 32) 140737488355328]
def Tj:aAj
 | [.one ⟨false,[.ref 0]⟩],[.row false 66 (.pair (.int .i64) (.pair (.str) (.int .i64))) a]=>some ⟨aAl (.ref 1),[aAp a],[aAv a],[Dd a]⟩
 |_,_=>none
def adW:PF prog:=PF.ofG prog [] [] aU 29 f29 func29 (fun c _=>LOk.nil c) Tj (by
 intro _ _ _ h;unfold Tj at h;split at h<;>cases h;kernel_rfl)
def uq(a:auv):Bool:=allT [ltN 0 a.length,false||leN (0 + k7 a) 9223372036854775807,false||leN ((0 + k7 a) * 16) 140737488355328]
def JD:aAj
 | [.one ⟨false,[.ref 0]⟩],[.row false 60 (.pair (.int .i64) (.int .i64)) a]=>some ⟨aAl (.ref 1),[aAx a],[aAy a],[uq a]⟩
 |_,_=>none
def Xd:PF prog:=PF.ofG prog [] [] aU 30 f30 func30 (fun c _=>LOk.nil c) JD (by
 intro _ _ _ h;unfold JD at h;split at h<;>cases h;kernel_rfl)
section
variable (a b c:Int)
def VI:Bool:=bif a==1 then c==4 else false
def VJ:Bool:=bif a==4 then c==4 else false
def VK:Bool:=bif bif a==1 then bif b==1 then true else false else false then c==5 else false
def VL:Bool:=bif VJ a c then VJ a c else bif VK a b c then VK a b c else bif bif a==1 then bif b==0 then true else false else false then c==6 else false
def RR:Bool:=bif VI a c then true else bif VL a b c then true else false
def RS:auv:=bif VI a c then [((1:Int),k9 .i64 ((1:Int) - b))]else bif VL a b c then []else []
end
def aea:aAj
 | [.one ⟨true,[.val (.int .i64 a),.val (.int .i64 b)]⟩,.one ⟨true,[.val (.int .i64 c),.val (.int .i64 d)]⟩],[]=>some ⟨.tup [⟨false,[.ref 0]⟩,⟨false,[.val (.bool (RR a b c))]⟩],[],[aAy (RS a b c)],[]⟩
 |_,_=>none
def aeN:PF prog:=PF.ofG prog [] [] aU 65 f65 func65 (fun c _=>LOk.nil c) aea (by
 intro _ _ _ h;unfold aea at h;split at h<;>cases h;kernel_rfl)
theorem av8(xs:aoQ)(h:(leN 1 xs.length&&leN xs.length 1048576)=true):Dd xs=true:=by
 simp only [q8,eN]at h
 simp [Dd,allT]
 omega
def alS:aAj
 | [.one ⟨false,[.val (.slice none 0 0)]⟩],[]=>some ⟨aAl (.ref 0),[],[aAF []],[true]⟩
 |_,_=>none
def asq:PF prog:=PF.ofG prog [PF.raw prog] [] aU 29 f29 func29 (fun c _=>LOk.nil c) alS (by
 intro _ _ _ h;unfold alS at h;split at h<;>cases h;kernel_rfl)
def alR:aAj
 | [.one ⟨false,[.val (.slice (some _) 0 _)]⟩],[]=>some ⟨aAl (.ref 0),[],[aAF []],[true]⟩
 |_,_=>none
def asp:PF prog:=PF.ofG prog [] [] aU 29 f29 func29 (fun c _=>LOk.nil c) alR (by
 intro _ _ _ h;unfold alR at h;split at h<;>cases h;kernel_rfl)
def Tl:aAj
 | [.one ⟨false,[.ref 0]⟩],[.row false 66 (.pair (.int .i64) (.pair (.str) (.int .i64))) a]=>some ⟨aAl (.ref 1),[.row false 66 (.pair (.int .i64) (.pair (.str) (.int .i64))) a],[aAF a],[leN a.length 1048576]⟩
 |_,_=>none
def sI:PF prog where
 k:=29
 F:=Tl
 ok:=by
  intro args es o h cL mem ρ w hp
  unfold Tl at h
  split at h
  ·rename_i a
   cases h
   have hl:=cL _ (v7.2 rfl)
   cases a with
   |nil=>
    exact(arP asq asp rfl rfl rfl (fun _ _=>rfl) (by simp) (by simp) hp).mono fun en w' ⟨ρ',h1,h2,h3⟩=>⟨ρ',h1,h2,rfl,(by intro v hv;rw [v7.1 hv];rfl),h3⟩
   |cons x xs=>exact adW.ok _ _ ⟨_,_,_,[Dd (x::xs)]⟩ rfl (fun b hb=>by rw [v7.1 hb];exact av8 (x::xs) ((q8 _ _).mpr ⟨aY (Nat.succ_pos _),hl⟩)) mem ρ w hp
  ·cases h
theorem av7(xs:auv)(h:(leN 1 xs.length&&leN xs.length 1048576)=true):uq xs=true:=by
 simp only [q8,eN]at h
 simp [uq,allT]
 omega
def alQ:aAj
 | [.one ⟨false,[.val (.slice none 0 0)]⟩],[]=>some ⟨aAl (.ref 0),[],[aAE []],[true]⟩
 |_,_=>none
def aso:PF prog:=PF.ofG prog [PF.raw prog] [] aU 30 f30 func30 (fun c _=>LOk.nil c) alQ (by
 intro _ _ _ h;unfold alQ at h;split at h<;>cases h;kernel_rfl)
def alP:aAj
 | [.one ⟨false,[.val (.slice (some _) 0 _)]⟩],[]=>some ⟨aAl (.ref 0),[],[aAE []],[true]⟩
 |_,_=>none
def asn:PF prog:=PF.ofG prog [] [] aU 30 f30 func30 (fun c _=>LOk.nil c) alP (by
 intro _ _ _ h;unfold alP at h;split at h<;>cases h;kernel_rfl)
def JG:aAj
 | [.one ⟨false,[.ref 0]⟩],[.row false 60 (.pair (.int .i64) (.int .i64)) a]=>some ⟨aAl (.ref 1),[.row false 60 (.pair (.int .i64) (.int .i64)) a],[aAE a],[leN a.length 1048576]⟩
 |_,_=>none
def mb:PF prog where
 k:=30
 F:=JG
 ok:=by
  intro args es o h cL mem ρ w hp
  unfold JG at h
  split at h
  ·rename_i a
   cases h
   have hl:=cL _ (v7.2 rfl)
   cases a with
   |nil=>
    exact(arP aso asn rfl rfl rfl (fun _ _=>rfl) (by simp) (by simp) hp).mono fun en w' ⟨ρ',h1,h2,h3⟩=>⟨ρ',h1,h2,rfl,(by intro v hv;rw [v7.1 hv];rfl),h3⟩
   |cons x xs=>exact Xd.ok _ _ ⟨_,_,_,[uq (x::xs)]⟩ rfl (fun b hb=>by rw [v7.1 hb];exact av7 (x::xs) ((q8 _ _).mpr ⟨aY (Nat.succ_pos _),hl⟩)) mem ρ w hp
  ·cases h
abbrev nA:=Int×List (Int×Int)
section
variable (a:Int)(b:auv)
def md:Int:=k9 .i64 (a + (1:Int))
def rF:Int×Int:=k8 b[j9 a]? ((0:Int),(0:Int))
def Ag:Int:=(k8 b[j9 (md a)]? ((0:Int),(0:Int))).1
def rG:Bool:=RR ((rF a b).1) ((rF a b).2) (Ag a b)
def Ah:Int:=a + (2:Int)
def Ai:auv:=RS ((rF a b).1) ((rF a b).2) (Ag a b)
def BJ:Bool:=ltI (md a) (↑b.length:Int)
def Ov:Bool:=leI 0 a
def Ow:Bool:=ltI a (↑b.length:Int)
def Ox:Bool:=ltN a.toNat b.length
def Oy:Bool:=leI 0 (md a)
def Oz:Bool:=ltN (j9 (md a)) b.length
def OA:Bool:= !rG a b||leI 0 a
def OB:Bool:= !rG a b||k9 .i64 (Ah a)==Ah a
def OC:Bool:= !rG a b||leI (k9 .i64 (Ah a)) (↑b.length:Int)
def OD:Bool:= !rG a b||leN (k7 (Ai a b)) 1
def ML:Bool:=rG a b
def Fg:auv:=List.take a.toNat b++Ai a b++List.drop (j9 a + 2) b
def VM:Int:=md a
end
def ae4:nA→List (Nat×SV)
 |(a,_)=> [(4,(aAm a)),(0,(aAl (.ref 0)))]
def aeY:nA→List (Nat×Entry)
 |(_,a)=> [(0,(aAy a))]
def afg:Nat→nA→List (Nat×SV)
 |0,(_,_)=> [(2,(aAl (.ref 1))),(3,(aAl (.val (.bool true))))]
 |_,_=>[]
def afa:Nat→nA→List (Nat×Entry)
 |0,(a,b)=> [(0,.gone),(1,(aAy (Fg a b)))]
 |_,(_,b)=> [(0,(aAy b))]
def Fi:nA→LT nA
 |(a,b)=> .ite (BJ a b) (.need [Ov a,Ow a b,Ox a b,Oy a,BJ a b,Oz a b] (.need [OA a b,OB a b,OC a b,OD a b] (.ite (ML a b) (.ext 0 [(0,0),(1,1728)]) (.nrm ((VM a),b) [(0,0)])))) (.ext 1 [(0,0)])
def Nf(s:St):Option nA:=do
 let some ⟨none,.one ⟨false,[.val (.int .i64 a)]⟩⟩:=s.look 4|none
 let some ⟨none,.one ⟨false,[.ref 0]⟩⟩:=s.look 0|none
 let some (.row true 60 (.pair (.int .i64) (.int .i64)) b):=s.ent 0|none
 some (a,b)
def dB:Lp nA where
 h:=⟨[7,8,9,10,11,15,16,17,18,19,20,21,22,23,24,14,25,26,5,6,27,28,29,30,31,32,33,2,3,12,13,4],[0],[],[1]⟩
 JL:=ae4
 JE:=aeY
 XL:=afg
 XE:=afa
 q:=fun j=>match j with | 0=> .ret | _=> .exit 0
 tags:= [0,1]
 lt:=Fi
 fuel:=fun(a,b)=>a.natAbs + b.length
 fix:=fun(_,b) (a,_)=>(a,b)
 σ:= [(0,0)]
 rd:=Nf
theorem adN:LoopOk prog (fun k=>Nat.blt k Tryz.f31.ntmps) dB.F (bc f31 0):=by
 refine Lp.ok (tbl:= [aeN,aeI]) (lf:= []) aU dB (by kernel_rfl) (LOk.nil _) (fun _=>rfl) (fun j _=>by unfold dB;match j with | 0=>rfl | _ + 1=>rfl) ?_ ?_ ?_ ?_ (fun _=>rfl) ?_
 ·intro _;kernel_rfl
 ·intro _;kernel_rfl
 ·intro s x h
  have h:Nf s=some x:=h
  unfold Nf at h
  repeat' split at h
  all_goals cases h
  constructor<;>repeat(first|refine ab ‹_› rfl ?_|refine aa rfl ‹_› rfl ?_|rfl)
 ·intro _;kernel_rfl
 ·intro _ _;exact(And.intro (And.intro trivial rfl) trivial)
section
variable (a:auv)
def SH:Bool:=Nat.beq ((Lp.res dB ((0:Int),a)).1) 0
def TZ:Bool:=bif SH a then true else false
def Ua:auv:=bif SH a then Fg (((Lp.res dB ((0:Int),a)).2).1) a else a
def Ub:Bool:=allT [Lp.fin dB ((0:Int),a)]
end
def aay:aAj
 | [.one ⟨false,[.ref 0]⟩],[.row true 60 (.pair (.int .i64) (.int .i64)) a]=>some ⟨.tup [⟨false,[.ref 1]⟩,⟨false,[.val (.bool (TZ a))]⟩],[.gone],[aAy (Ua a)],[Ub a]⟩
 |_,_=>none
def akX:PF prog:=PF.ofG prog [aeN,aeI] [dB.F] aU 31 f31 func31 (LOk.fnT (l:= [bc f31 0]) (by kernel_rfl) (.cons adN (.nil _))) aay (by
 intro _ _ _ h;unfold aay at h;split at h<;>cases h;kernel_rfl)
def ajq(x y:IN):Option (List IN):=bif x.1==1&&y.1==4 then some [(1,k9 .i64 (1 - x.2))]else bif(x.1==4&&y.1==4)||((x.1==1&&(x.2==1&&y.1==5))||(x.1==1&&(x.2==0&&y.1==6)))then some []else none
def Tn:List IN→Option (List IN)
 |x::y::r=>match ajq x y with
  |some v=>some (v++r)
  |none=>(Tn (y::r)).map (x:: ·)
 |_=>none
def Xl:Nat→List IN→List IN
 |0,st=>st
 |n + 1,st=>match Tn st with
  |some st'=>Xl n st'
  |none=>st
theorem acE: ∀ {st st':List IN},Tn st=some st'→ ∃ pre x y v post,st=pre++(x::y::post)∧ajq x y=some v∧st'=pre++(v++post)
 |x::y::r,st',h=>by
  simp only [Tn]at h
  cases hv:ajq x y with
  |some v=>rw [hv]at h;exact⟨[],x,y,v,r,rfl,hv,(Option.some.inj h).symm⟩
  |none=>
   rw [hv]at h
   cases ho:Tn (y::r)with
   |none=>rw [ho]at h;cases h
   |some s=>
    rw [ho]at h
    obtain⟨pre,a,b,v,post,h1,h2,h3⟩:=acE ho
    exact⟨x::pre,a,b,v,post,by rw [h1];rfl,h2,by rw [← Option.some.inj h,h3];rfl⟩
 | [_],_,h=>by cases h
 | [],_,h=>by cases h
theorem amm{x y:IN}{v:List IN}(h:ajq x y=some v):(x.1=1∧y.1=4∧v= [(1,k9 .i64 (1 - x.2))])∨(x.1=4∧y.1=4∧v= [])∨(x.1=1∧x.2=1∧y.1=5∧v= [])∨(x.1=1∧x.2=0∧y.1=6∧v= []):=by
 simp only [ajq]at h
 cases h1:(x.1==1&&y.1==4)with
 |true=>
  rw [h1,cond_true]at h
  simp only [q8,beq_iff_eq]at h1
  exact .inl ⟨h1.1,h1.2,(Option.some.inj h).symm⟩
 |false=>
  rw [h1,cond_false]at h
  cases h2:((x.1==4&&y.1==4)||((x.1==1&&(x.2==1&&y.1==5))||(x.1==1&&(x.2==0&&y.1==6))))with
  |false=>rw [h2]at h;cases h
  |true=>
   rw [h2,cond_true]at h
   have hv:=(Option.some.inj h).symm
   simp only [Bool.or_eq_true,q8,beq_iff_eq]at h2
   rcases h2 with⟨a,b⟩ | ⟨a,b,c⟩ | ⟨a,b,c⟩
   ·exact .inr (.inl ⟨a,b,hv⟩)
   ·exact .inr (.inr (.inl ⟨a,b,c,hv⟩))
   ·exact .inr (.inr (.inr ⟨a,b,c,hv⟩))
theorem auy{st st':List IN}(h:Tn st=some st'):st'.length < st.length:=by
 obtain⟨pre,x,y,v,post,rfl,h2,rfl⟩:=acE h
 have hv:v.length≤1:=by rcases amm h2 with⟨_,_,rfl⟩ | ⟨_,_,rfl⟩ | ⟨_,_,_,rfl⟩ | ⟨_,_,_,rfl⟩ <;> simp
 simp only [j6,j7];omega
theorem azF(a b c d:Int):RR a b c=(ajq (a,b) (c,d)).isSome∧RS a b c=(ajq (a,b) (c,d)).getD []:=by
 simp only [RR,RS,VI,VJ,VK,VL,ajq]
 cases a==1 <;> cases c==4 <;> cases a==4 <;> cases b==1 <;> cases c==5 <;> cases b==0 <;> cases c==6 <;> exact⟨rfl,rfl⟩
theorem axe{x y:IN}:((ajq x y).getD []).length≤1:=by
 cases h:ajq x y with
 |none=>simp
 |some v=>rcases amm h with⟨_,_,rfl⟩ | ⟨_,_,rfl⟩ | ⟨_,_,_,rfl⟩ | ⟨_,_,_,rfl⟩ <;> simp
theorem axg(st:List IN)(hn:st.length≤1048576)(k:Nat)(hk:st.length≤k + 1)(hk2:k≤st.length):Pj dB.lt (0 + 1) ((k:Int),st)=some (1,((k:Int),st)):=
 NP _ (by
  have w:k9 .i64 ((k:Int) + 1)=(k:Int) + 1:=wrap_i64 (by omega) (by omega)
  have e0:ltI ((k:Int) + 1) (st.length:Int)=false:=Ej (by omega)
  simp only [dB,Fi,LT.out,BJ,md,w,e0,cond_false])
theorem axh(st:List IN)(hn:st.length≤1048576): ∀ (r:List IN) (k:Nat),k≤st.length→st.drop k=r→ ∃ (m:Nat) (z:Nat×nA),m≤r.length∧Pj dB.lt (m + 1) ((k:Int),st)=some z∧z.2.2=st∧
  (match Tn r with | some r'=>z.1=0∧Fg z.2.1 st=st.take k++r' | none=>z.1=1)
 | [],k,hk,hd=>⟨0,_,Nat.zero_le _,axg st hn k (by have:=congrArg k7 hd;simp at this;omega) hk,rfl,rfl⟩
 | [x],k,hk,hd=>⟨0,_,Nat.zero_le _,axg st hn k (by have:=congrArg k7 hd;simp at this;omega) hk,rfl,rfl⟩
 |x::y::r,k,hk,hd=>by
  have hl:=congrArg k7 hd
  simp only [List.length_drop,j7]at hl
  have g0:st[k]? =some x:=by
   have:(st.drop k)[0]? =some x:=by rw [hd];rfl
   rw [List.getElem?_drop]at this;simpa using this
  have g1:st[k + 1]? =some y:=by
   have:(st.drop k)[1]? =some y:=by rw [hd];rfl
   rw [List.getElem?_drop]at this;simpa using this
  have d1:st.drop (k + 1)=y::r:=by rw [← List.drop_drop,hd];rfl
  have d2:st.drop (k + 2)=r:=by rw [← List.drop_drop,hd];rfl
  have t1:st.take (k + 1)=st.take k++ [x]:=by
   have hlt:k < st.length:=by omega
   have hx:st[k]=x:=by rw [List.getElem?_eq_getElem hlt]at g0;exact Option.some.inj g0
   rw [List.take_succ_eq_append_getElem hlt,hx]
  have w:k9 .i64 ((k:Int) + 1)=((k + 1:Nat):Int):=by rw [wrap_i64 (by omega) (by omega)];omega
  have w2:k9 .i64 ((k:Int) + 2)=(k:Int) + 2:=wrap_i64 (by omega) (by omega)
  have q0:ltI ((k + 1:Nat):Int) (st.length:Int)=true:=dL (by omega)
  have q1:leI 0 (k:Int)=true:=bx (by omega)
  have q2:ltI (k:Int) (st.length:Int)=true:=dL (by omega)
  have q3:ltN k st.length=true:=er (by omega)
  have q4:leI 0 ((k + 1:Nat):Int)=true:=bx (by omega)
  have q5:ltN (k + 1) st.length=true:=er (by omega)
  have q6:leI ((k:Int) + 2) (st.length:Int)=true:=bx (by omega)
  obtain⟨i0,i1⟩:=azF x.1 x.2 y.1 y.2
  have q7:leN ((ajq (x.1,x.2) (y.1,y.2)).getD []).length 1=true:=aY axe
  simp only [Tn]
  cases hv:ajq x y with
  |some v=>
   have hv':ajq (x.1,x.2) (y.1,y.2)=some v:=hv
   rw [hv',Option.getD_some]at q7
   refine⟨0,(0,((k:Int),st)),Nat.zero_le _,NP _ ?_,rfl,rfl,?_⟩
   ·simp only [dB,Fi,LT.out,BJ,Ov,Ow,Ox,Oy,Oz,OA,OB,OC,OD,ML,
     md,rF,Ag,rG,Ah,Ai,w,w2,q9,g0,g1,Option.getD_some,i0,i1,q0,q1,q2,q3,q4,q5,q6,q7,hv',Option.isSome_some,allT,Bool.or_true,beq_self_eq_true,cond_true]
   ·simp only [Fg,md,rF,Ag,Ai,w,q9,g0,g1,Option.getD_some,i1,hv',d2,List.append_assoc]
  |none=>
   have hv':ajq (x.1,x.2) (y.1,y.2)=none:=hv
   obtain⟨m,z,h1,h2,h3,h4⟩:=axh st hn (y::r) (k + 1) (by omega) d1
   refine⟨m + 1,z,by simp only [j7]at h1 ⊢;omega,?_,h3,?_⟩
   ·rw [Le (y:=(((k + 1:Nat):Int),st)) _ (by
     simp only [dB,Fi,LT.out,BJ,Ov,Ow,Ox,Oy,Oz,OA,OB,OC,OD,ML,VM,
      md,rF,Ag,rG,Ah,Ai,w,w2,q9,g0,g1,Option.getD_some,i0,i1,q0,q1,q2,q3,q4,q5,q6,hv',Option.isSome_none,allT,Bool.not_false,Bool.true_or,cond_true,cond_false])]
    exact h2
   ·cases ho:Tn (y::r)with
    |none=>rw [ho]at h4;exact h4
    |some r'=>rw [ho]at h4;exact⟨h4.1,by rw [h4.2,t1,List.append_assoc];rfl⟩
theorem apA(st:List IN)(hn:leN st.length 1048576=true):TZ st=(Tn st).isSome∧Ua st=(Tn st).getD st∧Ub st=true:=by
 obtain⟨m,z,h1,h2,h3,h4⟩:=axh st (eN.1 hn) st 0 (Nat.zero_le _) (List.drop_zero ..)
 obtain⟨f1,f2⟩:=dB.run h2 (adK (by simp only [dB];omega))
 have f1:Lp.fin dB ((0:Int),st)=true:=f1
 have f2:Lp.res dB ((0:Int),st)=z:=f2
 simp only [TZ,Ua,Ub,SH,f1,f2,allT]
 cases ho:Tn st with
 |none=>rw [ho]at h4;simp only at h4;rw [h4];exact⟨rfl,rfl,rfl⟩
 |some r'=>rw [ho]at h4;simp only at h4;rw [h4.1,h4.2];exact⟨rfl,rfl,rfl⟩
def aaI:aAj
 | [.one ⟨false,[.ref 0]⟩],[.row true 60 (.pair (.int .i64) (.int .i64)) a]=>some ⟨.tup [⟨false,[.ref 1]⟩,⟨false,[.val (.bool (Tn a).isSome)]⟩],[.gone],[aAy ((Tn a).getD a)],[leN a.length 1048576]⟩
 |_,_=>none
def abj:PF prog:=PF.alt akX aaI (by
 intro args es o h cL;unfold aaI at h;split at h
 ·rename_i a
  cases h
  have cL:=kO cL
  obtain⟨e0,e1,en⟩:=apA a cL
  exact qm rfl (jv en) (by simp only [e0] <;> rfl) rfl (by simp only [e1] <;> rfl)
 ·cases h)
abbrev qC:=Bool×Int×Int×Int×List (Int×(aAi×Int))×List (Int×Int)
section
variable (a:auv)
def Hf:Bool:=leN a.length (1048576:Nat)
def Hg:Bool:=Option.isSome (Tn a)
def Hh:auv:=k8 (Tn a) a
end
def ae3:qC→List (Nat×SV)
 |(a,_,_,_,_,_)=> [(5,(aAl (.val (.bool a)))),(4,(aAl (.ptr 0 0)))]
def aeX:qC→List (Nat×Entry)
 |(_,a,b,c,d,e)=> [(0,(.box 39 [aAk a,aAk b,aAk c,.ref 1,.ref 2])),(1,(aAv d)),(2,(aAy e))]
def aff:Nat→qC→List (Nat×SV)
 |_,_=>[]
def Al:qC→LT qC
 |(a,b,c,d,e,f)=> .ite a (.need [Hf f] (.nrm ((Hg f),b,c,d,e,(Hh f)) [(0,0),(1,1),(2,256)])) (.ext 0 [(0,0),(1,1),(2,2)])
def Nd(s:St):Option qC:=do
 let some ⟨none,.one ⟨false,[.val (.bool a)]⟩⟩:=s.look 5|none
 let some ⟨none,.one ⟨false,[.ptr 1408 0]⟩⟩:=s.look 4|none
 let some (.box 39 [.val (.int .i64 b),.val (.int .i64 c),.val (.int .i64 d),.ref 1088,.ref 1280]):=s.ent 1408|none
 let some (.row true 66 (.pair (.int .i64) (.pair .str (.int .i64))) e):=s.ent 1088|none
 let some (.row true 60 (.pair (.int .i64) (.int .i64)) f):=s.ent 1280|none
 some (a,b,c,d,e,f)
def eg:Lp qC where
 h:=⟨[23,25,26,27,24,28,29,30,5],[0,1],[2],[]⟩
 JL:=ae3
 JE:=aeX
 XL:=aff
 XE:=fun _=>aeX
 q:=fun j=>match j with | _=> .exit 0
 tags:= [0]
 lt:=Al
 fuel:=fun(_,b,c,d,e,f)=>b.natAbs + c.natAbs + d.natAbs + e.length + f.length
 fix:=fun(_,b,c,d,e,_) (a,_,_,_,_,f)=>(a,b,c,d,e,f)
 σ:= [(0,1408),(1,1088),(2,1280)]
 rd:=Nd
theorem adM:LoopOk prog (fun k=>Nat.blt k Tryz.f13.ntmps) eg.F (bc f13 0):=by
 refine Lp.ok (tbl:= (T3z [vu,sI,mb,abj])) (lf:= []) aU eg (by kernel_rfl) (LOk.nil _) (fun _=>rfl) (fun _ _=>rfl) ?_ ?_ ?_ ?_ (fun _=>rfl) ?_
 ·intro _;kernel_rfl
 ·intro _;kernel_rfl
 ·intro s x h
  have h:Nd s=some x:=h
  unfold Nd at h
  repeat' split at h
  all_goals cases h
  constructor<;>repeat(first|refine ab ‹_› rfl ?_|refine aa rfl ‹_› rfl ?_|rfl)
 ·intro _;kernel_rfl
 ·intro _ _;exact(And.intro rfl trivial)
section
variable (a b c:Int)(d:aoQ)(e:auv)
def SG:Bool×Int×Int×Int×aoQ×auv:=(true,a,b,c,d,e)
def MD:Int:=bif !jR a b c d e then(0:Int)else a
def ME:Int:=bif !jR a b c d e then(0:Int)else b
def MF:Int:=bif !jR a b c d e then(0:Int)else c
def MG:Int:=bif !jR a b c d e then(1:Int)else(0:Int)
def MH:aor:=bif !jR a b c d e then []else d
def MI:auv:=bif !jR a b c d e then []else (Lp.res eg (SG a b c d e)).2.2.2.2.2.2
def MJ:Bool:=allT [!jR a b c d e||leN d.length (1048576:Nat),!jR a b c d e||leN e.length (1048576:Nat),!jR a b c d e||Lp.fin eg (SG a b c d e)]
end
def aaw:aAj
 | [.one ⟨true,[.val (.int .i64 a),.val (.int .i64 b),.val (.int .i64 c),.ref 0,.ref 1]⟩],[.row false 66 (.pair (.int .i64) (.pair (.str) (.int .i64))) d,.row false 60 (.pair (.int .i64) (.int .i64)) e]=>some ⟨.tup [⟨true,[aAk (MD a b c d e),aAk (ME a b c d e),aAk (MF a b c d e),.ref 2,.ref 3]⟩,⟨false,[aAk (MG a b c d e)]⟩],[aAp d,aAx e],[aAv (MH a b c d e),aAy (MI a b c d e)],[MJ a b c d e]⟩
 |_,_=>none
def akW:PF prog:=PF.ofG prog (T3z [vu,sI,mb,abj]) [eg.F] aU 13 f13 func13 (LOk.fnT (l:= [bc f13 0]) (by kernel_rfl) (.cons adM (.nil _))) aaw (by
 intro _ _ _ h;unfold aaw at h;split at h<;>cases h;kernel_rfl)
theorem axd(i v o:Int)(bs:List TM)(st:List IN):Pj eg.lt (0 + 1) (false,i,v,o,bs,st)=some (0,(false,i,v,o,bs,st)):=
 NP _ (by simp only [eg,Al,LT.out,cond_false])
theorem aza(i v o:Int)(bs:List TM): ∀ (n:Nat) (st:List IN),st.length≤n→st.length≤1048576→ ∃ m,m≤n + 1∧Pj eg.lt (m + 1) (true,i,v,o,bs,st)=some (0,(false,i,v,o,bs,Xl n st)):=by
 intro n
 induction n with
 |zero=>
  intro st h1 h2
  have:st= []:=List.length_eq_zero_iff.1 (by omega)
  subst this
  refine⟨1,by omega,?_⟩
  rw [Le (y:=(false,i,v,o,bs,[])) _ (by
   have q:leN ([]:List IN).length 1048576=true:=aY (by simp)
   have e:Tn []=none:=rfl
   simp only [eg,Al,LT.out,Hf,Hg,Hh,q,e,Option.isSome_none,Option.getD_none,allT,cond_true])]
  exact axd i v o bs _
 |succ n ih=>
  intro st h1 h2
  have q:leN st.length 1048576=true:=aY h2
  simp only [Xl]
  cases ho:Tn st with
  |none=>
   refine⟨1,by omega,?_⟩
   rw [Le (y:=(false,i,v,o,bs,st)) _ (by
    simp only [eg,Al,LT.out,Hf,Hg,Hh,q,ho,Option.isSome_none,Option.getD_none,allT,cond_true])]
   exact axd i v o bs _
  |some st'=>
   have hl:=auy ho
   obtain⟨m,m1,m2⟩:=ih st' (by omega) (by omega)
   refine⟨m + 1,by omega,?_⟩
   rw [Le (y:=(true,i,v,o,bs,st')) _ (by
    simp only [eg,Al,LT.out,Hf,Hg,Hh,q,ho,Option.isSome_some,Option.getD_some,allT,cond_true])]
   exact m2
theorem auA(i v o:Int)(bs:List TM)(st:List IN):MD i v o bs st=(bif jR i v o bs st then i else 0)∧ME i v o bs st=(bif jR i v o bs st then v else 0)∧MF i v o bs st=(bif jR i v o bs st then o else 0)∧
  MG i v o bs st=(bif jR i v o bs st then 0 else 1)∧MH i v o bs st=(bif jR i v o bs st then bs else [])∧MI i v o bs st=(bif jR i v o bs st then Xl st.length st else [])∧MJ i v o bs st=true:=by
 cases hC:jR i v o bs st with
 |false=>simp only [MD,ME,MF,MG,MH,MI,MJ,hC,Bool.not_false,Bool.true_or,cond_true,cond_false,allT];exact⟨trivial,trivial,trivial,trivial,trivial,trivial,trivial⟩
 |true=>
  have hC':=hC
  simp only [jR,q8]at hC'
  obtain⟨ri,rv,ro,rb,rs⟩:=Rp.1 hC'.1
  obtain⟨m,m1,m2⟩:=aza i v o bs st.length st (Nat.le_refl _) (by omega)
  obtain⟨f1,f2⟩:=eg.run m2 (adK (by simp only [eg];omega))
  have f1:Lp.fin eg (true,i,v,o,bs,st)=true:=f1
  have f2:Lp.res eg (true,i,v,o,bs,st)=(0,(false,i,v,o,bs,Xl st.length st)):=f2
  have q1:leN bs.length 1048576=true:=aY (by omega)
  have q2:leN st.length 1048576=true:=aY (by omega)
  simp only [MD,ME,MF,MG,MH,MI,MJ,SG,hC,f1,f2,q1,q2,Bool.not_true,Bool.false_or,cond_true,cond_false,allT];exact⟨trivial,trivial,trivial,trivial,trivial,trivial,trivial⟩
def aaH:aAj
 | [.one ⟨true,[.val (.int .i64 a),.val (.int .i64 b),.val (.int .i64 c),.ref 0,.ref 1]⟩],[.row false 66 (.pair (.int .i64) (.pair (.str) (.int .i64))) d,.row false 60 (.pair (.int .i64) (.int .i64)) e]=>some ⟨.tup [⟨true,[aAk (bif jR a b c d e then a else 0),aAk (bif jR a b c d e then b else 0),aAk (bif jR a b c d e then c else 0),.ref 2,.ref 3]⟩,⟨false,[aAk (bif jR a b c d e then 0 else 1)]⟩],[aAp d,aAx e],[aAv (bif jR a b c d e then d else []),aAy (bif jR a b c d e then Xl e.length e else [])],[true]⟩
 |_,_=>none
def Uh:PF prog:=PF.alt akW aaH (by
 intro args es o h cL;unfold aaH at h;split at h
 ·rename_i a b c d e
  cases h
  obtain⟨e0,e1,e2,e3,e4,e5,en⟩:=auA a b c d e
  exact qm rfl (jv en) (by simp only [e0,e1,e2,e3] <;> rfl) rfl (by simp only [e4,e5] <;> rfl)
 ·cases h)
section
variable (a:avu)
def eY:Int:=cpC (bh a) (bj a) (bk a) (bm a) (bi a) (bn a)
def eG:Int:=cpI (bh a) (bj a) (bk a) (bm a) (bi a) (bn a)
def eH:Int:=cpV (bh a) (bj a) (bk a) (bm a) (bi a) (bn a)
def eI:Int:=cpO (bh a) (bj a) (bk a) (bm a) (bi a) (bn a)
def qX:Bool:=bif eY a !=eY a then true else !PU (eG a) (eH a) (eI a) (eG a) (eH a) (eI a) (cpB (bh a) (bj a) (bk a) (bm a) (bi a) (bn a)) (cpL (bh a) (bj a) (bk a) (bm a) (bi a) (bn a)) (cpB (bh a) (bj a) (bk a) (bm a) (bi a) (bn a)) (cpL (bh a) (bj a) (bk a) (bm a) (bi a) (bn a))
def Ic:Int:=aaq (bh a) (bj a) (bk a) (bm a) (bi a) (bn a) (cE a) (dI a) [cF a]
def gk:aoQ:=bif !eY a !=eY a&&true then cpB (bh a) (bj a) (bk a) (bm a) (bi a) (bn a)else cpB (bh a) (bj a) (bk a) (bm a) (bi a) (bn a)
def eZ:auv:=bif !eY a !=eY a&&true then cpL (bh a) (bj a) (bk a) (bm a) (bi a) (bn a)else cpL (bh a) (bj a) (bk a) (bm a) (bi a) (bn a)
def Ei:Bool:=OX (eG a) (eH a) (eI a) (gk a) (eZ a) (cE a) (dI a) (cF a)!=Ic a
def Ie:avu:=rcO (eG a) (eH a) (eI a) (gk a) (eZ a) (cE a) (dI a) (cF a)
def Cw:avu:=rnO (bh a) (bj a) (bk a) (bm a) (bi a) (bn a) (cE a) (dI a) (cF a)
def MN:avu:=rcV (eG a) (eH a) (eI a) (gk a) (eZ a) (cE a) (dI a) (cF a)
def Gf:avu:=rnV (bh a) (bj a) (bk a) (bm a) (bi a) (bn a) (cE a) (dI a) (cF a)
def yz:Bool:=bif bif Ei a then true else !eqL (Ie a) (Cw a)then true else !lkM (MN a) (rcS (eG a) (eH a) (eI a) (gk a) (eZ a) (cE a) (dI a) (cF a)) (Gf a) (rnB (bh a) (bj a) (bk a) (bm a) (bi a) (bn a) (cE a) (dI a) (cF a))
def uv:Int:=bif jR (eG a) (eH a) (eI a) (gk a) (eZ a)then eG a else(0:Int)
def uw:Int:=bif jR (eG a) (eH a) (eI a) (gk a) (eZ a)then eH a else(0:Int)
def ux:Int:=bif jR (eG a) (eH a) (eI a) (gk a) (eZ a)then eI a else(0:Int)
def rH:aoQ:=bif jR (eG a) (eH a) (eI a) (gk a) (eZ a)then gk a else []
def pK:auv:=bif jR (eG a) (eH a) (eI a) (gk a) (eZ a)then Xl (k7 (eZ a)) (eZ a)else []
def MO:Bool:=bif(bif jR (eG a) (eH a) (eI a) (gk a) (eZ a)then(0:Int)else(1:Int))==0 then OX (uv a) (uw a) (ux a) (rH a) (pK a) (cE a) (dI a) (cF a)==Ic a else false
def MP:avu:=rcO (uv a) (uw a) (ux a) (rH a) (pK a) (cE a) (dI a) (cF a)
def MQ:Bool:=bif MO a then eqL (MP a) (bif !Ei a&&true then Cw a else Cw a)else false
def MR:avu:=rcV (uv a) (uw a) (ux a) (rH a) (pK a) (cE a) (dI a) (cF a)
def Gg:Bool:=(!bif Ei a then true else !eqL (Ie a) (Cw a))&&true
def MT:Bool:=bif MQ a then lkM (MR a) (rcS (uv a) (uw a) (ux a) (rH a) (pK a) (cE a) (dI a) (cF a)) (bif Gg a then Gf a else Gf a) (bif Gg a then rnB (bh a) (bj a) (bk a) (bm a) (bi a) (bn a) (cE a) (dI a) (cF a)else rnB (bh a) (bj a) (bk a) (bm a) (bi a) (bn a) (cE a) (dI a) (cF a))else false
def MU:Bool:=bif MT a then jR (eG a) (eH a) (eI a) (gk a) (eZ a)else false
def KU:Bool:=bif uy a then true else bif qX a then false else bif eY a !=0 then Ic a==1 else bif yz a then false else bif bif MU a then jR (uv a) (uw a) (ux a) (rH a) (pK a)else false then leI (↑(k7 (bif MU a&&true then pK a else pK a)):Int) (↑(k7 (bif MT a&&true then eZ a else eZ a)):Int)else false
def KV:Bool:=allT [uy a||aG 0 0 a,uy a||cdG (bh a) (bj a) (bk a) (bm a) (bi a) (bn a) (cE a) [cF a],uy a||adZ (bh a) (bj a) (bk a) (bm a) (bi a) (bn a),uy a||prD (bh a) (bj a) (bk a) (bm a) (bi a) (bn a),uy a||(!(!eY a !=eY a&&true)||PV (eG a) (eH a) (eI a) (eG a) (eH a) (eI a) (cpB (bh a) (bj a) (bk a) (bm a) (bi a) (bn a)) (cpL (bh a) (bj a) (bk a) (bm a) (bi a) (bn a)) (cpB (bh a) (bj a) (bk a) (bm a) (bi a) (bn a)) (cpL (bh a) (bj a) (bk a) (bm a) (bi a) (bn a))),uy a||(qX a||(eY a !=0||auR (gk a) (cE a) (cF a))),uy a||(qX a||(eY a !=0||(!(!Ei a&&true)||leN (k7 (Ie a)) 9223372036854775807))),uy a||(qX a||(eY a !=0||(!Gg a||leN (k7 (MN a)) 9223372036854775807&&leN (k7 (rcS (eG a) (eH a) (eI a) (gk a) (eZ a) (cE a) (dI a) (cF a))) 9223372036854775807))),uy a||(qX a||(eY a !=0||(yz a||true))),uy a||(qX a||(eY a !=0||(yz a||auR (rH a) (cE a) (cF a)))),uy a||(qX a||(eY a !=0||(yz a||(!(MO a&&true)||leN (k7 (MP a)) 9223372036854775807)))),uy a||(qX a||(eY a !=0||(yz a||(!(MQ a&&true)||leN (k7 (MR a)) 9223372036854775807&&leN (k7 (rcS (uv a) (uw a) (ux a) (rH a) (pK a) (cE a) (dI a) (cF a))) 9223372036854775807))))]
end
def aec:aAj
 | [.one ⟨false,[.ref 0]⟩],[.row false 5 (.int .u8) a]=>some ⟨aAl (.val (.bool (KU a))),[aAu a],[],[KV a]⟩
 |_,_=>none
def anA:PF prog:=PF.ofG prog (T3z [abi,HM,Ra,Uh,vu,akY,Ui,abk,OR,OS,VV]) [] aU 3 f3 func3 (fun c _=>LOk.nil c) aec (by
 intro _ _ _ h;unfold aec at h;split at h<;>cases h;kernel_rfl)
abbrev ES:=List Int×List Int×List Int×List BS3
def exI(bs:List TM)(inp:avu)(x:IN)(a:ES):ES:=(asD bs inp x a.1 a.2.1 a.2.2.2,avc bs x a.1 a.2.1,auM bs inp x a.1 a.2.1 a.2.2.1,arL bs x a.1 a.2.2.2)
def exL(bs:List TM)(inp:avu):List IN→ES→ES
 | [],a=>a
 |x::r,a=>exL bs inp r (exI bs inp x a)
theorem QP{bs:List TM}{inp:avu}: ∀ (l1 l2:List IN) (a:ES),exL bs inp (l1++l2) a=exL bs inp l2 (exL bs inp l1 a)
 | [],l2,a=>rfl
 |x::r,l2,a=>QP r l2 _
theorem ah2{α:Type}{st l:List α}{i:Nat}{x:α}(h:st.drop i=x::l):st[i]? =some x∧st.drop (i + 1)=l:=by
 refine⟨?_,?_⟩
 ·have:(st.drop i)[0]? =some x:=by rw [h];rfl
  rw [List.getElem?_drop]at this;simpa using this
 ·have e:st.drop (i + 1)=(st.drop i).drop 1:=by rw [List.drop_drop]
  rw [e,h];rfl
theorem fin_ex{bs:List TM}{st:List IN}{inp:avu}: ∀ (l:List IN) (i:Nat) (s:ES),st.drop i=l→as3 bs st inp l.length ((i:Int),s)=(((i + l.length:Nat):Int),exL bs inp l s)
 | [],i,s,_=>rfl
 |x::r,i,s,h=>by
  obtain⟨h1,h2⟩:=ah2 h
  have e:asF bs st inp ((i:Int),s)=(((i + 1:Nat):Int),exI bs inp x s):=by
   obtain⟨stk,xs,os,ss⟩:=s
   have hi:ah9 st (i:Int)=x:=by simp only [ah9,q9,h1,Option.getD_some]
   have hc:(i:Int) + 1=((i + 1:Nat):Int):=by omega
   simp only [asF,hi,exI,hc]
  rw [j7,as3,e,fin_ex r (i + 1) _ h2,show i + 1 + r.length=i + (r.length + 1) by omega,exL]
theorem azQ(o:Int)(bs:List TM)(st:List IN)(inp xs:avu)(ss:List BS3):(rnM o bs st inp xs ss).2=exL bs inp st ([],xs,v5 o.toNat 0,ss):=
 congrArg Prod.snd (fin_ex (bs:=bs) (st:=st) (inp:=inp) st 0 ([],xs,v5 o.toNat 0,ss) (List.drop_zero ..))
theorem ay2{ins vs:List aAi}{o:Int}{bs:List TM}{t:TM}{k:Nat}(hi:ins.length≤20)(hv:vs.length≤20)(hb:bs.length≤2000)(hT:termB t.1 t.2.1 t.2.2=true)(hu:usedB ins vs t=true)
  (h7:leI 7 t.1=true→k < bs.length∧gB bs k=t):TX ins.length vs.length o bs (cT ins vs (k:Int) t)=true∧tkI bs (cT ins vs (k:Int) t)=takesK t.1∧gvI (cT ins vs (k:Int) t)=1:=by
 have hk:=aiV hT
 obtain⟨kd,nm,num⟩:=t
 simp only at hk hT h7
 have hc:kd=1∨kd=2∨kd=3∨kd=4∨kd=5∨kd=6∨7≤kd:=by omega
 rcases hc with rfl | rfl | rfl | rfl | rfl | rfl | hc
 ·have hr:SD ins vs nm=true:=by simpa [usedB] using hu
  cases h:lY ins nm with
  |true=>
   have e:cT ins vs (k:Int) (1,nm,num)=(2,(Io ins nm:Int)):=by simp [cT,nmI,h]
   have hp:=VZ h
   rw [e]
   refine⟨?_,rfl,rfl⟩
   show ak (Io ins nm:Int) 0 (k9 .i64 ((ins.length:Int) - 1))=true
   rw [ak,MM,wrap_i64 (by omega) (by omega)]
   exact pR.2 (by omega)
  |false=>
   have hv':lY vs nm=true:=by simpa [SD,h] using hr
   have e:cT ins vs (k:Int) (1,nm,num)=(3,(Io vs nm:Int)):=by simp [cT,nmI,h,JS hv']
   have hp:=VZ hv'
   rw [e]
   refine⟨?_,rfl,rfl⟩
   show ak (Io vs nm:Int) 0 (k9 .i64 ((vs.length:Int) - 1))=true
   rw [ak,MM,wrap_i64 (by omega) (by omega)]
   exact pR.2 (by omega)
 ·exact⟨rfl,rfl,rfl⟩
 ·exact⟨rfl,rfl,rfl⟩
 ·exact⟨rfl,rfl,rfl⟩
 ·exact⟨rfl,rfl,rfl⟩
 ·exact⟨rfl,rfl,rfl⟩
 ·have q: ∀ j:Int,j < 7→(kd==j)=false:=fun j hj=>by simp;omega
  have e:cT ins vs (k:Int) (kd,nm,num)=(7,(k:Int)):=by
   simp only [cT,q 1 (by decide),q 2 (by decide),q 3 (by decide),bx hc,cond_false,cond_true]
  obtain⟨b1,b2⟩:=h7 (bx hc)
  rw [e]
  refine⟨?_,?_,rfl⟩
  ·show ak (k:Int) 0 (k9 .i64 ((bs.length:Int) - 1))=true
   rw [ak,MM,wrap_i64 (by omega) (by omega)]
   exact pR.2 (by omega)
  ·rw [axO.2.2.2.2.2 rfl];simp only [q9,b2]
theorem ax7{ins vs:List aAi}{inp xs os:avu}{bs:List TM}{t:TM}{stk:avu}{ss:List BS3}{k:Nat}(hT:termB t.1 t.2.1 t.2.2=true)(hu:usedB ins vs t=true)(hb:leI 7 t.1=true→gB bs k=t):
  exI bs inp (cT ins vs (k:Int) t) (stk,xs,os,ss)=((lnS ins vs inp xs t (stk,ss,k)).1,xs,os,(lnS ins vs inp xs t (stk,ss,k)).2.1)∧cK (k:Int) t=((lnS ins vs inp xs t (stk,ss,k)).2.2:Int):=by
 have hk:=aiV hT
 obtain⟨kd,nm,num⟩:=t
 simp only at hk hT hb
 have hc:kd=1∨kd=2∨kd=3∨kd=4∨kd=5∨kd=6∨7≤kd:=by omega
 rcases hc with rfl | rfl | rfl | rfl | rfl | rfl | hc
 ·have hr:SD ins vs nm=true:=by simpa [usedB] using hu
  refine⟨?_,rfl⟩
  cases h:lY ins nm with
  |true=>
   have e:cT ins vs (k:Int) (1,nm,num)=(2,(Io ins nm:Int)):=by simp [cT,nmI,h]
   have e2:nmV ins vs inp xs nm=atZ inp (Io ins nm):=by simp only [nmV,h,cond_true]
   have e3:(lnS ins vs inp xs (1,nm,num) (stk,ss,k)).1=stk.take (stk.length - 0)++ [nmV ins vs inp xs nm]:=rfl
   rw [e,e3,e2];rfl
  |false=>
   have hv':lY vs nm=true:=by simpa [SD,h] using hr
   have e:cT ins vs (k:Int) (1,nm,num)=(3,(Io vs nm:Int)):=by simp [cT,nmI,h,JS hv']
   have e2:nmV ins vs inp xs nm=atZ xs (Io vs nm):=by simp only [nmV,h,cond_false]
   have e3:(lnS ins vs inp xs (1,nm,num) (stk,ss,k)).1=stk.take (stk.length - 0)++ [nmV ins vs inp xs nm]:=rfl
   rw [e,e3,e2];rfl
 ·exact⟨rfl,rfl⟩
 ·exact⟨rfl,rfl⟩
 ·exact⟨rfl,rfl⟩
 ·exact⟨rfl,rfl⟩
 ·exact⟨rfl,rfl⟩
 ·have q: ∀ j:Int,j < 7→(kd==j)=false:=fun j hj=>by simp;omega
  have h7:leI 7 kd=true:=bx hc
  have e:cT ins vs (k:Int) (kd,nm,num)=(7,(k:Int)):=by
   simp only [cT,q 1 (by decide),q 2 (by decide),q 3 (by decide),h7,cond_false,cond_true]
  have b2:=hb h7
  have tk:tkI bs (7,(k:Int))=takesK kd:=by rw [axO.2.2.2.2.2 rfl];simp only [q9,b2]
  have gv:(gvI (7,(k:Int))==1)=true:=rfl
  have hV: ∀ ar,acm bs inp (7,(k:Int)) xs ss ar=avb kd num ar (stAt ss k):=fun ar=>by
   have:acm bs inp (7,(k:Int)) xs ss ar=avb (gB bs k).1 (gB bs k).2.2 ar (stAt ss k):=rfl
   rw [this,b2]
  have hB:arL bs (7,(k:Int)) stk ss=ss.set k (VR kd num (yq bs (7,(k:Int)) stk) (stAt ss k)):=by
   have:arL bs (7,(k:Int)) stk ss=ss.set k (VR (gB bs k).1 (gB bs k).2.2 (yq bs (7,(k:Int)) stk) (stAt ss k)):=rfl
   rw [this,b2]
  have hW:avc bs (7,(k:Int)) stk xs=xs:=rfl
  have hO:auM bs inp (7,(k:Int)) stk xs os=os:=rfl
  have hc2:((k:Int) + 1)=((k + 1:Nat):Int):=by omega
  rw [e]
  simp only [exI,asD,gv,hV,hB,hW,hO,cond_true,lnS,tmV,cK,h7,q 1 (by decide),q 2 (by decide),q 3 (by decide),q 4 (by decide),q 5 (by decide),q 6 (by decide),cond_false,yq,ass,tk,ltk,hc2,and_self]
theorem as2{ins vs:List aAi}{inp xs os:avu}{bs pre post ts:List TM}{e:Int}(hi:bitsB ins.length inp=true)(hx:bitsB vs.length xs=true)(lO:htT ts 0=some e)(hu:ts.all (usedB ins vs)=true)
  (hbs:bs=pre++blT ts++post): ∀ (r:List TM) (i:Nat) (a:LS),ts.drop i=r→aqD pre post ts i a→
  exL bs inp (cTs ins vs r (a.2.2:Int)) (a.1,xs,os,a.2.1)=((ajr ins vs inp xs r a).1,xs,os,(ajr ins vs inp xs r a).2.1)∧cKs r (a.2.2:Int)=((ajr ins vs inp xs r a).2.2:Int)
 | [],i,a,_,_=>⟨rfl,rfl⟩
 |t::r,i,a,hd,hI=>by
  obtain⟨hg,hd'⟩:=ah2 hd
  obtain⟨_,_,hT,_,_,_,_,_,hI2⟩:=ani (ins:=ins) (vs:=vs) hi hx lO hg hI
  have hk:a.2.2=pre.length + (blT (ts.take i)).length:=by obtain⟨n,_,h⟩:=hI;exact h.hk
  obtain⟨stk,ss,k⟩:=a
  obtain⟨p1,p2⟩:=ax7 (inp:=inp) (xs:=xs) (os:=os) (bs:=bs) (stk:=stk) (ss:=ss) (k:=k) hT (List.all_eq_true.1 hu t (List.mem_of_getElem? hg)) (fun h7=>by
   simp only at hk
   rw [hbs,hk];exact(akF hg h7).2.1)
  have:=as2 (os:=os) hi hx lO hu hbs r (i + 1) (lnS ins vs inp xs t (stk,ss,k)) hd' hI2
  simp only [cTs,cKs,exL,ajr]
  rw [p1,p2];exact this
theorem ax5{ins vs os:List aAi}{inp:avu}{ls:List LN}{i:Nat}{a:SS4}{l:LN}(hi:bitsB ins.length inp=true)(hL:lineB l=true)(hu:l.2.all (usedB ins vs)=true)(hm:madeB vs os l=true)
  (hl:ls[i]? =some l) (hI:ScAt vs os ls i a):
  exL (blL ls) inp (lnI ins vs os l (a.2.2.2:Int)) ([],a.1,a.2.1,a.2.2.1)=([],(scS ins vs os inp l a).1,(scS ins vs os inp l a).2.1,(scS ins vs os inp l a).2.2.1)∧cKs l.2 (a.2.2.2:Int)=((scS ins vs os inp l a).2.2.2:Int):=by
 obtain⟨_,q2,q3⟩:=aal hL
 obtain⟨b1,b2⟩:=as2 (os:=a.2.1) hi hI.hx q3 hu (abu hl).1 l.2 0 ([],a.2.2.1,a.2.2.2) (List.drop_zero ..) (anI hl hI)
 have g1:=(aeQ hi hL hl hI).1
 rw [show ajr ins vs inp a.1 l.2 ([],a.2.2.1,a.2.2.2)=lnV ins vs inp l a from rfl]at b1 b2
 refine⟨?_,b2⟩
 rw [lnI,QP]
 simp only at b1
 rw [b1]
 simp only [scS]
 generalize lnV ins vs inp l a=z at *
 obtain⟨stk,ss,k⟩:=z
 simp only at g1
 obtain⟨y,rfl⟩: ∃ y,stk= [y]:=List.length_eq_one_iff.1 g1
 cases h:lY vs l.1 with
 |true=>
  have e:nmI vs os 8 9 l.1=(8,(Io vs l.1:Int)):=by simp only [nmI,h,cond_true]
  rw [e];rfl
 |false=>
  have ho:lY os l.1=true:=by simpa [madeB,h] using hm
  have e:nmI vs os 8 9 l.1=(9,(Io os l.1:Int)):=by simp only [nmI,h,cond_false,JS ho]
  rw [e];rfl
theorem as1{ins vs os:List aAi}{inp:avu}{ls:List LN}(h:ScH ins vs os inp ls): ∀ (r:List LN) (i:Nat) (a:SS4),ls.drop i=r→ScAt vs os ls i a→
  exL (blL ls) inp (cLs ins vs os r (a.2.2.2:Int)) ([],a.1,a.2.1,a.2.2.1)=([],(aqh ins vs os inp r a).1,(aqh ins vs os inp r a).2.1,(aqh ins vs os inp r a).2.2.1)
 | [],i,a,_,_=>rfl
 |l::r,i,a,hd,hI=>by
  obtain⟨hg,hd'⟩:=ah2 hd
  have hm:=List.mem_of_getElem? hg
  obtain⟨p1,p2⟩:=ax5 h.hi (List.all_eq_true.1 h.hL l hm) (List.all_eq_true.1 h.hu l hm) (List.all_eq_true.1 h.hm l hm) hg hI
  have hI2:=(aeQ h.hi (List.all_eq_true.1 h.hL l hm) hg hI).2.2
  have:=as1 h r (i + 1) (scS ins vs os inp l a) hd' hI2
  simp only [cLs,aqh]
  rw [QP,p1,p2];exact this
theorem ax6{nm:aAi}{ins vs os:List aAi}{g:aAi}{ls:List LN}{inp xs:avu}{ss:List BS3}(hS:gj nm ins vs os g ls=true)(hi:bitsB ins.length inp=true)(hs:xF vs.length (blL ls) xs ss=true):
  exL (blL ls) inp (cpS ins vs os g ls) ([],xs,v5 os.length 0,ss)=([],scV ins vs os ls inp xs ss,scO ins vs os g ls inp xs ss,scB ins vs os ls inp xs ss):=by
 have hH:=ak4 hS hi
 have hg:=(Vb hS).1
 obtain⟨s1,s2,s3⟩:=Yd.1 hs
 have h0:ScAt vs os ls 0 (xs,v5 os.length 0,ss,0):=⟨s2,dF.2 ⟨fun z hz=> .inl (v6 hz),by simp⟩,s1,s3,by simp [blL]⟩
 have hE:=au1 (os:=os) hi hH.hL hs
 have oe:=as1 hH ls 0 (xs,v5 os.length 0,ss,0) (List.drop_zero ..) h0
 have oe:exL (blL ls) inp (cLs ins vs os ls 0) ([],xs,v5 os.length 0,ss)=([],(scE ins vs os ls inp xs ss).1,(scE ins vs os ls inp xs ss).2.1,(scE ins vs os ls inp xs ss).2.2.1):=oe
 have ho:=(dF.1 hE.ho).2
 rw [cpS,QP,oe]
 simp only [scV,scO,scB]
 generalize scE ins vs os ls inp xs ss=z at *
 cases hz:g.toList== []with
 |true=>rfl
 |false=>
  have hr:SD ins vs g=true:=by rw [hz,Bool.false_or]at hg;exact hg
  have hl:v5 z.2.1.length (0:Int)=v5 os.length 0:=by congr 1;omega
  cases h:lY ins g with
  |true=>
   have e:nmI ins vs 10 11 g=(10,(Io ins g:Int)):=by simp only [nmI,h,cond_true]
   have e2:nmV ins vs inp z.1 g=atZ inp (Io ins g):=by simp only [nmV,h,cond_true]
   rw [e,e2,← hl];rfl
  |false=>
   have hv':lY vs g=true:=by simpa [SD,h] using hr
   have e:nmI ins vs 10 11 g=(11,(Io vs g:Int)):=by simp only [nmI,h,cond_false,JS hv']
   have e2:nmV ins vs inp z.1 g=atZ z.1 (Io vs g):=by simp only [nmV,h,cond_false]
   rw [e,e2,← hl];rfl
theorem apu{i v o:Int}{bs:List TM}{x:IN}{r:List IN}{n:Int}{acc:avu}{tk gv:Int}(h1:TX i v o bs x=true)(h2:tkI bs x=tk)(h3:gvI x=gv)(h4:tk≤n)(h5:n - tk + gv≤40):
  hgt i v o bs (x::r) n acc=hgt i v o bs r (n - tk + gv) (acc++ [n - tk + gv]):=by
 have q1:leI tk n=true:=bx h4
 have q2:leI (n - tk + gv) 40=true:=bx h5
 simp only [hgt,h1,h2,h3,q1,q2,Bool.and_self,cond_true]
theorem atb{ins vs:List aAi}{o:Int}{bs pre post ts:List TM}{e:Int}(hi:ins.length≤20)(hv:vs.length≤20)(hb:bs.length≤2000)(lO:htT ts 0=some e)(hn:ts.length≤40)(hu:ts.all (usedB ins vs)=true)
  (hbs:bs=pre++blT ts++post): ∀ (r:List TM) (i:Nat) (k:Nat) (n:Int) (acc:avu),ts.drop i=r→htT (ts.take i) 0=some n→k=pre.length + (blT (ts.take i)).length→i + r.length=ts.length→
  (∃ L,hgt ins.length vs.length o bs (cTs ins vs r (k:Int)) n acc=some (e,L))∧cKs r (k:Int)=((pre.length + (blT ts).length:Nat):Int)
 | [],i,k,n,acc,_,hp,hk,hl=>by
  have e1:ts.take i=ts:=List.take_of_length_le (by simp only [List.length_nil]at hl;omega)
  rw [e1]at hp hk
  rw [lO]at hp;cases hp
  exact⟨⟨acc,rfl⟩,by rw [hk];rfl⟩
 |t::r,i,k,n,acc,hd,hp,hk,hl=>by
  obtain⟨hg,hd'⟩:=ah2 hd
  obtain⟨n',g1,g2,g3,g4,g5⟩:=axb lO hg
  rw [hp]at g1;cases g1
  have hlt:=(List.getElem?_eq_some_iff.1 hg).1
  obtain⟨f1,f2,f3⟩:=ay2 (o:=o) (k:=k) hi hv hb g3 (List.all_eq_true.1 hu t (List.mem_of_getElem? hg)) (fun h7=>by
   rw [hbs,hk];exact⟨(akF hg h7).1,(akF hg h7).2.1⟩)
  have hK:cK (k:Int) t=((pre.length + (blT (ts.take (i + 1))).length:Nat):Int):=by
   simp only [cK]
   cases h7:leI 7 t.1 with
   |true=>have:=(akF (pre:=pre) (post:=post) hg h7).2.2;simp only [cond_true];omega
   |false=>have:=avi hg h7;simp only [cond_false];omega
  have:=atb (o:=o) hi hv hb lO hn hu hbs r (i + 1) _ (n - takesK t.1 + 1) (acc++ [n - takesK t.1 + 1]) hd' g5 rfl (by simp only [j7]at hl;omega)
  have h0:=Vl t.1
  simp only [cTs,cKs]
  rw [apu f1 f2 f3 g4 (by omega),hK]
  exact this
theorem aw7{i v o:Int}{bs:List TM}{x:IN}{n:Int}{acc:avu}{tk gv:Int}(h1:TX i v o bs x=true)(h2:tkI bs x=tk)(h3:gvI x=gv)(h4:tk≤n)(h5:n - tk + gv≤40):
  ∃ L,hgt i v o bs [x] n acc=some (n - tk + gv,L):=⟨_,by rw [apu h1 h2 h3 h4 h5];rfl⟩
theorem azk{ins vs:List aAi}{i v o:Int}{bs:List TM}{s:aAi}(hi:i=ins.length)(hv:v=vs.length)(h1:ins.length≤20)(h2:vs.length≤20)(hr:SD ins vs s=true):
  TX i v o bs (nmI ins vs 10 11 s)=true∧tkI bs (nmI ins vs 10 11 s)=0∧gvI (nmI ins vs 10 11 s)=0:=by
 cases h:lY ins s with
 |true=>
  have e:nmI ins vs 10 11 s=(10,(Io ins s:Int)):=by simp only [nmI,h,cond_true]
  have hp:=VZ h
  rw [e]
  refine⟨?_,rfl,rfl⟩
  show ak (Io ins s:Int) 0 (k9 .i64 (i - 1))=true
  rw [ak,MM,wrap_i64 (by omega) (by omega)]
  exact pR.2 (by omega)
 |false=>
  have hv':lY vs s=true:=by simpa [SD,h] using hr
  have e:nmI ins vs 10 11 s=(11,(Io vs s:Int)):=by simp only [nmI,h,cond_false,JS hv']
  have hp:=VZ hv'
  rw [e]
  refine⟨?_,rfl,rfl⟩
  show ak (Io vs s:Int) 0 (k9 .i64 (v - 1))=true
  rw [ak,MM,wrap_i64 (by omega) (by omega)]
  exact pR.2 (by omega)
theorem azu{vs os:List aAi}{i v o:Int}{bs:List TM}{s:aAi}(hv:v=vs.length)(ho:o=os.length)(h1:vs.length≤20)(h2:os.length≤20)(hr:SD vs os s=true):
  TX i v o bs (nmI vs os 8 9 s)=true∧tkI bs (nmI vs os 8 9 s)=1∧gvI (nmI vs os 8 9 s)=0:=by
 cases h:lY vs s with
 |true=>
  have e:nmI vs os 8 9 s=(8,(Io vs s:Int)):=by simp only [nmI,h,cond_true]
  have hp:=VZ h
  rw [e]
  refine⟨?_,rfl,rfl⟩
  show ak (Io vs s:Int) 0 (k9 .i64 (v - 1))=true
  rw [ak,MM,wrap_i64 (by omega) (by omega)]
  exact pR.2 (by omega)
 |false=>
  have hv':lY os s=true:=by simpa [SD,h] using hr
  have e:nmI vs os 8 9 s=(9,(Io os s:Int)):=by simp only [nmI,h,cond_false,JS hv']
  have hp:=VZ hv'
  rw [e]
  refine⟨?_,rfl,rfl⟩
  show ak (Io os s:Int) 0 (k9 .i64 (o - 1))=true
  rw [ak,MM,wrap_i64 (by omega) (by omega)]
  exact pR.2 (by omega)
theorem ata{ins vs os:List aAi}{ls:List LN}(hi:ins.length≤20)(hv:vs.length≤20)(ho:os.length≤20)(hb:(blL ls).length≤2000)(hL:ls.all lineB=true)(hm:ls.all (madeB vs os)=true)
  (hu:ls.all (fun l=>l.2.all (usedB ins vs))=true): ∀ (r:List LN) (i:Nat) (k:Nat) (acc:avu),ls.drop i=r→k=(blL (ls.take i)).length→
  ∃ L,hgt ins.length vs.length os.length (blL ls) (cLs ins vs os r (k:Int)) 0 acc=some (0,L)
 | [],i,k,acc,_,_=>⟨acc,rfl⟩
 |l::r,i,k,acc,hd,hk=>by
  obtain⟨hg,hd'⟩:=ah2 hd
  have hmm:=List.mem_of_getElem? hg
  obtain⟨_,q2,q3⟩:=aal (List.all_eq_true.1 hL l hmm)
  obtain⟨s1,s2⟩:=abu hg
  obtain⟨⟨L1,a1⟩,a2⟩:=atb (o:=(os.length:Int)) hi hv hb q3 q2 (List.all_eq_true.1 hu l hmm) s1 l.2 0 k 0 acc (List.drop_zero ..) rfl (by rw [hk];simp [blT]) (by omega)
  obtain⟨f1,f2,f3⟩:=azu (i:=(ins.length:Int)) (bs:=blL ls) rfl rfl hv ho (s:=l.1) (List.all_eq_true.1 hm l hmm)
  obtain⟨L2,b1⟩:=aw7 (n:=1) (acc:=L1) f1 f2 f3 (by omega) (by omega)
  obtain⟨L3,c1⟩:=ata hi hv ho hb hL hm hu r (i + 1) _ L2 hd' rfl
  refine⟨L3,?_⟩
  simp only [cLs,lnI]
  rw [MC,MC,a1]
  simp only
  rw [b1]
  simp only
  rw [a2,show (blL (List.take i ls)).length + (blT l.2).length=(blL (List.take (i + 1) ls)).length from s2.symm]
  exact c1
theorem ax2{nm:aAi}{ins vs os:List aAi}{g:aAi}{ls:List LN}(hS:gj nm ins vs os g ls=true):jR ins.length vs.length os.length (blL ls) (cpS ins vs os g ls)=true:=by
 obtain⟨hg,hL,hm,hu,hn,h1,h2,h3⟩:=Vb hS
 have hbl:(blL ls).length≤1600:=by have:=arJ ls hL;omega
 have tG:(cpS ins vs os g ls).length≤2000:=by
  have h5:=arN ins vs os ls 0 (aqj hS)
  rw [cpS,j6]
  cases g.toList== [] <;> simp <;> omega
 have hr:auY ins.length vs.length os.length (blL ls) (cpS ins vs os g ls)=true:=Rp.2 ⟨by omega,by omega,by omega,by omega,tG⟩
 have hh:agb ins.length vs.length os.length (blL ls) (cpS ins vs os g ls)=true:=by
  obtain⟨L,e⟩:=ata h1 h2 h3 (by omega) hL hm hu ls 0 0 [] (List.drop_zero ..) rfl
  have e:hgt ins.length vs.length os.length (blL ls) (cLs ins vs os ls 0) 0 []=some (0,L):=e
  simp only [agb,cpS]
  rw [MC,e]
  cases hz:g.toList== []with
  |true=>rfl
  |false=>
   rw [hz,Bool.false_or]at hg
   obtain⟨f1,f2,f3⟩:=azk (i:=(ins.length:Int)) (v:=(vs.length:Int)) (o:=(os.length:Int)) (bs:=blL ls) rfl rfl h1 h2 hg
   obtain⟨L2,b1⟩:=aw7 (n:=0) (acc:=L) f1 f2 f3 (by omega) (by omega)
   simp only [cond_false,b1];rfl
 simp only [jR,hr,apa ls hL,hh,Bool.and_self]
theorem aoP{bs:List TM}{inp:avu}(a:Int)(stk xs os:avu)(ss:List BS3):exI bs inp (1,a) (stk,xs,os,ss)=(stk++ [a],xs,os,ss):=by
 have e:exI bs inp (1,a) (stk,xs,os,ss)=(stk.take (stk.length - 0)++ [a],xs,os,ss):=rfl
 rw [e,Nat.sub_zero,List.take_length]
theorem aup{bs:List TM}{inp:avu}(c b:Int)(s xs os:avu)(ss:List BS3):exI bs inp (4,c) (s++ [b],xs,os,ss)=(s++ [1 - b],xs,os,ss):=by
 have e:exI bs inp (4,c) (s++ [b],xs,os,ss)=((s++ [b]).take ((s++ [b]).length - 1)++ [1 - atZ ((s++ [b]).drop ((s++ [b]).length - 1)) 0],xs,os,ss):=rfl
 have h:(s++ [b]).length - 1=s.length:=by simp
 rw [e,h,List.take_left,List.drop_left];rfl
theorem ay6{bs:List TM}{inp:avu}(c a b:Int)(s xs os:avu)(ss:List BS3):exI bs inp (5,c) (s++ [a,b],xs,os,ss)=(s++ [ao4 a b],xs,os,ss):=by
 have e:exI bs inp (5,c) (s++ [a,b],xs,os,ss)=((s++ [a,b]).take ((s++ [a,b]).length - 2)++ [ao4 (atZ ((s++ [a,b]).drop ((s++ [a,b]).length - 2)) 0) (atZ ((s++ [a,b]).drop ((s++ [a,b]).length - 2)) 1)],xs,os,ss):=rfl
 have h:(s++ [a,b]).length - 2=s.length:=by simp
 rw [e,h,List.take_left,List.drop_left];rfl
theorem azA{bs:List TM}{inp:avu}(c a b:Int)(s xs os:avu)(ss:List BS3):exI bs inp (6,c) (s++ [a,b],xs,os,ss)=(s++ [orI a b],xs,os,ss):=by
 have e:exI bs inp (6,c) (s++ [a,b],xs,os,ss)=((s++ [a,b]).take ((s++ [a,b]).length - 2)++ [orI (atZ ((s++ [a,b]).drop ((s++ [a,b]).length - 2)) 0) (atZ ((s++ [a,b]).drop ((s++ [a,b]).length - 2)) 1)],xs,os,ss):=rfl
 have h:(s++ [a,b]).length - 2=s.length:=by simp
 rw [e,h,List.take_left,List.drop_left];rfl
theorem asa{s:avu}(h:1≤s.length): ∃ r b,s=r++ [b]:=by
 exact⟨s.dropLast,s.getLast (by intro e;rw [e]at h;simp at h),(List.dropLast_concat_getLast _).symm⟩
theorem ayf{bs:List TM}{inp:avu}{x y:IN}{v:List IN}(h:ajq x y=some v){stk xs os:avu}{ss:List BS3}(hb: ∀ z∈stk,z=0∨z=1)(h1:x.1=1→x.2=0∨x.2=1)(hn:x.1=4→1≤stk.length)
  (hn2:y.1=5∨y.1=6→1≤stk.length):
  exI bs inp y (exI bs inp x (stk,xs,os,ss))=exL bs inp v (stk,xs,os,ss):=by
 obtain⟨d,e⟩:=x
 obtain⟨f,g⟩:=y
 rcases amm h with⟨a,b,rfl⟩ | ⟨a,b,rfl⟩ | ⟨a,c,b,rfl⟩ | ⟨a,c,b,rfl⟩
 ·simp only at a b;subst a b
  have w:k9 .i64 (1 - e)=1 - e:=by rcases h1 rfl with h | h <;> (simp only at h;subst h;rfl)
  rw [aoP,aup];simp only [exL,aoP,w]
 ·simp only at a b;subst a b
  obtain⟨r,z,rfl⟩:=asa (hn rfl)
  rw [aup,aup]
  simp only [exL];rw [show (1:Int) - (1 - z)=z by omega]
 ·simp only at a b c;subst a b c
  obtain⟨r,z,rfl⟩:=asa (hn2 (.inl rfl))
  rw [aoP,List.append_assoc]
  show exI bs inp (5,g) (r++ [z,1],xs,os,ss)=_
  rw [ay6]
  rcases hb z (by simp)with rfl | rfl <;> rfl
 ·simp only at a b c;subst a b c
  obtain⟨r,z,rfl⟩:=asa (hn2 (.inr rfl))
  rw [aoP,List.append_assoc]
  show exI bs inp (6,g) (r++ [z,0],xs,os,ss)=_
  rw [azA]
  rcases hb z (by simp)with rfl | rfl <;> rfl
theorem ar2{i v o:Int}{bs:List TM}: ∀ (l:List IN) (n:Int) (a1 a2:avu),(hgt i v o bs l n a1).map Prod.fst=(hgt i v o bs l n a2).map Prod.fst
 | [],n,a1,a2=>rfl
 |x::r,n,a1,a2=>by
  simp only [hgt]
  cases (TX i v o bs x&&(leI (tkI bs x) n&&leI (n - tkI bs x + gvI x) 40))with
  |false=>rfl
  |true=>exact ar2 r _ _ _
theorem arf{i v o:Int}{bs:List TM}{st:List IN}:agb i v o bs st=true↔(hgt i v o bs st 0 []).map Prod.fst=some 0:=by
 simp only [agb]
 cases hgt i v o bs st 0 []with
 |none=>simp
 |some p=>obtain⟨m,L⟩:=p;simp
theorem avx{i v o:Int}{bs:List TM}{x:IN}{r:List IN}{n:Int}{acc:avu}{p:Int×avu}(h:hgt i v o bs (x::r) n acc=some p):
  TX i v o bs x=true∧tkI bs x≤n∧n - tkI bs x + gvI x≤40∧hgt i v o bs r (n - tkI bs x + gvI x) (acc++ [n - tkI bs x + gvI x])=some p:=by
 simp only [hgt]at h
 cases hc:(TX i v o bs x&&(leI (tkI bs x) n&&leI (n - tkI bs x + gvI x) 40))with
 |false=>rw [hc]at h;cases h
 |true=>
  rw [hc,cond_true]at h
  simp only [q8,zJ]at hc
  exact⟨hc.1,hc.2.1,hc.2.2,h⟩
theorem amz(bs:List TM)(c:Int):(tkI bs (1,c)=0∧gvI (1,c)=1)∧(tkI bs (4,c)=1∧gvI (4,c)=1)∧(tkI bs (5,c)=2∧gvI (5,c)=1)∧(tkI bs (6,c)=2∧gvI (6,c)=1):=
 ⟨⟨rfl,rfl⟩,⟨rfl,rfl⟩,⟨rfl,rfl⟩,⟨rfl,rfl⟩⟩
theorem aw8{i v o:Int}{bs:List TM}{x y:IN}{w post:List IN}{n:Int}{acc:avu}{p:Int×avu}(h:ajq x y=some w)(hg:hgt i v o bs (x::y::post) n acc=some p):
  (hgt i v o bs (w++post) n acc).map Prod.fst=some p.1∧(x.1=4→1≤n)∧(y.1=5∨y.1=6→1≤n)∧(x.1=1→x.2=0∨x.2=1):=by
 obtain⟨f1,t1,g1,h1⟩:=avx hg
 obtain⟨f2,t2,g2,h2⟩:=avx h1
 obtain⟨d,g⟩:=x
 obtain⟨j,k⟩:=y
 have hx2:(d,g).1=1→(d,g).2=0∨(d,g).2=1:=fun e=>by
  simp only at e;subst e
  have f:ak g 0 1=true:=f1
  rw [ak,MM]at f
  have:=pR.1 f;simp only;omega
 refine(fun h=>⟨h.1,h.2.1,h.2.2,hx2⟩) (show _∧_∧_ from ?_)
 have hq (acc2:avu) (e:n - tkI bs (d,g) + gvI (d,g) - tkI bs (j,k) + gvI (j,k)=n):(hgt i v o bs post n acc2).map Prod.fst=some p.1:=by
  rw [e]at h2
  rw [ar2 post n acc2 (acc++ [n - tkI bs (d,g) + gvI (d,g)]++ [n]),h2];rfl
 rcases amm h with⟨a,b,rfl⟩ | ⟨a,b,rfl⟩ | ⟨a,c,b,rfl⟩ | ⟨a,c,b,rfl⟩
 ·simp only at a b;subst a b
  obtain⟨k1,k2⟩:=(amz bs g).1
  obtain⟨k3,k4⟩:=(amz bs k).2.1
  have k5:=(amz bs (k9 .i64 (1 - g))).1
  rw [k1,k2]at g1 g2 h2
  rw [k3,k4]at g2 h2
  refine⟨?_,fun e=>absurd e (by simp),fun e=>absurd e (by simp)⟩
  have hf:TX i v o bs (1,k9 .i64 (1 - g))=true:=by rcases hx2 rfl with h | h <;> (simp only at h;subst h;rfl)
  show (hgt i v o bs ((1,k9 .i64 (1 - g))::post) n acc).map Prod.fst=_
  rw [apu hf k5.1 k5.2 (by rw [k1]at t1;omega) (by omega)]
  rw [show n - 0 + 1 - 1 + 1=n - 0 + 1 by omega]at h2
  rw [ar2 post (n - 0 + 1) _ (acc++ [n - 0 + 1]++ [n - 0 + 1]),h2];rfl
 ·simp only at a b;subst a b
  obtain⟨k1,k2⟩:=(amz bs g).2.1
  obtain⟨k3,k4⟩:=(amz bs k).2.1
  rw [k1]at t1
  exact⟨hq _ (by rw [k1,k2,k3,k4];omega),fun _=>by omega,fun e=>absurd e (by simp)⟩
 ·simp only at a b c;subst a b c
  obtain⟨k1,k2⟩:=(amz bs 1).1
  obtain⟨k3,k4⟩:=(amz bs k).2.2.1
  rw [k1,k2,k3]at t2
  exact⟨hq _ (by rw [k1,k2,k3,k4];omega),fun e=>absurd e (by simp),fun _=>by omega⟩
 ·simp only at a b c;subst a b c
  obtain⟨k1,k2⟩:=(amz bs 0).1
  obtain⟨k3,k4⟩:=(amz bs k).2.2.2
  rw [k1,k2,k3]at t2
  exact⟨hq _ (by rw [k1,k2,k3,k4];omega),fun e=>absurd e (by simp),fun _=>by omega⟩
theorem aye{i v o:Int}{bs:List TM}{st st':List IN}(hC:jR i v o bs st=true)(h:Tn st=some st'):jR i v o bs st'=true:=by
 have hl:=auy h
 obtain⟨pre,x,y,w,post,rfl,h2,rfl⟩:=acE h
 simp only [jR,q8]at hC ⊢
 obtain⟨h3,h4,h5⟩:=hC
 obtain⟨r1,r2,r3,r4,r5⟩:=Rp.1 h3
 refine⟨Rp.2 ⟨r1,r2,r3,r4,by omega⟩,h4,?_⟩
 rw [arf,MC]at h5 ⊢
 cases hp:hgt i v o bs pre 0 []with
 |none=>rw [hp]at h5;cases h5
 |some q=>
  obtain⟨n,L⟩:=q
  rw [hp]at h5
  simp only at h5 ⊢
  cases hq:hgt i v o bs (x::y::post) n L with
  |none=>rw [hq]at h5;cases h5
  |some p=>
   rw [hq]at h5
   rw [(aw8 h2 hq).1];exact h5
theorem azE{i v o:Int}{bs:List TM}{st:List IN}{xs:avu}{ss:List BS3}(hC:jR i v o bs st=true)(hs:xF v bs xs ss=true):
  OkS i v o bs st (0,[],xs,v5 o.toNat 0,ss):=by
 have hC':=hC
 simp only [jR,q8]at hC'
 obtain⟨ri,rv,ro,rb,rs⟩:=Rp.1 hC'.1
 have e:hAt i v o bs st 0=0:=rfl
 have ho:bitsB o (v5 o.toNat 0)=true:=dF.2 ⟨fun x hx=> .inl (v6 hx),by rw [List.length_replicate];omega⟩
 have e0:bitsB 0 []=true:=rfl
 have hr:inR 0 0 (st.length:Int)=true:=pR.2 (by omega)
 exact axu hC (by simp only [axt,e,e0,ho,hs,hr,Bool.and_self])
theorem avM{i v o:Int}{bs:List TM}{st:List IN}{inp:avu}(hC:jR i v o bs st=true)(FK:bitsB i inp=true){xs:avu}{ss:List BS3}(hs:xF v bs xs ss=true):
  ∀ (k:Nat),k≤st.length→OkS i v o bs st ((k:Int),exL bs inp (st.take k) ([],xs,v5 o.toNat 0,ss))
 |0,_=>azE hC hs
 |k + 1,hk=>by
  have hm:=avM hC FK hs k (by omega)
  have h1:=(au6 hC FK hm (show (k:Int) < st.length by omega)).1
  have hlt:k < st.length:=by omega
  have hi:ah9 st (k:Int)=st[k]:=by simp only [ah9,q9,List.getElem?_eq_getElem hlt,Option.getD_some]
  have e:asF bs st inp ((k:Int),exL bs inp (st.take k) ([],xs,v5 o.toNat 0,ss))=(((k + 1:Nat):Int),exL bs inp (st.take (k + 1)) ([],xs,v5 o.toNat 0,ss)):=by
   rw [List.take_succ_eq_append_getElem hlt,QP]
   have hc:(k:Int) + 1=((k + 1:Nat):Int):=by omega
   generalize exL bs inp (st.take k) ([],xs,v5 o.toNat 0,ss)=s
   obtain⟨stk,xs',os,ss'⟩:=s
   simp only [asF,hi,exL,exI,hc]
  rw [e]at h1
  exact h1
theorem azc{i v o:Int}{bs:List TM}{st st':List IN}{inp:avu}(hC:jR i v o bs st=true)(FK:bitsB i inp=true){xs:avu}{ss:List BS3}(hs:xF v bs xs ss=true)(h:Tn st=some st'):
  exL bs inp st' ([],xs,v5 o.toNat 0,ss)=exL bs inp st ([],xs,v5 o.toNat 0,ss):=by
 obtain⟨pre,x,y,w,post,rfl,h2,rfl⟩:=acE h
 have hm:=avM hC FK hs pre.length (by simp)
 rw [List.take_left]at hm
 rw [QP,QP,QP]
 have hg:=hm.hg
 have hbt:=hm.bt
 generalize exL bs inp pre ([],xs,v5 o.toNat 0,ss)=s at hm hg hbt ⊢
 obtain⟨stk,xs',os,ss'⟩:=s
 simp only [q9,List.take_left]at hg hbt
 obtain⟨L,hL⟩:=hg
 have hC':=hC
 simp only [jR,q8]at hC'
 have h5:=hC'.2.2
 rw [arf,MC,hL]at h5
 simp only at h5
 cases hq:hgt i v o bs (x::y::post) (stk.length:Int) L with
 |none=>rw [hq]at h5;cases h5
 |some p=>
  obtain⟨_,q1,q2,q3⟩:=aw8 h2 hq
  rw [← ayf h2 hbt q3 (fun e=>by have:=q1 e;omega) (fun e=>by have:=q2 e;omega)]
  rfl
theorem apv{i v o:Int}{bs:List TM}{inp:avu}(FK:bitsB i inp=true){xs:avu}{ss:List BS3}(hs:xF v bs xs ss=true): ∀ (n:Nat) (st:List IN),jR i v o bs st=true→
  jR i v o bs (Xl n st)=true∧exL bs inp (Xl n st) ([],xs,v5 o.toNat 0,ss)=exL bs inp st ([],xs,v5 o.toNat 0,ss)∧(Xl n st).length≤st.length
 |0,st,hC=>⟨hC,rfl,Nat.le_refl _⟩
 |n + 1,st,hC=>by
  simp only [Xl]
  cases ho:Tn st with
  |none=>exact⟨hC,rfl,Nat.le_refl _⟩
  |some st'=>
   obtain⟨a,b,c⟩:=apv FK hs n st' (aye hC ho)
   have:=auy ho
   exact⟨a,b.trans (azc hC FK hs ho),Nat.le_trans c (by omega)⟩
theorem axs{nm:aAi}{ins vs os:List aAi}{g:aAi}{ls:List LN}(hS:gj nm ins vs os g ls=true){st:List IN}(hC:jR ins.length vs.length os.length (blL ls) st=true)(xs:avu)(ss:List BS3)(inp:avu)
  (he:bitsB ins.length inp=true→xF vs.length (blL ls) xs ss=true→exL (blL ls) inp st ([],xs,v5 os.length 0,ss)=exL (blL ls) inp (cpS ins vs os g ls) ([],xs,v5 os.length 0,ss)):
  OX ins.length vs.length os.length (blL ls) st xs ss inp=aaq nm ins vs os g ls xs ss [inp]∧rcO ins.length vs.length os.length (blL ls) st xs ss inp=rnO nm ins vs os g ls xs ss inp∧
  rcV ins.length vs.length os.length (blL ls) st xs ss inp=rnV nm ins vs os g ls xs ss inp∧rcS ins.length vs.length os.length (blL ls) st xs ss inp=rnB nm ins vs os g ls xs ss inp:=by
 have e0:OX ins.length vs.length os.length (blL ls) st xs ss inp=aaq nm ins vs os g ls xs ss [inp]:=by
  simp only [OX,aaq,hC,hS,Bool.not_true,cond_false,List.all_cons,List.all_nil,Bool.and_true]
  cases xF vs.length (blL ls) xs ss <;> cases bitsB ins.length inp <;> rfl
 simp only [rcO,rcV,rcS,rnO,rnV,rnB,e0]
 cases hz:(aaq nm ins vs os g ls xs ss [inp]!=0)with
 |true=>
  have:(aaq nm ins vs os g ls xs ss [inp]==0)=false:=by simpa using hz
  rw [this];exact⟨trivial,rfl,rfl,rfl⟩
 |false=>
  have h0:(aaq nm ins vs os g ls xs ss [inp]==0)=true:=by simpa using hz
  obtain⟨_,hs,hi⟩:=aap.1 (asv hz)
  have e:=azQ os.length (blL ls) st inp xs ss
  rw [q9,he hi hs,ax6 hS hi hs]at e
  rw [h0,e];exact⟨trivial,rfl,rfl,rfl⟩
theorem azi{nm:aAi}{ins vs os:List aAi}{g:aAi}{ls:List LN}(hS:gj nm ins vs os g ls=true)(xs:avu)(ss:List BS3)(inp:avu):
  jR ins.length vs.length os.length (blL ls) (cpS ins vs os g ls)=true∧jR ins.length vs.length os.length (blL ls) (Xl (cpS ins vs os g ls).length (cpS ins vs os g ls))=true∧
  (Xl (cpS ins vs os g ls).length (cpS ins vs os g ls)).length≤(cpS ins vs os g ls).length∧
  (OX ins.length vs.length os.length (blL ls) (cpS ins vs os g ls) xs ss inp=aaq nm ins vs os g ls xs ss [inp]∧rcO ins.length vs.length os.length (blL ls) (cpS ins vs os g ls) xs ss inp=rnO nm ins vs os g ls xs ss inp∧
  rcV ins.length vs.length os.length (blL ls) (cpS ins vs os g ls) xs ss inp=rnV nm ins vs os g ls xs ss inp∧rcS ins.length vs.length os.length (blL ls) (cpS ins vs os g ls) xs ss inp=rnB nm ins vs os g ls xs ss inp)∧
  (OX ins.length vs.length os.length (blL ls) (Xl (cpS ins vs os g ls).length (cpS ins vs os g ls)) xs ss inp=aaq nm ins vs os g ls xs ss [inp]∧rcO ins.length vs.length os.length (blL ls) (Xl (cpS ins vs os g ls).length (cpS ins vs os g ls)) xs ss inp=rnO nm ins vs os g ls xs ss inp∧
  rcV ins.length vs.length os.length (blL ls) (Xl (cpS ins vs os g ls).length (cpS ins vs os g ls)) xs ss inp=rnV nm ins vs os g ls xs ss inp∧rcS ins.length vs.length os.length (blL ls) (Xl (cpS ins vs os g ls).length (cpS ins vs os g ls)) xs ss inp=rnB nm ins vs os g ls xs ss inp):=by
 have hC:=ax2 hS
 have hz:=asH hS
 obtain⟨a1,a2,a3⟩:=apv (inp:=v5 ins.length 0) (dF.2 ⟨fun x hx=> .inl (v6 hx),by rw [List.length_replicate]⟩) hz (cpS ins vs os g ls).length (cpS ins vs os g ls) hC
 refine⟨hC,a1,a3,axs hS hC xs ss inp fun _ _=>rfl,axs hS a1 xs ss inp fun hi hs=> ?_⟩
 have:=(apv hi hs (cpS ins vs os g ls).length (cpS ins vs os g ls) hC).2.1
 rw [q9]at this
 exact this
theorem azs{c:avu}(hb: ∀ (i:Nat) (x:Int),c[i]? =some x→0≤x∧x≤255)(h:uy c=false):aG 0 0 c=true:=by
 simp only [uy]at h
 have hn:=Yj.1 h
 refine aiU.2 ⟨by omega,by omega,by omega,fun x hx=> ?_⟩
 obtain⟨i,hi,rfl⟩:=List.mem_iff_getElem.1 hx
 exact hb i _ (List.getElem?_eq_getElem hi)
theorem ayE(nm:aAi)(ins vs os:List aAi)(g:aAi)(ls:List LN)(xs:avu)(ss:List BS3)(inp:avu):
  (rnO nm ins vs os g ls xs ss inp).length≤20∧(rnV nm ins vs os g ls xs ss inp).length≤20∧(rnB nm ins vs os g ls xs ss inp).length≤1600:=by
 refine⟨(axG nm ins vs os g ls xs ss inp).2,?_⟩
 simp only [rnV,rnB]
 cases hz:(aaq nm ins vs os g ls xs ss [inp]!=0)with
 |true=>exact⟨by simp,by simp⟩
 |false=>
  obtain⟨h1,h2,h3⟩:=aap.1 (asv hz)
  have hS:=ak4 h1 h3
  obtain⟨s1,s2,_⟩:=Yd.1 (asu (os:=os) (g:=g) h3 hS.hL h2).1
  have b2:=(dF.1 s2).2
  have hb:=hS.bl
  have hv:=hS.h2
  exact⟨by simp only [cond_false];omega,by simp only [cond_false];omega⟩
theorem azy{nm:aAi}{ins vs os:List aAi}{g:aAi}{ls:List LN}(h:prD nm ins vs os g ls=true)(hS:gj nm ins vs os g ls=true):ayM (blL ls)=true:=by
 obtain⟨_,_,_,_,_,h6⟩:=JY.1 h
 obtain⟨_,l1⟩:=zd.1 h6
 obtain⟨_,hL,_,_,hn,_⟩:=Vb hS
 have hb:=arJ ls hL
 refine atT.2 ⟨by omega,fun t ht=> ?_⟩
 obtain⟨x,hx,hx2⟩:=List.mem_flatMap.1 ht
 have:=(Co.1 (l1 x hx).2).2 t (List.mem_filter.1 hx2).1
 omega
theorem atj(c:avu)(w:wfD (.sl 5 (.int .u8)) c):KU c=true∧KV c=true:=by
 have hb: ∀ (i:Nat) (x:Int),c[i]? =some x→0≤x∧x≤255:=fun i x hx=>azU (w.2 x (List.mem_of_getElem? hx))
 cases hbig:uy c with
 |true=>simp [KU,KV,allT,hbig]
 |false=>
  have hsrc:=azs hb hbig
  obtain⟨_,d1,d2,d3,d4⟩:=Xn c hsrc
  have r0:=Eq.refl (KU c)
  have r1:=Eq.refl (KV c)
  conv at r0=>rhs;simp only [KU,eY,eG,eH,eI,qX,Ic,gk,eZ,Ei,Ie,Cw,MN,Gf,yz,uv,uw,ux,rH,pK,MO,MP,MQ,MR,Gg,MT,MU,S0z,allT,hbig]
  conv at r1=>rhs;simp only [KV,eY,eG,eH,eI,qX,Ic,gk,eZ,Ei,Ie,Cw,MN,Gf,yz,uv,uw,ux,rH,pK,MO,MP,MQ,MR,Gg,MT,MU,S0z,allT,hbig,hsrc]
  rw [r0,r1]
  clear r0 r1
  generalize u0:bh c=nm at *
  generalize u1:bi c=g at *
  generalize u2:bj c=ins at *
  generalize u3:bk c=vs at *
  generalize u4:bm c=os at *
  generalize u5:bn c=ls at *
  generalize u6:cE c=xs at *
  generalize u7:dI c=ss at *
  generalize u8:cF c=inp at *
  have pk:=asr d1
  have cd:cdG nm ins vs os g ls xs [inp]=true:=avk.2 ⟨pk,aY (by omega),by simp,fun l hl=>by rw [v7.1 hl];exact aY (by omega)⟩
  cases hS:gj nm ins vs os g ls with
  |false=>
   have zI:cpI nm ins vs os g ls=0:=by simp only [cpI,hS,cond_false]
   have zV:cpV nm ins vs os g ls=0:=by simp only [cpV,hS,cond_false]
   have zO:cpO nm ins vs os g ls=0:=by simp only [cpO,hS,cond_false]
   have zC:cpC nm ins vs os g ls=1:=by simp only [cpC,hS,cond_false]
   have zB:cpB nm ins vs os g ls= []:=by simp only [cpB,hS,cond_false]
   have zL:cpL nm ins vs os g ls= []:=by simp only [cpL,hS,cond_false]
   obtain⟨l0,l1⟩:=atp 0 0 0 [] [] (by simp) (by simp)
   have sc:aaq nm ins vs os g ls xs ss [inp]=1:=by simp only [aaq,hS,Bool.not_false,cond_true]
   have k1:((1:Int)!=0)=true:=rfl
   refine⟨?_,?_⟩ <;> simp only [zI,zV,zO,zC,zB,zL,l0,l1,sc,k1,cd,pk,d1,S0z,allT]
  |true=>
   have zI:cpI nm ins vs os g ls=ins.length:=by simp only [cpI,hS,cond_true]
   have zV:cpV nm ins vs os g ls=vs.length:=by simp only [cpV,hS,cond_true]
   have zO:cpO nm ins vs os g ls=os.length:=by simp only [cpO,hS,cond_true]
   have zC:cpC nm ins vs os g ls=0:=by simp only [cpC,hS,cond_true]
   have zB:cpB nm ins vs os g ls=blL ls:=by simp only [cpB,hS,cond_true]
   have zL:cpL nm ins vs os g ls=cpS ins vs os g ls:=by simp only [cpL,hS,cond_true]
   obtain⟨m1,m2,m3,⟨q0,q1,q2,q3⟩,⟨v0,v1,v2,v3⟩⟩:=azi hS xs ss inp
   have m1':=m1
   simp only [jR,q8]at m1'
   obtain⟨_,_,_,rb,rs⟩:=Rp.1 m1'.1
   obtain⟨l0,l1⟩:=atp (ins.length:Int) (vs.length:Int) (os.length:Int) (blL ls) (cpS ins vs os g ls) (by omega) (by omega)
   obtain⟨s1,s2,s3⟩:=ayE nm ins vs os g ls xs ss inp
   have nd:auR (blL ls) xs inp=true:=by
    simp only [auR,azy d1 hS,aY (show xs.length≤1048576 by omega),aY (show inp.length≤1048576 by omega),Bool.and_self]
   have n1:leN (rnO nm ins vs os g ls xs ss inp).length 9223372036854775807=true:=aY (by omega)
   have n2:leN (rnV nm ins vs os g ls xs ss inp).length 9223372036854775807=true:=aY (by omega)
   have n3:leN (rnB nm ins vs os g ls xs ss inp).length 9223372036854775807=true:=aY (by omega)
   have n4:leI ((Xl (cpS ins vs os g ls).length (cpS ins vs os g ls)).length:Int) ((cpS ins vs os g ls).length:Int)=true:=bx (by omega)
   refine⟨?_,?_⟩ <;> simp only [zI,zV,zO,zC,zB,zL,l0,l1,m1,m2,q0,q1,q2,q3,v0,v1,v2,v3,n1,n2,n3,n4,nd,cd,pk,d1,asZ,axn,S0z,allT]
end Go.SX
