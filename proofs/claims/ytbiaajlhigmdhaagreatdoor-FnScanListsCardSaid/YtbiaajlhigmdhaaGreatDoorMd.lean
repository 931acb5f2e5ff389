/- What functions of the program come to, and what that says in plain words: part 4. -/
import Derived.Test.YtbiaajlhigmdhaaGreatDoorMc
import Derived.Test.YtbiaajlhigmdhaaGreatDoorTXh
import Derived.Test.YtbiaajlhigmdhaaGreatDoorProg
import Derived.Test.YtbiaajlhigmdhaaGreatDoorTXi
set_option linter.unusedSimpArgs false
set_option linter.unusedVariables false
open Bool renaming and_eq_true → q8
open Int renaming toNat_natCast → q9
open List renaming length_singleton → w5
open List renaming length_append → j6
open List renaming length_cons → j7
open Bool renaming or_true → j8
open Bool renaming cond_self → j9
open Int renaming toNat → k7
open List renaming length → k8
open Option renaming getD → k9
open Go.IntKind renaming wrap → v5
open List renaming replicate → v6
namespace Go.SX
open Go.Proofs Go.Proofs.Tryz
set_option maxRecDepth 100000
theorem avb{m:Nat}{a:List LN}(i:Nat){b:LN}(h:afm m a=true)(h1:b.1.size≤1000)(h2:Zd 100 b.2=true):afm m (a.set i b)=true:=by
 obtain⟨k1,k2⟩:=Tj.1 h
 refine Tj.2 ⟨by rw [List.length_set];omega,fun x hx=> ?_⟩
 rcases List.mem_or_eq_of_mem_set hx with hx | hx
 ·exact k2 x hx
 ·rw [hx];exact⟨h1,h2⟩
theorem aAi{m:Nat}{l:List LN}{d:LN}(h:afm m l=true)(k:Nat)(hd:d.1.size≤1000∧Zd 100 d.2=true):(k9 l[k]? d).1.size≤1000∧Zd 100 (k9 l[k]? d).2=true:=by
 cases hk:l[k]? with
 |none=>exact hd
 |some s=>exact(Tj.1 h).2 s (List.mem_of_getElem? hk)
 attribute [local irreducible] nxA nxS nxV pkA pkS pkV
theorem agk(c:avO)(x:qV)(hx:match x with | (a,b,d,e)=>22≤a.length + (22:Nat)∧aG b d e=true∧a.length + (22:Nat)≤30∧Vv 50 a=true∧e=c):
  ir.fin x=true∧ ∃ j y,ir.res x=(j,y)∧(match y with | (a,b,d,e)=>aG b d c=true∧Vv 50 a=true∧c=e):=by
 refine ir.inv2 (fun k x=>match x with | (a,b,d,e)=>22≤a.length + k∧aG b d e=true∧a.length + k≤30∧Vv 50 a=true∧e=c) (fun y=>match y with | (a,b,d,e)=>aG b d c=true∧Vv 50 a=true∧c=e) (fun k x hx=> ?_) (fun x hx=> ?_) 22 x (by omega) hx
 ·obtain⟨a,b,d,e⟩:=x
  obtain⟨h0,h1,h2,h3,rfl⟩:=hx
  have hd:TD a=true:=by simp only [TD,q8];exact⟨bk (by omega),dw (by omega)⟩
  have ds:=(ayt _ hd).2
  have l0:(JO a).length=1:=rfl
  have p0:TB b d e=true:=h1
  have p3:aaR a=true:=bx (by have:(ByteArray.mk #[105]).size=1:=rfl;omega)
  have p4:aaS a=true:=bx (by rw [l0];omega)
  have p5:aaT a=true:=bx (by rw [l0];omega)
  have l6:(Lb a).length=a.length + 1:=by simp only [Lb,j6,l0]
  have m6:Vv 50 (Lb a)=true:=by
   refine td.2 ⟨by omega,fun s hs=> ?_⟩
   rcases List.mem_append.1 hs with hs | hs
   ·exact(td.1 h3).2 s hs
   ·rw [List.mem_singleton.1 hs,ByteArray.size_append]
    have:(ByteArray.mk #[105]).size=1:=rfl
    omega
  have s7:aG (FL b e) (FM b d e) e=true:=jR h1
  simp only [ir,Re,LT.ok,Wa,Wb,and_true,true_and,p0,hd,p3,p4,p5]
  exact⟨fun _=>⟨by omega,s7,by omega,m6⟩,fun _=>⟨h1,h3⟩⟩
 ·obtain⟨a,b,d,e⟩:=x
  obtain⟨h0,h1,h2,h3,rfl⟩:=hx
  have nn:=OG (n:=2) h1 (by omega)
  have hw:IntKind.i64.wrap (20 + nxV 2 b d e)=20 + nxV 2 b d e:=aM (by omega) (by omega)
  have e1:TC a b d e=false:=by simp only [TC,hw];exact IZ (by omega)
  have p0:TB b d e=true:=h1
  simp only [ir,Re,LT.ok,Wa,Wb,and_true,true_and,p0,e1,Bool.false_eq_true,false_implies,true_implies]
  exact⟨h1,h3⟩
theorem agl(c:avO)(x:qW)(hx:match x with | (a,b,d,e)=>42≤a.length + (42:Nat)∧aG b d e=true∧a.length + (42:Nat)≤92∧1≤a.length∧afm 100 a=true∧e=c):
  iu.fin x=true∧ ∃ j y,iu.res x=(j,y)∧(match y with | (a,b,d,e)=>aG b d c=true∧afm 100 a=true∧c=e):=by
 refine iu.inv2 (fun k x=>match x with | (a,b,d,e)=>42≤a.length + k∧aG b d e=true∧a.length + k≤92∧1≤a.length∧afm 100 a=true∧e=c) (fun y=>match y with | (a,b,d,e)=>aG b d c=true∧afm 100 a=true∧c=e) (fun k x hx=> ?_) (fun x hx=> ?_) 42 x (by omega) hx
 ·obtain⟨a,b,d,e⟩:=x
  obtain⟨h0,h1,h2,h3,h4,rfl⟩:=hx
  have l2:(JR a).length=1:=rfl
  have p0:TE b d e=true:=h1
  have p2:aaU=true:=rfl
  have p3:aaV a=true:=dw (by simp only [JP];omega)
  have p4:aaW a=true:=eD (by simp only [Int.toNat_zero];omega)
  have p5:aaX a=true:=bx (by rw [l2];omega)
  have p6:aaY a=true:=bx (by rw [l2];omega)
  have l7:(Lc a).length=a.length + 1:=by simp only [Lc,j6,l2]
  have ha:(JQ a).1.size≤1000∧Zd 100 (JQ a).2=true:=aAi h4 _ ⟨Nat.zero_le _,rfl⟩
  have m7:afm 100 (Lc a)=true:=by
   refine Tj.2 ⟨by omega,fun x hx=> ?_⟩
   rcases List.mem_append.1 hx with hx | hx
   ·exact(Tj.1 h4).2 x hx
   ·rw [List.mem_singleton.1 hx];exact ha
  have s7:aG (FN b e) (FO b d e) e=true:=jR h1
  simp only [iu,Rf,LT.ok,Wa,Wb,and_true,true_and,p0,p2,p3,p4,p5,p6]
  exact⟨fun _=>⟨by omega,s7,by omega,by omega,m7⟩,fun _=>⟨h1,h4⟩⟩
 ·obtain⟨a,b,d,e⟩:=x
  obtain⟨h0,h1,h2,h3,h4,rfl⟩:=hx
  have nn:=OG (n:=2) h1 (by omega)
  have hw:IntKind.i64.wrap (40 + nxV 2 b d e)=40 + nxV 2 b d e:=aM (by omega) (by omega)
  have e1:TF a b d e=false:=by simp only [TF,JP,hw];exact IZ (by omega)
  have p0:TE b d e=true:=h1
  simp only [iu,Rf,LT.ok,Wa,Wb,and_true,true_and,p0,e1,Bool.false_eq_true,false_implies,true_implies]
  exact⟨h1,h4⟩
theorem aA1{i:Int}{l:List avP}(h:0≤i∧i < 3)(hl:l.length=3):leI 0 i=true∧ltI i (l.length:Int)=true∧ltN i.toNat l.length=true:=⟨bk h.1,dw (by omega),eD (by omega)⟩
theorem aA2{i:Int}{l:List avP}(h:0≤i∧i < 4)(hl:l.length=4):leI 0 i=true∧ltI i (l.length:Int)=true∧ltN i.toNat l.length=true:=⟨bk h.1,dw (by omega),eD (by omega)⟩
theorem aaQ(a b:Int)(c:avO)(h:aG a b c=true):
  Yz a b c=true∧aG (KV a b c) (KW a b c) c=true∧prD (KT a b c) (KX a b c) (KY a b c) (KZ a b c) (KU a b c) (La a b c)=true:=by
 obtain⟨_,s0,⟨hp,_⟩,l7,l7'⟩:=YH a b c h
 obtain⟨b1,b2,b3,b4,b5,b6⟩:=Pu.1 hp
 have m4:Vv 3 (pg a b c)=true:=agc _ rfl
 have m5:Vv 3 (fK a b c)=true:=agc _ rfl
 have c4:=(td.1 m4).1
 have c5:=(td.1 m5).1
 obtain⟨i0,i1⟩:0≤qm a b c∧qm a b c < nf a b c:=OG s0 (by simp only [nf];omega)
 have s1:aG (nxA (nf a b c) (tp a b c) c) (PB a b c) c=true:=jR s0
 have s4:aG (dF a b c) (fl a b c) c=true:=jR s1
 have k6:0≤rO a b c∧rO a b c < 3:=OG (n:=3) s4 (by omega)
 have k21:0≤ql a b c∧ql a b c < 4:=OG (n:=4) s4 (by omega)
 obtain⟨d1,d2,d3⟩:=RZ (dF a b c) (fl a b c) c s4
 obtain⟨f0,j0,⟨z0,z1,z2,z3⟩,g0,q1,q2,q3⟩:=agk c (Dg a b c) (by
  simp only [Dg,My]
  exact⟨by omega,s4,by omega,b2,trivial⟩)
 obtain⟨f1,j1,⟨u0,u1,u2,u3⟩,g1,r1,r2,r3⟩:=agl c (Dh a b c) (by
  simp only [Dh,My]
  exact⟨by omega,s4,by omega,l7,b6,trivial⟩)
 have e1:(zG a b c).1=z1:=by simp only [zG,g0]
 have e2:((zG a b c).2).1=z2:=by simp only [zG,g0]
 have e0:((Lp.res ir (Dg a b c)).2).1=z0:=by rw [g0]
 have v1:(zH a b c).1=u1:=by simp only [zH,g1]
 have v2:((zH a b c).2).1=u2:=by simp only [zH,g1]
 have v0:((Lp.res iu (Dh a b c)).2).1=u0:=by rw [g1]
 have ha:(Mz a b c).1.size≤1000∧Zd 100 (Mz a b c).2=true:=aAi b6 _ ⟨Nat.zero_le _,rfl⟩
 have m22:Vv 1 (zI a b c)=true:=td.2 ⟨Nat.le_refl _,fun s hs=>by rw [List.mem_singleton.1 hs];exact aob (n:=4) rfl _⟩
 have c1:=bk i0
 have c2:=dw i1
 have c3:Vi a b c=true:=eD (by simp only [nf]at i1;omega)
 refine⟨?_,?_,?_⟩
 ·obtain⟨t1,t2,t3⟩:=aA1 (l:= [ByteArray.mk #[],ByteArray.mk #[101,110,100],ByteArray.mk #[82,105,100,101]]) k6 rfl
  obtain⟨t4,t5,t6⟩:=aA1 (l:= [ByteArray.mk #[97,110,100],ByteArray.mk #[120],ByteArray.mk #[110,111,119,104,101,114,101]]) k6 rfl
  obtain⟨t7,t8,t9⟩:=aA2 (l:= [ByteArray.mk #[],ByteArray.mk #[111,114],ByteArray.mk #[97],ByteArray.mk #[113]]) k21 rfl
  obtain⟨w7,w8,w9⟩:=aA2 (l:= [ByteArray.mk #[97],ByteArray.mk #[113],ByteArray.mk #[119],ByteArray.mk #[111,110]]) k21 rfl
  have l22:(zI a b c).length=1:=rfl
  have n1:leN ((fK a b c).length + (zI a b c).length) 9223372036854775807=true:=bx (by rw [l22];omega)
  have n2:leN (((fK a b c).length + (zI a b c).length) * 16) 140737488355328=true:=bx (by rw [l22];omega)
  have n3:leN (0 + (fK a b c).length) 9223372036854775807=true:=bx (by omega)
  have n4:leN ((0 + (fK a b c).length) * 16) 140737488355328=true:=bx (by omega)
  simp only [Yz,h,s0,s1,s4,d1,f0,f1,c1,c2,c3,t1,t2,t3,t4,t5,t6,t7,t8,t9,w7,w8,w9,n1,n2,n3,n4,allT,j8,Bool.and_self,cond_true]
 ·simp only [KV,KW,e1,e2,v1,v2,FL,FM,FN,FO]
  exact rt (jR s4) (rt s4 (rt (jR s4) (rt (jR s4) (rt d2 (rt (jR q1) (rt (jR r1) (rt (jR s4) s4)))))))
 ·simp only [KT,KU,KX,KY,KZ,La,e0,v0]
  cases aC a b c <;> simp only [cond_true,cond_false]
  ·cases aU a b c <;> simp only [cond_true,cond_false]
   ·cases aV a b c <;> simp only [cond_true,cond_false]
    ·cases bu a b c <;> simp only [cond_true,cond_false]
     ·cases cu a b c <;> simp only [cond_true,cond_false]
      ·cases dV a b c <;> simp only [cond_true,cond_false]
       ·cases ey a b c <;> simp only [cond_true,cond_false]
        ·cases eQ a b c <;> simp only [cond_true,cond_false]
         ·exact hp
         ·exact Pu.2 ⟨b1,b2,ajN m5 m22 (by omega),b4,b5,b6⟩
        ·exact Pu.2 ⟨b1,b2,b3,b4,b5,r2⟩
       ·exact Pu.2 ⟨b1,q2,b3,b4,b5,b6⟩
      ·exact Pu.2 ⟨b1,b2,b3,b4,b5,avb _ b6 ha.1 d3⟩
     ·exact Pu.2 ⟨b1,b2,b3,b4,b5,avb _ b6 (aob (n:=4) rfl _) ha.2⟩
    ·exact Pu.2 ⟨b1,b2,b3,b4,aob (n:=3) rfl _,b6⟩
   ·exact Pu.2 ⟨b1,rfl,b3,b4,Nat.zero_le _,b6⟩
  ·exact Pu.2 ⟨aob (n:=3) rfl _,b2,b3,b4,b5,b6⟩
def aef:awh
 | [.one ⟨false,[.ptr 0 0]⟩],[.box 113 [.ref 1,.val (.int .i64 a),.val (.int .i64 b)],.row false 5 (.int .u8) c]=>some ⟨.one ⟨true,[.val (.string (KT a b c)),.ref 2,.ref 3,.ref 4,.val (.string (KU a b c)),.ref 5]⟩,[.box 113 [.ref 1,axb (KV a b c),axb (KW a b c)],aBL c],[aBJ (KX a b c),aBJ (KY a b c),aBJ (KZ a b c),aBR (La a b c)],[aG a b c]⟩
 |_,_=>none
def XZ:PF prog:=PF.alt aoh aef (by
 intro args es o h cA;unfold aef at h;split at h
 ·rename_i a b c
  cases h
  have cA:=jQ cA
  have hh:=(aaQ a b c cA).1
  have en:=hh
  exact pW rfl (ip en) rfl rfl rfl
 ·cases h)
end Go.SX
namespace Go.SX
open Go.Proofs Go.Proofs.Tryz
set_option maxRecDepth 100000
section
variable (a b:Int)(c:avO)
def uR:Bool:=nxV 4 a b c==0
def abA:Bool:=aG (nxA 4 a c) (nxS 4 a b c) c
def uO:avP:=bif uR a b c then KT (nxA 4 a c) (nxS 4 a b c) c else tn (nxA 4 a c) (nxS 4 a b c) c
def uP:avP:=bif uR a b c then KU (nxA 4 a c) (nxS 4 a b c) c else uM (nxA 4 a c) (nxS 4 a b c) c
def xG:Int:=bif uR a b c then KV (nxA 4 a c) (nxS 4 a b c) c else tp (nxA 4 a c) (nxS 4 a b c) c
def xH:Int:=bif uR a b c then KW (nxA 4 a c) (nxS 4 a b c) c else FP (nxA 4 a c) (nxS 4 a b c) c
def ph:List avP:=bif uR a b c then KX (nxA 4 a c) (nxS 4 a b c) c else pg (nxA 4 a c) (nxS 4 a b c) c
def tt:List avP:=bif uR a b c then KY (nxA 4 a c) (nxS 4 a b c) c else fK (nxA 4 a c) (nxS 4 a b c) c
def tu:List avP:=bif uR a b c then KZ (nxA 4 a c) (nxS 4 a b c) c else tq (nxA 4 a c) (nxS 4 a b c) c
def uQ:afa:=bif uR a b c then La (nxA 4 a c) (nxS 4 a b c) c else il (nxA 4 a c) (nxS 4 a b c) c
def adB:Bool:=allT [aG a b c,!uR a b c||abA a b c,uR a b c||abA a b c]
end
def aiO:awh
 | [.one ⟨false,[.ptr 0 0]⟩],[.box 113 [.ref 1,.val (.int .i64 a),.val (.int .i64 b)],.row false 5 (.int .u8) c]=>some ⟨.one ⟨true,[.val (.string (uO a b c)),.ref 2,.ref 3,.ref 4,.val (.string (uP a b c)),.ref 5]⟩,[.box 113 [.ref 1,axb (xG a b c),axb (xH a b c)],aBL c],[aBJ (ph a b c),aBJ (tt a b c),aBJ (tu a b c),aBR (uQ a b c)],[adB a b c]⟩
 |_,_=>none
def arS:PF prog:=PF.ofG prog (T3z [ai,uD,XZ]) [] aT 52 f52 func52 (fun c _=>LOk.nil c) aiO (by
 intro _ _ _ h;unfold aiO at h;split at h<;>cases h;kernel_rfl)
abbrev mg:=Int×Int×Int×List Int×List (Int×(Int×Int))×List Int
section
variable (a b c:Int)(d e:avO)
def GA:Bool:=ltI a (↑d.length:Int)
def Xl:Bool:=aG b c e
def Xm:Bool:=leI 0 a
def Xn:Bool:=ltN a.toNat d.length
def Xo:Int:=v5 .i64 (a + (1:Int))
def Xp:Int:=nxA 2 b e
def Xq:Int:=nxS 2 b c e
def Xr:avO:=List.set d a.toNat (nxV 2 b c e)
end
def aeZ:mg→List (Nat×SV)
 |(a,_,_,_,_,_)=> [(7,(aBC a)),(5,(aBB (.ptr 0 0))),(0,(aBB (.ptr 1 0)))]
def aeW:mg→List (Nat×Entry)
 |(_,a,b,c,d,e)=> [(0,(.box 50 [.ref 2,.ref 3])),(1,(.box 113 [.ref 4,axb a,axb b])),(2,(aBE c)),(3,(aBK d)),(4,(aBL e))]
def ae5:Nat→mg→List (Nat×SV)
 |_,_=>[]
def Fg:mg→LT mg
 |(a,b,c,d,e,f)=> .ite (GA a d) (.need [Xl b c f,Xm a,GA a d,Xn a d] (.nrm ((Xo a),Xp b f,Xq b c f,Xr a b c d f,e,f) [(0,0),(1,1),(2,2),(3,3),(4,4)])) (.ext 0 [(0,0),(1,1),(2,2),(3,3),(4,4)])
def LH(s:St):Option mg:=do
 let some ⟨none,.one ⟨false,[.val (.int .i64 a)]⟩⟩:=s.look 7|none
 let some ⟨none,.one ⟨false,[.ptr 1088 0]⟩⟩:=s.look 5|none
 let some ⟨none,.one ⟨false,[.ptr 0 0]⟩⟩:=s.look 0|none
 let some (.box 50 [.ref 832,.ref 833]):=s.ent 1088|none
 let some (.box 113 [.ref 5,.val (.int .i64 b),.val (.int .i64 c)]):=s.ent 0|none
 let some (.row true 2 (.int .i64) d):=s.ent 832|none
 let some (.row true 109 (.pair (.int .i64) (.pair (.int .i64) (.int .i64))) e):=s.ent 833|none
 let some (.row false 5 (.int IntKind.u8) f):=s.ent 5|none
 some (a,b,c,d,e,f)
def gN:Lp mg where
 h:=⟨[62,63,64,65,66,69,70,71,72,73,74,67,68,7],[0,1,2,3,4],[],[]⟩
 JL:=aeZ
 JE:=aeW
 XL:=ae5
 XE:=fun _=>aeW
 q:=fun j=>match j with | _=> .exit 1
 tags:= [0]
 lt:=Fg
 fuel:=fun(a,b,c,d,e,f)=>a.natAbs + b.natAbs + c.natAbs + d.length + e.length + f.length
 fix:=fun(_,_,_,_,e,f) (a,b,c,d,_,_)=>(a,b,c,d,e,f)
 σ:= [(0,1088),(1,0),(2,832),(3,833),(4,5)]
 rd:=LH
theorem ac0:LoopOk prog (fun k=>Nat.blt k Tryz.f56.ntmps) gN.F (bj f56 0):=by
 refine Lp.ok (tbl:= (T3z [ug,ai,cY,db,uf])) (lf:= []) aT gN (by kernel_rfl) (LOk.nil _) (fun _=>rfl) (fun _ _=>rfl) ?_ ?_ ?_ ?_ (fun _=>rfl) ?_
 ·intro _;kernel_rfl
 ·intro _;kernel_rfl
 ·intro s x h
  have h:LH s=some x:=h
  unfold LH at h
  repeat' split at h
  all_goals cases h
  constructor<;>repeat(first|refine ab ‹_› rfl ?_|refine aa rfl ‹_› rfl ?_|rfl)
 ·intro _;kernel_rfl
 ·intro _ _;exact(And.intro rfl trivial)
section
variable (a b:avP)(c d:Int)(e f g:List avP)(i:afZ)(j:avO)
def cn:Bool:=rgC a e f g b i (bm a b c d e f g i j)!=0
def JX:Int:=nxV 30 (ut a b c d e f g i j) (xK a b c d e f g i j) j
def ez:Bool:=JX a b c d e f g i j==0
def na:Int:=nxA 30 (ut a b c d e f g i j) j
def gE:Bool:=JX a b c d e f g i j==1
def pT:Bool:=JX a b c d e f g i j==2
def kW:Bool:=ltI 0 (↑(k8 (rgB a e f g b i (bm a b c d e f g i j))):Int)
def En:Bool:=JX a b c d e f g i j==3
def pU:Int:=nxS 30 (ut a b c d e f g i j) (xK a b c d e f g i j) j
def iz:avO:=rgV a e f g b i (bm a b c d e f g i j)
def HR:Int×Int×Int×avO×asZ×avO:=((0:Int),na a b c d e f g i j,pU a b c d e f g i j,iz a b c d e f g i j,rgB a e f g b i (bm a b c d e f g i j),j)
def yY:Int×Int×avO×asZ×avO:=(Lp.res gN (HR a b c d e f g i j)).2.2
def yZ:Int×avO×asZ×avO:=(yY a b c d e f g i j).2
def YO:Int×Int:=(k9 (rgB a e f g b i (bm a b c d e f g i j))[k7 0]? ((0:Int),(0:Int),(0:Int))).2
def FZ:Int:=bif cn a b c d e f g i j then ut a b c d e f g i j else bif ez a b c d e f g i j then na a b c d e f g i j else bif gE a b c d e f g i j then na a b c d e f g i j else bif pT a b c d e f g i j then bif kW a b c d e f g i j then pkA (na a b c d e f g i j) [(-1:Int),(1:Int),(9:Int)] j else na a b c d e f g i j else bif En a b c d e f g i j then (yY a b c d e f g i j).1else na a b c d e f g i j
def Ga:Int:=bif cn a b c d e f g i j then xK a b c d e f g i j else bif ez a b c d e f g i j then pU a b c d e f g i j else bif gE a b c d e f g i j then pU a b c d e f g i j else bif pT a b c d e f g i j then bif kW a b c d e f g i j then pkS (na a b c d e f g i j) (pU a b c d e f g i j) [(-1:Int),(1:Int),(9:Int)] j else pU a b c d e f g i j else bif En a b c d e f g i j then (yZ a b c d e f g i j).1else pU a b c d e f g i j
def Gb:avO:=bif cn a b c d e f g i j then v6 (k7 (↑f.length:Int)) (0:Int)else bif ez a b c d e f g i j then iz a b c d e f g i j++ [(0:Int)]else bif gE a b c d e f g i j then iz a b c d e f g i j else bif pT a b c d e f g i j then iz a b c d e f g i j else bif En a b c d e f g i j then ((yZ a b c d e f g i j).2).1else iz a b c d e f g i j
def Gc:asY:=bif cn a b c d e f g i j then []else bif ez a b c d e f g i j then rgB a e f g b i (bm a b c d e f g i j)else bif gE a b c d e f g i j then rgB a e f g b i (bm a b c d e f g i j)++ [((0:Int),(0:Int),(0:Int))]else bif pT a b c d e f g i j then bif kW a b c d e f g i j then List.set (rgB a e f g b i (bm a b c d e f g i j)) (k7 0) (pkV (na a b c d e f g i j) (pU a b c d e f g i j) [(-1:Int),(1:Int),(9:Int)] j,(YO a b c d e f g i j).1,(YO a b c d e f g i j).2)else rgB a e f g b i (bm a b c d e f g i j)else bif En a b c d e f g i j then rgB a e f g b i (bm a b c d e f g i j)else rgB a e f g b i (bm a b c d e f g i j)
def TK:Bool:=allT [aG c d j&&leN e.length (50:Nat),rgN a e f g b i (bm a b c d e f g i j),!cn a b c d e f g i j||leI 0 (↑f.length:Int),!cn a b c d e f g i j||leI (↑f.length:Int) (↑f.length:Int),!cn a b c d e f g i j||leI ((↑(8:Nat):Int) * (↑f.length:Int)) 281474976710656,!cn a b c d e f g i j||leI (↑f.length:Int) 9223372036854775807,cn a b c d e f g i j||aG (ut a b c d e f g i j) (xK a b c d e f g i j) j,cn a b c d e f g i j||(!ez a b c d e f g i j||leN (k8 (iz a b c d e f g i j)) 1048576),cn a b c d e f g i j||(!ez a b c d e f g i j||leN (k8 (iz a b c d e f g i j) + k8 [(0:Int)]) (9223372036854775807:Nat)),cn a b c d e f g i j||(!ez a b c d e f g i j||leN ((k8 (iz a b c d e f g i j) + k8 [(0:Int)]) * (8:Nat)) 140737488355328),cn a b c d e f g i j||(ez a b c d e f g i j||(!gE a b c d e f g i j||leN (0 + k8 (rgB a e f g b i (bm a b c d e f g i j))) 9223372036854775807)),cn a b c d e f g i j||(ez a b c d e f g i j||(!gE a b c d e f g i j||leN ((0 + k8 (rgB a e f g b i (bm a b c d e f g i j))) * 24) 140737488355328)),cn a b c d e f g i j||(ez a b c d e f g i j||(!gE a b c d e f g i j||leN (k8 (rgB a e f g b i (bm a b c d e f g i j)) + k8 [((0:Int),(0:Int),(0:Int))]) 9223372036854775807)),cn a b c d e f g i j||(ez a b c d e f g i j||(!gE a b c d e f g i j||leN ((k8 (rgB a e f g b i (bm a b c d e f g i j)) + k8 [((0:Int),(0:Int),(0:Int))]) * 24) 140737488355328)),cn a b c d e f g i j||(ez a b c d e f g i j||(gE a b c d e f g i j||(!pT a b c d e f g i j||(!kW a b c d e f g i j||aG (na a b c d e f g i j) (pU a b c d e f g i j) j&&leN 1 (k8 [(-1:Int),(1:Int),(9:Int)]))))),cn a b c d e f g i j||(ez a b c d e f g i j||(gE a b c d e f g i j||(!pT a b c d e f g i j||(!kW a b c d e f g i j||leI 0 0)))),cn a b c d e f g i j||(ez a b c d e f g i j||(gE a b c d e f g i j||(!pT a b c d e f g i j||(!kW a b c d e f g i j||kW a b c d e f g i j)))),cn a b c d e f g i j||(ez a b c d e f g i j||(gE a b c d e f g i j||(!pT a b c d e f g i j||(!kW a b c d e f g i j||ltN (k7 0) (k8 (rgB a e f g b i (bm a b c d e f g i j))))))),cn a b c d e f g i j||(ez a b c d e f g i j||(gE a b c d e f g i j||(pT a b c d e f g i j||(!En a b c d e f g i j||Lp.fin gN (HR a b c d e f g i j)))))]
end
def aau:awh
 | [.one ⟨false,[.ptr 0 0]⟩,.one ⟨true,[.val (.string a),.ref 1,.ref 2,.ref 3,.val (.string b),.ref 4]⟩],[.box 113 [.ref 5,.val (.int .i64 c),.val (.int .i64 d)],.row false 9 (.str) e,.row false 9 (.str) f,.row false 9 (.str) g,.row false 142 (.pair (.str) (.sl 122 (.pair (.int .i64) (.pair (.str) (.int .i64))))) i,.row false 5 (.int .u8) j]=>some ⟨.one ⟨true,[.ref 6,.ref 7]⟩,[.box 113 [.ref 5,axb (FZ a b c d e f g i j),axb (Ga a b c d e f g i j)],aBD e,aBD f,aBD g,aBH i,aBL j],[aBE (Gb a b c d e f g i j),aBK (Gc a b c d e f g i j)],[TK a b c d e f g i j]⟩
 |_,_=>none
def ajX:PF prog:=PF.ofG prog (T3z [ug,ai,cY,db,uf]) [gN.F] aT 56 f56 func56 (LOk.fnT (l:= [bj f56 0]) (by kernel_rfl) (.cons ac0 (.nil _))) aau (by
 intro _ _ _ h;unfold aau at h;split at h<;>cases h;kernel_rfl)
section
variable (a b:Int)(c d e:List avP)(f:avO)
def lq:List avP:=c++d++e
def Di:Bool:=(↑(k8 (lq c d e)):Int)==0
def ia:Bool:=bif Di c d e then true else nxV 8 a b f==0
def vf:Int:=bif !Di c d e&&true then nxA 8 a f else a
def Dj:Int:=bif !Di c d e&&true then nxS 8 a b f else b
def sK:Int:=nxV 5 (vf a c d e f) (Dj a b c d e f) f
def zM:Int:=nxV (↑(k8 (lq c d e)):Int) (vf a c d e f) (Dj a b c d e f) f
def Vj:Bool:=aG (vf a c d e f) (Dj a b c d e f) f
def Jq:avP:=bif ia a b c d e f then k9 [ByteArray.mk #[110,111,98,111,100,121],ByteArray.mk #[],ByteArray.mk #[101,110,100],ByteArray.mk #[120],ByteArray.mk #[113]][k7 (sK a b c d e f)]? ByteArray.empty else k9 (lq c d e)[k7 (zM a b c d e f)]? ByteArray.empty
def PL:Int:=bif ia a b c d e f then nxA 5 (vf a c d e f) f else nxA (↑(k8 (lq c d e)):Int) (vf a c d e f) f
def PM:Int:=bif ia a b c d e f then nxS 5 (vf a c d e f) (Dj a b c d e f) f else nxS (↑(k8 (lq c d e)):Int) (vf a c d e f) (Dj a b c d e f) f
def WB:Bool:=allT [leN (k8 c + k8 d + k8 e) 2000000,!(!Di c d e&&true)||aG a b f,!ia a b c d e f||Vj a b c d e f,!ia a b c d e f||leI 0 (sK a b c d e f),!ia a b c d e f||ltI (sK a b c d e f) (↑(k8 [ByteArray.mk #[110,111,98,111,100,121],ByteArray.mk #[],ByteArray.mk #[101,110,100],ByteArray.mk #[120],ByteArray.mk #[113]]):Int),!ia a b c d e f||ltN (k7 (sK a b c d e f)) (k8 [ByteArray.mk #[110,111,98,111,100,121],ByteArray.mk #[],ByteArray.mk #[101,110,100],ByteArray.mk #[120],ByteArray.mk #[113]]),ia a b c d e f||Vj a b c d e f,ia a b c d e f||leI 0 (zM a b c d e f),ia a b c d e f||ltI (zM a b c d e f) (↑(k8 (lq c d e)):Int),ia a b c d e f||ltN (k7 (zM a b c d e f)) (k8 (lq c d e))]
end
def acr:awh
 | [.one ⟨false,[.ptr 0 0]⟩,.one ⟨true,[.val (.string _x0),.ref 1,.ref 2,.ref 3,.val (.string _x1),.ref 4]⟩],[.box 113 [.ref 5,.val (.int .i64 a),.val (.int .i64 b)],.row false 9 (.str) c,.row false 9 (.str) d,.row false 9 (.str) e,.row false 142 (.pair (.str) (.sl 122 (.pair (.int .i64) (.pair (.str) (.int .i64))))) f,.row false 5 (.int .u8) g]=>some ⟨aBB (.val (.string (Jq a b c d e g))),[.box 113 [.ref 5,axb (PL a b c d e g),axb (PM a b c d e g)],aBD c,aBD d,aBD e,aBH f,aBL g],[],[WB a b c d e g]⟩
 |_,_=>none
def amD:PF prog:=PF.ofG prog (T3z [ai,rL]) [] aT 57 f57 func57 (fun c _=>LOk.nil c) acr (by
 intro _ _ _ h;unfold acr at h;split at h<;>cases h;kernel_rfl)
theorem awz{nm:avP}{ins vs os:List avP}{g:avP}{ls:List LN}(h:prD nm ins vs os g ls=true):Uc nm ins vs os g ls=true:=by
 obtain⟨h1,h2,h3,h4,h5,h6⟩:=Pu.1 h
 obtain⟨i0,i1⟩:=td.1 h2
 obtain⟨v0,v1⟩:=td.1 h3
 obtain⟨o0,o1⟩:=td.1 h4
 obtain⟨l0,l1⟩:=Tj.1 h6
 have nQ: ∀ {l:List avP},l.length≤50→(∀ s∈l,s.size≤1000)→Zx l=true:=fun {l} a b=>by
  simp only [Zx,q8,List.all_eq_true]
  exact⟨bx (by omega),fun t ht=>bx (by have:=b t ht;omega)⟩
 refine Qg.2 ⟨by omega,nQ i0 i1,nQ v0 v1,nQ o0 o1,by omega,by omega,Xd.2 ⟨by omega,fun l hl=> ?_⟩⟩
 obtain⟨a,b⟩:=l1 l hl
 obtain⟨b0,b1⟩:=Qn.1 b
 exact⟨by omega,Xt.2 ⟨by omega,fun t ht=>by have:=b1 t ht;omega⟩⟩
theorem azp{n:Nat}{l:aup}(h:ae7 n l=true)(hl:l.length≤9223372036854775807)(hn:n≤9223372036854775807):aze 9223372036854775807 l=true:=
 apq.2 ⟨hl,fun x hx=>by have:=ajk.1 h x hx;omega⟩
theorem avt(nm:avP)(ins vs os:List avP)(g:avP)(ls:List LN)(l:aup):
  (awQ (rgO nm ins vs os g ls l)≤4000∧(rgO nm ins vs os g ls l).length≤200∧ ∀ x∈rgO nm ins vs os g ls l,x.length≤20)∧(rgV nm ins vs os g ls l).length≤20∧(rgB nm ins vs os g ls l).length≤1600:=by
 have ht: ∀ (l:aup),(∀ x∈l,x.length≤20)→awQ l≤20 * l.length:=by
  intro l
  induction l with
  |nil=>intro _;simp [awQ]
  |cons a r ih=>
   intro h
   have h1:=h a (by simp)
   have h2:=ih fun x hx=>h x (by simp [hx])
   simp only [awQ,List.map_cons,List.sum_cons,j7]at h2 ⊢
   omega
 simp only [rgO,rgV,rgB]
 rcases aom nm ins vs os g ls l with⟨h1,h2⟩ | ⟨h1,h3,h2⟩ | ⟨h1,h3,h4,h2⟩ | ⟨h1,h3,h4,h2⟩
 ·rw [h2];simp [awQ]
 ·rw [h2];simp [awQ]
 ·rw [h2];simp [awQ]
 ·rw [h2]
  obtain⟨g1,g2,g3⟩:=ar1 h1 l (zv vs) (Sd (blL ls)) (List.all_eq_true.1 h4) (aqH h1)
  obtain⟨s1,s2,_⟩:=Qx.1 g3
  have b2:=(ct.1 s2).2
  have:=aoY h3
  have h5:=ht _ g2
  have hX:=amH (inp:=v6 ins.length 0) h1 (ct.2 ⟨fun z hz=> .inl (List.eq_of_mem_replicate hz),by simp⟩)
  have hb:=hX.bl
  have hv:=hX.h2
  simp only [beq_self_eq_true,cond_true]
  exact⟨⟨by omega,by omega,g2⟩,by omega,by omega⟩
 attribute [local irreducible] nxA nxS nxV pkA pkS pkV
theorem YN(a b:Int)(c:avO)(h:aG a b c=true):
  adB a b c=true∧aG (xG a b c) (xH a b c) c=true∧prD (uO a b c) (ph a b c) (tt a b c) (tu a b c) (uP a b c) (uQ a b c)=true:=by
 have s1:aG (nxA 4 a c) (nxS 4 a b c) c=true:=jR h
 obtain⟨_,a2,a3⟩:=aaQ _ _ c s1
 obtain⟨_,b2,⟨b3,_⟩,_⟩:=YH _ _ c s1
 refine⟨?_,?_,?_⟩
 ·simp only [adB,abA,h,s1,allT,j8,cond_true]
 ·simp only [xG,xH];exact rt a2 b2
 ·simp only [uO,uP,ph,tt,tu,uQ]
  cases uR a b c
  ·exact b3
  ·exact a3
def ajb:awh
 | [.one ⟨false,[.ptr 0 0]⟩],[.box 113 [.ref 1,.val (.int .i64 a),.val (.int .i64 b)],.row false 5 (.int .u8) c]=>some ⟨.one ⟨true,[.val (.string (uO a b c)),.ref 2,.ref 3,.ref 4,.val (.string (uP a b c)),.ref 5]⟩,[.box 113 [.ref 1,axb (xG a b c),axb (xH a b c)],aBL c],[aBJ (ph a b c),aBJ (tt a b c),aBJ (tu a b c),aBR (uQ a b c)],[aG a b c]⟩
 |_,_=>none
def Nx:PF prog:=PF.alt arS ajb (by
 intro args es o h cA;unfold ajb at h;split at h
 ·rename_i a b c
  cases h
  have cA:=jQ cA
  have hh:=(YN a b c cA).1
  have en:=hh
  exact pW rfl (ip en) rfl rfl rfl
 ·cases h)
theorem adF(c:avO)(x:mg)(hx:match x with | (a,b,d,e,f,g)=>(e.length:Int)≤a + (20:Nat)∧0≤a∧aG b d g=true∧e.length≤20∧g=c):
  gN.fin x=true∧ ∃ j y,gN.res x=(j,y)∧(match y with | (a,b,d,e,f,g)=>aG b d c=true∧e.length≤20∧c=g):=by
 refine gN.inv2 (fun k x=>match x with | (a,b,d,e,f,g)=>(e.length:Int)≤a + k∧0≤a∧aG b d g=true∧e.length≤20∧g=c) (fun y=>match y with | (a,b,d,e,f,g)=>aG b d c=true∧e.length≤20∧c=g) (fun k x hx=> ?_) (fun x hx=> ?_) 20 x (by omega) hx
 ·obtain⟨a,b,d,e,f,g⟩:=x
  obtain⟨h0,h1,h2,h3,rfl⟩:=hx
  cases ht:GA a e with
  |false=>
   simp only [gN,Fg,LT.ok,ht,Bool.false_eq_true,false_implies,true_implies,true_and,and_true]
   exact⟨h2,h3⟩
  |true=>
   have fC:a < (e.length:Int):=ab7.1 ht
   have p1:Xl b d g=true:=h2
   have p2:Xm a=true:=bk h1
   have p3:Xn a e=true:=eD (by omega)
   have p4:Xo a=a + 1:=aM (by omega) (by omega)
   have s5:aG (Xp b g) (Xq b d g) g=true:=jR h2
   have l7:(Xr a b d e g).length=e.length:=List.length_set
   simp only [gN,Fg,LT.ok,Wa,Wb,and_true,true_and,ht,p1,p2,p3,Bool.false_eq_true,reduceCtorEq,false_implies,true_implies]
   exact⟨by omega,by omega,s5,by omega⟩
 ·obtain⟨a,b,d,e,f,g⟩:=x
  obtain⟨h0,h1,h2,h3,rfl⟩:=hx
  have ht:GA a e=false:=IZ (by omega)
  simp only [gN,Fg,LT.ok,ht,Bool.false_eq_true,false_implies,true_implies,true_and,and_true]
  exact⟨h2,h3⟩
theorem atF{a s:Int}{c:avO}{nm:avP}{ins vs os:List avP}{g:avP}{ls:List LN}:(aG a s c&&prD nm ins vs os g ls)=true↔aG a s c=true∧prD nm ins vs os g ls=true:=by simp only [q8]
theorem Xk(a b:avP)(c d:Int)(e f g:List avP)(i:List LN)(j:avO)(h:aG c d j=true)(hp:prD a e f g b i=true):
  TK a b c d e f g i j=true∧aG (FZ a b c d e f g i j) (Ga a b c d e f g i j) j=true∧(Gb a b c d e f g i j).length≤60∧(Gc a b c d e f g i j).length≤2000:=by
 obtain⟨_,hi,hv,_⟩:=Pu.1 hp
 have i0:=(td.1 hi).1
 have v0:=(td.1 hv).1
 obtain⟨_,t2,t3,t4⟩:=RA a b c d e f g i j h i0
 have hrg:rgN a e f g b i (bm a b c d e f g i j)=true:=by
  simp only [rgN,awz hp,azp t4 (by omega) (by omega),Bool.and_self]
 obtain⟨_,w1,w2⟩:=avt a e f g b i (bm a b c d e f g i j)
 have w1:(iz a b c d e f g i j).length≤20:=w1
 have s3:aG (na a b c d e f g i j) (pU a b c d e f g i j) j=true:=jR t2
 obtain⟨f0,j0,⟨z0,z1,z2,z3,z4,z5⟩,g0,q1,q2,q3⟩:=adF j (HR a b c d e f g i j) (by
  simp only [HR]
  exact⟨by omega,by omega,s3,w1,trivial⟩)
 have e1:(yY a b c d e f g i j).1=z1:=by simp only [yY,g0]
 have e2:(yZ a b c d e f g i j).1=z2:=by simp only [yZ,yY,g0]
 have e3:((yZ a b c d e f g i j).2).1=z3:=by simp only [yZ,yY,g0]
 have hd:(aG c d j&&leN e.length 50)=true:=av4.2 ⟨h,i0⟩
 refine⟨?_,?_,?_,?_⟩
 ·have u1:leI 0 (f.length:Int)=true:=bk (by omega)
  have u2:leI (f.length:Int) (f.length:Int)=true:=bk (by omega)
  have u3:leI ((↑(8:Nat):Int) * (f.length:Int)) 281474976710656=true:=bk (by omega)
  have u4:leI (f.length:Int) 9223372036854775807=true:=bk (by omega)
  have o1: [(0:Int)].length=1:=rfl
  have o2: [((0:Int),(0:Int),(0:Int))].length=1:=rfl
  have b1:leN (iz a b c d e f g i j).length 1048576=true:=bx (by omega)
  have b2:leN ((iz a b c d e f g i j).length + [(0:Int)].length) 9223372036854775807=true:=bx (by rw [o1];omega)
  have b3:leN (((iz a b c d e f g i j).length + [(0:Int)].length) * 8) 140737488355328=true:=bx (by rw [o1];omega)
  have b4:leN (0 + (rgB a e f g b i (bm a b c d e f g i j)).length) 9223372036854775807=true:=bx (by omega)
  have b5:leN ((0 + (rgB a e f g b i (bm a b c d e f g i j)).length) * 24) 140737488355328=true:=bx (by omega)
  have b6:leN ((rgB a e f g b i (bm a b c d e f g i j)).length + [((0:Int),(0:Int),(0:Int))].length) 9223372036854775807=true:=bx (by rw [o2];omega)
  have b7:leN (((rgB a e f g b i (bm a b c d e f g i j)).length + [((0:Int),(0:Int),(0:Int))].length) * 24) 140737488355328=true:=bx (by rw [o2];omega)
  have b8:leN 1 (k8 [(-1:Int),1,9])=true:=rfl
  have b9:leI 0 0=true:=rfl
  have k6:kW a b c d e f g i j=true→ltN (k7 0) (rgB a e f g b i (bm a b c d e f g i j)).length=true:=fun hh=>by
   simp only [kW]at hh
   have:=at0 hh
   exact eD (by simp only [Int.toNat_zero];omega)
  simp only [TK,hd,hrg,u1,u2,u3,u4,t2,s3,b1,b2,b3,b4,b5,b6,b7,b8,b9,f0,allT,j8,Bool.and_self,cond_true]
  cases h6:kW a b c d e f g i j with
  |true=>simp only [k6 h6,j8,cond_true]
  |false=>simp only [Bool.not_false,Bool.true_or,j8,cond_true]
 ·simp only [FZ,Ga,e1,e2]
  exact rt t2 (rt s3 (rt s3 (rt (rt (WT s3) s3) (rt q1 s3))))
 ·simp only [Gb,e3]
  exact IW (by rw [List.length_replicate,q9];omega) (IW (by rw [j6,w5];omega) (IW (by omega) (IW (by omega) (IW (by omega) (by omega)))))
 ·simp only [Gc]
  exact IW (by simp) (IW (by omega) (IW (by rw [j6,w5];omega) (IW (IW (by rw [List.length_set];omega) (by omega)) (IW (by omega) (by omega)))))
def aaA:awh
 | [.one ⟨false,[.ptr 0 0]⟩,.one ⟨true,[.val (.string a),.ref 1,.ref 2,.ref 3,.val (.string b),.ref 4]⟩],[.box 113 [.ref 5,.val (.int .i64 c),.val (.int .i64 d)],.row false 9 (.str) e,.row false 9 (.str) f,.row false 9 (.str) g,.row false 142 (.pair (.str) (.sl 122 (.pair (.int .i64) (.pair (.str) (.int .i64))))) i,.row false 5 (.int .u8) j]=>some ⟨.one ⟨true,[.ref 6,.ref 7]⟩,[.box 113 [.ref 5,axb (FZ a b c d e f g i j),axb (Ga a b c d e f g i j)],aBD e,aBD f,aBD g,aBH i,aBL j],[aBE (Gb a b c d e f g i j),aBK (Gc a b c d e f g i j)],[aG c d j&&prD a e f g b i]⟩
 |_,_=>none
def Tq:PF prog:=PF.alt ajX aaA (by
 intro args es o h cA;unfold aaA at h;split at h
 ·rename_i a b c d e f g i j
  cases h
  have cA:=jQ cA
  have hh:=(Xk a b c d e f g i j (atF.1 cA).1 (atF.1 cA).2).1
  have en:=hh
  exact pW rfl (ip en) rfl rfl rfl
 ·cases h)
theorem Zp(a b:avP)(c d:Int)(e f g:List avP)(i:List LN)(j:avO)(h:aG c d j=true)(hp:prD a e f g b i=true):
  WB c d e f g j=true∧aG (PL c d e f g j) (PM c d e f g j) j=true∧(Jq c d e f g j).size≤1000:=by
 obtain⟨_,hi,hv,ho,_⟩:=Pu.1 hp
 have i0:=(td.1 hi).1
 have v0:=(td.1 hv).1
 have o0:=(td.1 ho).1
 have m0:Vv 150 (lq e f g)=true:=ajN (ajN hi hv (Nat.le_refl _)) ho (by omega)
 have l0:=(td.1 m0).1
 have s1:aG (vf c e f g j) (Dj c d e f g j) j=true:=rt (jR h) h
 have k5:0≤sK c d e f g j∧sK c d e f g j < 5:=OG (n:=5) s1 (by omega)
 have c1:=bk k5.1
 have c2:ltI (sK c d e f g j) (([ByteArray.mk #[110,111,98,111,100,121],ByteArray.mk #[],ByteArray.mk #[101,110,100],ByteArray.mk #[120],ByteArray.mk #[113]]:List avP).length:Int)=true:=dw k5.2
 have c3:ltN (sK c d e f g j).toNat ([ByteArray.mk #[110,111,98,111,100,121],ByteArray.mk #[],ByteArray.mk #[101,110,100],ByteArray.mk #[120],ByteArray.mk #[113]]:List avP).length=true:=eD (show (sK c d e f g j).toNat < 5 by omega)
 have s7:Vj c d e f g j=true:=s1
 have b1:leN (e.length + f.length + g.length) 2000000=true:=bx (by omega)
 refine⟨?_,?_,?_⟩
 ·simp only [WB,b1,h,s7,c1,c2,c3,allT,j8,cond_true]
  cases h2:ia c d e f g j with
  |true=>simp only [Bool.true_or,cond_true]
  |false=>
   have hne:1≤(lq e f g).length:=by
    cases h1:Di e f g with
    |true=>simp only [ia,h1,cond_true]at h2;cases h2
    |false=>
     simp only [Di,beq_eq_false_iff_ne]at h1
     omega
   obtain⟨i0,i1⟩:0≤zM c d e f g j∧zM c d e f g j < ((lq e f g).length:Int):=OG (n:=((lq e f g).length:Int)) s1 (by omega)
   have d3:ltN (zM c d e f g j).toNat (lq e f g).length=true:=eD (by omega)
   simp only [bk i0,dw i1,d3,j8,cond_true]
 ·simp only [PL,PM];exact rt (jR s1) (jR s1)
 ·simp only [Jq]
  cases ia c d e f g j
  ·exact aob m0 _
  ·exact aob (n:=5) rfl _
def acy:awh
 | [.one ⟨false,[.ptr 0 0]⟩,.one ⟨true,[.val (.string a),.ref 1,.ref 2,.ref 3,.val (.string b),.ref 4]⟩],[.box 113 [.ref 5,.val (.int .i64 c),.val (.int .i64 d)],.row false 9 (.str) e,.row false 9 (.str) f,.row false 9 (.str) g,.row false 142 (.pair (.str) (.sl 122 (.pair (.int .i64) (.pair (.str) (.int .i64))))) i,.row false 5 (.int .u8) j]=>some ⟨aBB (.val (.string (Jq c d e f g j))),[.box 113 [.ref 5,axb (PL c d e f g j),axb (PM c d e f g j)],aBD e,aBD f,aBD g,aBH i,aBL j],[],[aG c d j&&prD a e f g b i]⟩
 |_,_=>none
def Wl:PF prog:=PF.alt amD acy (by
 intro args es o h cA;unfold acy at h;split at h
 ·rename_i a b c d e f g i j
  cases h
  have cA:=jQ cA
  have hh:=(Zp a b c d e f g i j (atF.1 cA).1 (atF.1 cA).2).1
  have en:=hh
  exact pW rfl (ip en) rfl rfl rfl
 ·cases h)
end Go.SX
namespace Go.SX
open Go.Proofs Go.Proofs.Tryz
set_option maxRecDepth 100000
section
variable (a:avO)
def bC:avP:=uO 0 (frS a) a
def bD:avP:=uP 0 (frS a) a
def bE:List avP:=ph 0 (frS a) a
def bF:List avP:=tt 0 (frS a) a
def bG:List avP:=tu 0 (frS a) a
def bH:afa:=uQ 0 (frS a) a
def dU:aup:=bm (uO 0 (frS a) a) (uP 0 (frS a) a) (xG 0 (frS a) a) (xH 0 (frS a) a) (ph 0 (frS a) a) (tt 0 (frS a) a) (tu 0 (frS a) a) (uQ 0 (frS a) a) a
def Vc:Bool:=allT [aG 0 0 a,aG 0 (frS a) a,aG (xG 0 (frS a) a) (xH 0 (frS a) a) a&&leN (k8 (ph 0 (frS a) a)) 50]
end
def abJ:awh
 | [.one ⟨false,[.ref 0]⟩],[.row false 5 (.int .u8) a]=>some ⟨.tup [⟨true,[.val (.string (bC a)),.ref 1,.ref 2,.ref 3,.val (.string (bD a)),.ref 4]⟩,⟨false,[.ref 5]⟩],[aBL a],[aBD (bE a),aBD (bF a),aBD (bG a),aBH (bH a),aBQ (dU a)],[Vc a]⟩
 |_,_=>none
def ak1:PF prog:=PF.ofG prog (T3z [Nw,Nx,ug]) [] aT 16 f16 func16 (fun c _=>LOk.nil c) abJ (by
 intro _ _ _ h;unfold abJ at h;split at h<;>cases h;kernel_rfl)
section
variable (a:avO)
def Vd:Int:=FZ (uO 0 (frS a) a) (uP 0 (frS a) a) (xG 0 (frS a) a) (xH 0 (frS a) a) (ph 0 (frS a) a) (tt 0 (frS a) a) (tu 0 (frS a) a) (uQ 0 (frS a) a) a
def Ve:Int:=Ga (uO 0 (frS a) a) (uP 0 (frS a) a) (xG 0 (frS a) a) (xH 0 (frS a) a) (ph 0 (frS a) a) (tt 0 (frS a) a) (tu 0 (frS a) a) (uQ 0 (frS a) a) a
def Vf:Bool:=prD (uO 0 (frS a) a) (ph 0 (frS a) a) (tt 0 (frS a) a) (tu 0 (frS a) a) (uP 0 (frS a) a) (uQ 0 (frS a) a)
def oV:avP:=uO 0 (frS a) a
def oW:avP:=uP 0 (frS a) a
def rM:avP:=Jq (Vd a) (Ve a) (ph 0 (frS a) a) (tt 0 (frS a) a) (tu 0 (frS a) a) a
def oX:List avP:=ph 0 (frS a) a
def oY:List avP:=tt 0 (frS a) a
def oZ:List avP:=tu 0 (frS a) a
def pa:afa:=uQ 0 (frS a) a
def pb:avO:=Gb (uO 0 (frS a) a) (uP 0 (frS a) a) (xG 0 (frS a) a) (xH 0 (frS a) a) (ph 0 (frS a) a) (tt 0 (frS a) a) (tu 0 (frS a) a) (uQ 0 (frS a) a) a
def rN:asY:=Gc (uO 0 (frS a) a) (uP 0 (frS a) a) (xG 0 (frS a) a) (xH 0 (frS a) a) (ph 0 (frS a) a) (tt 0 (frS a) a) (tu 0 (frS a) a) (uQ 0 (frS a) a) a
def Ww:Bool:=allT [aG 0 0 a,aG 0 (frS a) a,aG (xG 0 (frS a) a) (xH 0 (frS a) a) a&&Vf a,aG (Vd a) (Ve a) a&&Vf a]
end
def aco:awh
 | [.one ⟨false,[.ref 0]⟩],[.row false 5 (.int .u8) a]=>some ⟨.tup [⟨true,[.val (.string (oV a)),.ref 1,.ref 2,.ref 3,.val (.string (oW a)),.ref 4]⟩,⟨true,[.ref 5,.ref 6]⟩,⟨false,[.val (.string (rM a))]⟩],[aBL a],[aBJ (oX a),aBJ (oY a),aBJ (oZ a),aBR (pa a),aBE (pb a),aBK (rN a)],[Ww a]⟩
 |_,_=>none
def amB:PF prog:=PF.ofG prog (T3z [Nw,Nx,Tq,Wl]) [] aT 21 f21 func21 (fun c _=>LOk.nil c) aco (by
 intro _ _ _ h;unfold aco at h;split at h<;>cases h;kernel_rfl)
def CA(a:avO):Bool:=ltI 4096 (↑a.length:Int)
def aqJ:awh
 | [.one ⟨false,[.ref 0]⟩],[.row false 5 (.int .u8) a]=>some ⟨aBB (.val (.bool (CA a))),[aBL a],[],[]⟩
 |_,_=>none
def amA:PF prog:=PF.ofG prog [] [] aT 6 f6 func6 (fun c _=>LOk.nil c) aqJ (by
 intro _ _ _ h;unfold aqJ at h;split at h<;>cases h;kernel_rfl)
abbrev mW:=Int×List (Int×(Int×Int))×List (Int×(Int×Int))
section
variable (a:Int)(b c:asY)
def ub:Int×Int×Int:=k9 b[k7 a]? ((0:Int),(0:Int),(0:Int))
def uc:Int×Int×Int:=k9 c[k7 a]? ((0:Int),(0:Int),(0:Int))
def Ai:Bool:=ltI a (↑b.length:Int)
def Aj:Bool:=leI 0 a
def DS:Bool:=ltN a.toNat b.length
def DT:Bool:=ltI a (↑c.length:Int)
def DU:Bool:=ltN a.toNat c.length
def DV:Bool:= !bif (ub a b).1==(uc a c).1then bif ((ub a b).2).1==((uc a c).2).1then bif (ub a b).2.2==(uc a c).2.2then true else false else false else false
def DW:Int:=v5 .i64 (a + (1:Int))
end
def agv:mW→List (Nat×SV)
 |(a,_,_)=> [(5,(aBC a)),(0,(aBB (.ref 0))),(1,(aBB (.ref 1)))]
def agr:mW→List (Nat×Entry)
 |(_,a,b)=> [(0,(aBN a)),(1,(aBN b))]
def agD:Nat→mW→List (Nat×SV)
 |0,(_,_,_)=> [(4,(aBB (.val (.bool false))))]
 |_,_=>[]
def CB:mW→LT mW
 |(a,b,c)=> .ite (Ai a b) (.need [Aj a,Ai a b,DS a b,Aj a,DT a c,DU a c] (.ite (DV a b c) (.ext 0 [(0,0),(1,1)]) (.nrm ((DW a),b,c) [(0,0),(1,1)]))) (.ext 1 [(0,0),(1,1)])
def Pw(s:St):Option mW:=do
 let some ⟨none,.one ⟨false,[.val (.int .i64 a)]⟩⟩:=s.look 5|none
 let some ⟨none,.one ⟨false,[.ref 0]⟩⟩:=s.look 0|none
 let some ⟨none,.one ⟨false,[.ref 1]⟩⟩:=s.look 1|none
 let some (.row false 109 (.pair (.int .i64) (.pair (.int .i64) (.int .i64))) b):=s.ent 0|none
 let some (.row false 109 (.pair (.int .i64) (.pair (.int .i64) (.int .i64))) c):=s.ent 1|none
 some (a,b,c)
def fb:Lp mW where
 h:=⟨[11,12,13,14,17,18,19,20,21,22,23,24,25,4,15,16,5],[0,1],[],[]⟩
 JL:=agv
 JE:=agr
 XL:=agD
 XE:=fun _=>agr
 q:=fun j=>match j with | 0=> .ret | _=> .exit 0
 tags:= [0,1]
 lt:=CB
 fuel:=fun(a,b,c)=>a.natAbs + b.length + c.length
 fix:=fun(_,b,c) (a,_,_)=>(a,b,c)
 σ:= [(0,0),(1,1)]
 rd:=Pw
theorem afo:LoopOk prog (fun k=>Nat.blt k Tryz.f40.ntmps) fb.F (bj f40 0):=by
 refine Lp.ok (tbl:= []) (lf:= []) aT fb (by kernel_rfl) (LOk.nil _) (fun _=>rfl) (fun j _=>by unfold fb;match j with | 0=>rfl | _ + 1=>rfl) ?_ ?_ ?_ ?_ (fun _=>rfl) ?_
 ·intro _;kernel_rfl
 ·intro _;kernel_rfl
 ·intro s x h
  have h:Pw s=some x:=h
  unfold Pw at h
  repeat' split at h
  all_goals cases h
  constructor<;>repeat(first|refine ab ‹_› rfl ?_|refine aa rfl ‹_› rfl ?_|rfl)
 ·intro _;kernel_rfl
 ·intro _ _;exact(And.intro (And.intro trivial rfl) trivial)
section
variable (a b:asZ)
def Mm:Bool:=(↑a.length:Int)!=(↑b.length:Int)
def Mn:Int×asZ×asZ:=((0:Int),a,b)
def IU:Bool:=bif Mm a b then false else bif Nat.beq ((Lp.res fb (Mn a b)).1) 0 then false else true
def IV:Bool:=allT [Mm a b||Lp.fin fb (Mn a b)]
end
def acn:awh
 | [.one ⟨false,[.ref 0]⟩,.one ⟨false,[.ref 1]⟩],[.row false 109 (.pair (.int .i64) (.pair (.int .i64) (.int .i64))) a,.row false 109 (.pair (.int .i64) (.pair (.int .i64) (.int .i64))) b]=>some ⟨aBB (.val (.bool (IU a b))),[aBN a,aBN b],[],[IV a b]⟩
 |_,_=>none
def Wn:PF prog:=PF.ofG prog [] [fb.F] aT 40 f40 func40 (LOk.fnT (l:= [bj f40 0]) (by kernel_rfl) (.cons afo (.nil _))) acn (by
 intro _ _ _ h;unfold acn at h;split at h<;>cases h;kernel_rfl)
def Th(a:avO)(b:asZ)(c:avO)(d:asZ):Bool:=bif eqL a c then IU b d else false
def Ti(a:avO)(b:asZ)(c:avO)(d:asZ):Bool:=allT [leN a.length (9223372036854775807:Nat),!(eqL a c&&true)||IV b d]
def aao:awh
 | [.one ⟨true,[.ref 0,.ref 1]⟩,.one ⟨true,[.ref 2,.ref 3]⟩],[.row false 2 (.int .i64) a,.row false 109 (.pair (.int .i64) (.pair (.int .i64) (.int .i64))) b,.row false 2 (.int .i64) c,.row false 109 (.pair (.int .i64) (.pair (.int .i64) (.int .i64))) d]=>some ⟨aBB (.val (.bool (Th a b c d))),[aBF a,aBN b,aBF c,aBN d],[],[Ti a b c d]⟩
 |_,_=>none
def ajS:PF prog:=PF.ofG prog (T3z [AJ,Wn]) [] aT 25 f25 func25 (fun c _=>LOk.nil c) aao (by
 intro _ _ _ h;unfold aao at h;split at h<;>cases h;kernel_rfl)
section
variable (a b:avP)(c d e:List avP)(f:afZ)(g:avO)(i:asZ)
def OV:alv:=bif dS a c d e b f&&true then blL f else []
def RP:Bool:=bif dS a c d e b f then sy (↑d.length:Int) (OV a b c d e f) g i else false
def RQ:Bool:=allT [Uc a c d e b f,!(dS a c d e b f&&true)||Xc f,!(dS a c d e b f&&true)||leN g.length (9223372036854775807:Nat)&&(leN (k8 (OV a b c d e f)) 9223372036854775807&&XK (OV a b c d e f))]
end
def ad4:awh
 | [.one ⟨true,[.val (.string a),.ref 0,.ref 1,.ref 2,.val (.string b),.ref 3]⟩,.one ⟨true,[.ref 4,.ref 5]⟩],[.row false 9 (.str) c,.row false 9 (.str) d,.row false 9 (.str) e,.row false 142 (.pair (.str) (.sl 122 (.pair (.int .i64) (.pair (.str) (.int .i64))))) f,.row false 2 (.int .i64) g,.row false 109 (.pair (.int .i64) (.pair (.int .i64) (.int .i64))) i]=>some ⟨aBB (.val (.bool (RP a b c d e f g i))),[aBD c,aBD d,aBD e,aBH f,aBF g,aBN i],[],[RQ a b c d e f g]⟩
 |_,_=>none
def aoc:PF prog:=PF.ofG prog (T3z [kI,bz,aB]) [] aT 28 f28 func28 (fun c _=>LOk.nil c) ad4 (by
 intro _ _ _ h;unfold ad4 at h;split at h<;>cases h;kernel_rfl)
def Xa(a:avO)(b:List avP):Bool:= !bitsB (↑b.length:Int) a
def Xb(a:avO):Bool:=allT [leN a.length (9223372036854775807:Nat)]
def WX:awh
 | [.one ⟨false,[.ref 0]⟩,.one ⟨false,[.ptr 1 0]⟩],[.row false 2 (.int .i64) a,.box 43 [.val (.string b),.ref 2,.ref 3,.ref 4,.val (.string c),.ref 5],.row false 9 (.str) d,.row false 9 (.str) e,.row false 9 (.str) f,.row false 142 (.pair .str (.sl 122 (.pair (.int .i64) (.pair .str (.int .i64))))) g]=>some ⟨aBB (.val (.bool (Xa a d))),[aBF a,.box 43 [.val (.string b),.ref 2,.ref 3,.ref 4,.val (.string c),.ref 5],aBD d,aBD e,aBD f,aBI g],[],[Xb a]⟩
 |_,_=>none
def wG:PF prog:=PF.ofG prog (T3z [oT]) [] aT 104 f104 func104 (fun c _=>LOk.nil c) WX (by
 intro _ _ _ h;unfold WX at h;split at h<;>cases h;kernel_rfl)
abbrev ee:=Int×Int×avP×avP×List (List Int)×List avP×List avP×List avP×List (avP×(List (Int×(avP×Int))))
section
variable (a b:Int)(c:aup)(d:List avP)
def Ef:avO:=k9 c[k7 a]? (xS agV)
def Sp:Bool:=ltI a b
def Sq:Bool:=leI 0 a
def Sr:Bool:=ltI a (↑c.length:Int)
def Ss:Bool:=ltN a.toNat c.length
def Su:Bool:=Xb (Ef a c)
def Sv:Bool:=Xa (Ef a c) d
def Sw:Int:=v5 .i64 (a + (1:Int))
end
def QD:ee→List (Nat×SV)
 |(a,b,_,_,_,_,_,_,_)=> [(8,(aBC a)),(7,(aBC b)),(1,(aBB (.clo 104 [0]))),(0,(aBB (.ref 1)))]
def QA:ee→List (Nat×Entry)
 |(_,_,a,b,c,d,e,f,g)=> [(0,(.box 43 [.val (.string a),.ref 2,.ref 3,.ref 4,.val (.string b),.ref 5])),(1,(aBQ c)),(2,(aBD d)),(3,(aBD e)),(4,(aBD f)),(5,(aBI g))]
def QJ:Nat→ee→List (Nat×SV)
 |0,(a,_,_,_,_,_,_,_,_)=> [(4,(aBC a))]
 |_,_=>[]
def Rd:ee→LT ee
 |(a,b,c,d,e,f,g,i,j)=> .ite (Sp a b) (.need [Sq a,Sr a e,Ss a e,Su a e] (.ite (Sv a e f) (.ext 0 [(0,0),(1,1),(2,2),(3,3),(4,4),(5,5)]) (.nrm ((Sw a),b,c,d,e,f,g,i,j) [(0,0),(1,1),(2,2),(3,3),(4,4),(5,5)]))) (.ext 1 [(0,0),(1,1),(2,2),(3,3),(4,4),(5,5)])
def vK(s:St):Option ee:=do
 let some ⟨none,.one ⟨false,[.val (.int .i64 a)]⟩⟩:=s.look 8|none
 let some ⟨none,.one ⟨false,[.val (.int .i64 b)]⟩⟩:=s.look 7|none
 let some ⟨none,.one ⟨false,[.clo 104 [1]]⟩⟩:=s.look 1|none
 let some ⟨none,.one ⟨false,[.ref 0]⟩⟩:=s.look 0|none
 let some (.box 43 [.val (.string c),.ref 2,.ref 3,.ref 4,.val (.string d),.ref 5]):=s.ent 1|none
 let some (.row true 28 (.sl 2 (.int .i64)) e):=s.ent 0|none
 let some (.row false 9 (.str) f):=s.ent 2|none
 let some (.row false 9 (.str) g):=s.ent 3|none
 let some (.row false 9 (.str) i):=s.ent 4|none
 let some (.row false 142 (.pair .str (.sl 122 (.pair (.int .i64) (.pair .str (.int .i64))))) j):=s.ent 5|none
 some (a,b,c,d,e,f,g,i,j)
def dN:Lp ee where
 h:=⟨[9,10,5,11,12,13,14,15,16,17,4,18,8],[0,1,2,3,4,5],[],[]⟩
 JL:=QD
 JE:=QA
 XL:=QJ
 XE:=fun _=>QA
 q:=fun j=>match j with | 0=> .ret | _=> .exit 0
 tags:= [0,1]
 lt:=Rd
 fuel:=fun(a,b,c,d,e,f,g,i,k)=>a.natAbs + b.natAbs + c.size + d.size + e.length + f.length + g.length + i.length + k.length
 fix:=fun(_,b,c,d,e,f,g,i,k) (a,_,_,_,_,_,_,_,_)=>(a,b,c,d,e,f,g,i,k)
 σ:= [(0,1),(1,0),(2,2),(3,3),(4,4),(5,5)]
 rd:=vK
theorem Pp:LoopOk prog (fun k=>Nat.blt k Tryz.f128.ntmps) dN.F (bj f128 0):=by
 refine Lp.ok (tbl:= (T3z [wG])) (lf:= []) aT dN (by kernel_rfl) (LOk.nil _) (fun _=>rfl) (fun j _=>by unfold dN;match j with | 0=>rfl | _ + 1=>rfl) ?_ ?_ ?_ ?_ (fun _=>rfl) ?_
 ·intro _;kernel_rfl
 ·intro _;kernel_rfl
 ·intro s x h
  have h:vK s=some x:=h
  unfold vK at h
  repeat' split at h
  all_goals cases h
  constructor<;>repeat(first|refine ab ‹_› rfl ?_|refine aa rfl ‹_› rfl ?_|rfl)
 ·intro _;kernel_rfl
 ·intro _ _;exact(And.intro (And.intro trivial rfl) trivial)
section
variable (a:aup)(b c:avP)(d e f:List avP)(g:afZ)
def sj:Int×Int×avP×avP×aup×List avP×List avP×List avP×afZ:=((0:Int),(↑a.length:Int),b,c,a,d,e,f,g)
def mT:Bool:=Nat.beq ((Lp.res dN (sj a b c d e f g)).1) 0
def zE:Int:=bif mT a b c d e f g then ((Lp.res dN (sj a b c d e f g)).2).1else(-1:Int)
def Hk:aup:=bif mT a b c d e f g then a else a
def Hl:avP:=bif mT a b c d e f g then b else b
def Hm:avP:=bif mT a b c d e f g then c else c
def zF:Bool:=allT [Lp.fin dN (sj a b c d e f g)]
end
def GN:awh
 | [.one ⟨false,[.ref 0]⟩,.one ⟨false,[.clo 104 [1]]⟩],[.row true 28 (.sl 2 (.int .i64)) a,.box 43 [.val (.string b),.ref 2,.ref 3,.ref 4,.val (.string c),.ref 5],.row false 9 (.str) d,.row false 9 (.str) e,.row false 9 (.str) f,.row false 142 (.pair .str (.sl 122 (.pair (.int .i64) (.pair .str (.int .i64))))) g]=>some ⟨aBC (zE a b c d e f g),[aBQ (Hk a b c d e f g),.box 43 [.val (.string (Hl a b c d e f g)),.ref 2,.ref 3,.ref 4,.val (.string (Hm a b c d e f g)),.ref 5],aBD d,aBD e,aBD f,aBI g],[],[zF a b c d e f g]⟩
 |_,_=>none
def zy:PF prog:=PF.ofG prog (T3z [wG]) [dN.F] aT 128 f128 func128 (LOk.fnT (l:= [bj f128 0]) (by kernel_rfl) (.cons Pp (.nil _))) GN (by
 intro _ _ _ h;unfold GN at h;split at h<;>cases h;kernel_rfl)
section
variable (a:aup)(b c:avP)(d e f:List avP)(g:afZ)
def qx:Bool:=leI 0 (zE a b c d e f g)
def Sm:aup:=Hk a b c d e f g
def Sn:avP:=Hl a b c d e f g
def So:avP:=Hm a b c d e f g
def qy:Bool:=allT [zF a b c d e f g]
end
def EZ:awh
 | [.one ⟨false,[.ref 0]⟩,.one ⟨false,[.clo 104 [1]]⟩],[.row true 28 (.sl 2 (.int .i64)) a,.box 43 [.val (.string b),.ref 2,.ref 3,.ref 4,.val (.string c),.ref 5],.row false 9 (.str) d,.row false 9 (.str) e,.row false 9 (.str) f,.row false 142 (.pair .str (.sl 122 (.pair (.int .i64) (.pair .str (.int .i64))))) g]=>some ⟨aBB (.val (.bool (qx a b c d e f g))),[aBQ (Sm a b c d e f g),.box 43 [.val (.string (Sn a b c d e f g)),.ref 2,.ref 3,.ref 4,.val (.string (So a b c d e f g)),.ref 5],aBD d,aBD e,aBD f,aBI g],[],[qy a b c d e f g]⟩
 |_,_=>none
def wA:PF prog:=PF.ofG prog (T3z [zy]) [] aT 85 f85 func85 (fun c _=>LOk.nil c) EZ (by
 intro _ _ _ h;unfold EZ at h;split at h<;>cases h;kernel_rfl)
section
variable (a b:avP)(c d e:List avP)(f:afZ)(g:avO)(i:asZ)
def XW:Bool:= !!sy (↑d.length:Int) (blL f) g i&&true
def HF:aup:=bif XW d f g i then []else []
def DR:Int:=bif !dS a c d e b f then(1:Int)else bif bif !sy (↑d.length:Int) (blL f) g i then true else qx (HF d f g i) a b c d e f then(2:Int)else(0:Int)
def JN:Bool:=allT [Uc a c d e b f,!dS a c d e b f||Xc f,!dS a c d e b f||leN g.length (9223372036854775807:Nat)&&(leN (k8 (blL f)) 9223372036854775807&&XK (blL f)),!dS a c d e b f||(!XW d f g i||qy (HF d f g i) a b c d e f)]
end
def Zg:awh
 | [.one ⟨true,[.val (.string a),.ref 0,.ref 1,.ref 2,.val (.string b),.ref 3]⟩,.one ⟨true,[.ref 4,.ref 5]⟩,.one ⟨false,[.val (.slice none 0 0)]⟩],[.row false 9 (.str) c,.row false 9 (.str) d,.row false 9 (.str) e,.row false 142 (.pair .str (.sl 122 (.pair (.int .i64) (.pair .str (.int .i64))))) f,.row false 2 (.int .i64) g,.row false 109 (.pair (.int .i64) (.pair (.int .i64) (.int .i64))) i]=>some ⟨aBC (DR a b c d e f g i),[aBD c,aBD d,aBD e,aBI f,aBF g,aBN i],[],[JN a b c d e f g i]⟩
 |_,_=>none
def Rh:PF prog:=PF.ofG prog (T3z [kI,bz,aB,wA]) [] aT 58 f58 func58 (fun c _=>LOk.nil c) Zg (by
 intro _ _ _ h;unfold Zg at h;split at h<;>cases h;kernel_rfl)
section
variable (a b c:avP)(d e f:List avP)(g:afZ)(i:avO)(j:asZ)
def GE:Bool:=DR a b d e f g i j !=0
def acK:Int:=bif GE a b d e f g i j then(0:Int)else bif ltI (eA e c) 0 then(0:Int)else k9 i[k7 (eA e c)]? 0
def acL:Int:=bif GE a b d e f g i j then DR a b d e f g i j else bif ltI (eA e c) 0 then(4:Int)else(0:Int)
def acM:Bool:=allT [JN a b d e f g i j,GE a b d e f g i j||leN e.length (9223372036854775807:Nat),GE a b d e f g i j||(ltI (eA e c) 0||leI 0 (eA e c)),GE a b d e f g i j||(ltI (eA e c) 0||ltI (eA e c) (↑i.length:Int)),GE a b d e f g i j||(ltI (eA e c) 0||ltN (k7 (eA e c)) i.length)]
end
def aiz:awh
 | [.one ⟨true,[.val (.string a),.ref 0,.ref 1,.ref 2,.val (.string b),.ref 3]⟩,.one ⟨true,[.ref 4,.ref 5]⟩,.one ⟨false,[.val (.string c)]⟩],[.row false 9 (.str) d,.row false 9 (.str) e,.row false 9 (.str) f,.row false 142 (.pair (.str) (.sl 122 (.pair (.int .i64) (.pair (.str) (.int .i64))))) g,.row false 2 (.int .i64) i,.row false 109 (.pair (.int .i64) (.pair (.int .i64) (.int .i64))) j]=>some ⟨.tup [⟨false,[axb (acK a b c d e f g i j)]⟩,⟨false,[axb (acL a b c d e f g i j)]⟩],[aBD d,aBD e,aBD f,aBH g,aBF i,aBN j],[],[acM a b c d e f g i j]⟩
 |_,_=>none
def arH:PF prog:=PF.ofG prog (T3z [AH,ft,Rh]) [] aT 22 f22 func22 (fun c _=>LOk.nil c) aiz (by
 intro _ _ _ h;unfold aiz at h;split at h<;>cases h;kernel_rfl)
def Ah(a c:asY)(b:Nat):(Unit)→Nat ⊕ (Unit)
 |_=>(bif(!bif (k9 a[b]? ((0:Int),(0:Int),(0:Int))).1==(k9 c[b]? ((0:Int),(0:Int),(0:Int))).1then bif ((k9 a[b]? ((0:Int),(0:Int),(0:Int))).2).1==((k9 c[b]? ((0:Int),(0:Int),(0:Int))).2).1then bif (k9 a[b]? ((0:Int),(0:Int),(0:Int))).2.2==(k9 c[b]? ((0:Int),(0:Int),(0:Int))).2.2then true else false else false else false)then(.inl 0)else(.inr ()))
def uu(a b:asY)(i:Nat):(Unit)→mW
 |_=>((i:Int),a,b)
def Pv:mW→Unit
 |(_,_,_)=>()
theorem aiw(c d:asY) (hn:c.length≤9223372036854775807) (he:d.length=c.length):
  fb.fin ((0:Int),c,d)=true∧fb.res ((0:Int),c,d)=((br (Ah c d) 1 (List.range c.length) 0 ()).1,(uu c d) (br (Ah c d) 1 (List.range c.length) 0 ()).2.1 (br (Ah c d) 1 (List.range c.length) 0 ()).2.2):=by
 have nQ:=fb.along (uu c d) Pv (Ah c d) 1 (fun _ _=>True) (List.range c.length) () (by trivial) (by simp only [fb,uu,List.length_range];omega) (fun i b a hb hI=> ?_) (fun a hI=> ?_)
 ·exact nQ
 ·obtain⟨⟩:=a
  obtain⟨rfl,fC⟩:=Xh hb
  have hw:IntKind.i64.wrap ((b:Int) + 1)=((b + 1:Nat):Int):=by rw [aM (by omega) (by omega)];omega
  have fB:ltI (b:Int) (c.length:Int)=true:=dw (by omega)
  have Ly:leI (0:Int) (b:Int)=true:=bk (by omega)
  have sO:ltN b c.length=true:=eD (by omega)
  refine⟨?_,?_,?_,?_⟩
  ·simp [ub,uc,Ai,Aj,DS,DT,DU,DV,DW,CB,fb,LT.nds,allT,uu,fB,Ly,sO,he]
  ·simp [ub,uc,Ai,Aj,DS,DT,DU,DV,DW,CB,fb,LT.each,uu,Pv,hw,he]
  ·simp only [ub,uc,Ai,Aj,DS,DT,DU,DV,DW,CB,fb,LT.fn,uu,Pv,Ah,q9,fB,cond_true]
  ·exact fun _ _=>trivial
 ·obtain⟨⟩:=a
  simp [ub,uc,Ai,Aj,DS,DT,DU,DV,DW,CB,fb,LT.out,uu,List.length_range]
theorem ass(xs ys:List BS3)(hn:leN xs.length 9223372036854775807=true):IU xs ys=ayx xs ys∧IV xs ys=true:=by
 have hn:=gR.1 hn
 unfold ayx
 have h3: ∀ a b:BS3,(!bif a.1==b.1 then bif a.2.1==b.2.1 then bif a.2.2==b.2.2 then true else false else false else false)= !decide (a=b):=fun a b=>by
  obtain⟨a1,a2,a3⟩:=a;obtain⟨b1,b2,b3⟩:=b
  simp only [Prod.mk.injEq]
  by_cases h1:a1=b1 <;> by_cases h2:a2=b2 <;> by_cases h3:a3=b3 <;> simp [h1,h2,h3]
 by_cases hl:ys.length=xs.length
 ·obtain⟨w1,w2⟩:=aiw xs ys hn hl
  have ha:=ayc (d:=((0:Int),(0:Int),(0:Int))) hl (P:=fun b=> !decide (k9 xs[b]? ((0:Int),(0:Int),(0:Int))=k9 ys[b]? ((0:Int),(0:Int),(0:Int)))) (fun b=>rfl)
  rw [lN (P:=fun b=> !decide (k9 xs[b]? ((0:Int),(0:Int),(0:Int))=k9 ys[b]? ((0:Int),(0:Int),(0:Int)))) (j:=0) (fun b=>by simp only [Ah,h3]),ha]at w2
  simp only [Mm,Mn,IU,IV,w1,w2,allT]
  by_cases he:xs=ys
  ·subst he;simp;decide
  ·simp [he,hl]
 ·have hne:xs≠ys:=fun h=>hl (by rw [h])
  simp [Mm,Mn,IU,IV,allT,hne]
  omega
def lkM(xs:avO)(ss:List BS3)(ys:avO)(us:List BS3):Bool:=eqL xs ys&&ayx ss us
theorem ava(xs:avO)(ss:List BS3):lkM xs ss xs ss=true:=by simp only [lkM,auH,axC,Bool.and_self]
theorem awq(xs:avO)(ss:List BS3)(ys:avO)(us:List BS3)(h:(leN xs.length 9223372036854775807&&leN ss.length 9223372036854775807)=true):
  Th xs ss ys us=lkM xs ss ys us∧Ti xs ss ys us=true:=by
 simp only [q8]at h
 obtain⟨a,b⟩:=ass ss us h.2
 simp only [Th,Ti,a,b,h.1,lkM,allT,j8,cond_true,and_true]
 cases eqL xs ys <;> rfl
def aaw:awh
 | [.one ⟨true,[.ref 0,.ref 1]⟩,.one ⟨true,[.ref 2,.ref 3]⟩],[.row false 2 (.int .i64) a,.row false 109 (.pair (.int .i64) (.pair (.int .i64) (.int .i64))) b,.row false 2 (.int .i64) c,.row false 109 (.pair (.int .i64) (.pair (.int .i64) (.int .i64))) d]=>some ⟨aBB (.val (.bool (lkM a b c d))),[aBF a,aBN b,aBF c,aBN d],[],[leN a.length 9223372036854775807&&leN b.length 9223372036854775807]⟩
 |_,_=>none
def Tm:PF prog:=PF.alt ajS aaw (by
 intro args es o h cA;unfold aaw at h;split at h
 ·rename_i a b c d
  cases h
  have cA:=jQ cA
  have hh:=awq a b c d cA
  obtain⟨e0,en⟩:=hh
  exact pW rfl (ip en) (by simp only [e0] <;> rfl) rfl rfl
 ·cases h)
def au3(nm:avP)(ins vs os:List avP)(g:avP)(ls:List LN)(xs:avO)(ss:List BS3):Bool:=dS nm ins vs os g ls&&sy vs.length (blL ls) xs ss
theorem an1{nm:avP}{ins vs os:List avP}{g:avP}{ls:List LN}{xs:avO}:(Uc nm ins vs os g ls&&leN xs.length 9223372036854775807)=true↔Uc nm ins vs os g ls=true∧leN xs.length 9223372036854775807=true:=by simp only [q8]
theorem awj(nm:avP)(ins vs os:List avP)(g:avP)(ls:List LN)(xs:avO)(ss:List BS3)(h:(Uc nm ins vs os g ls&&leN xs.length 9223372036854775807)=true):
  RP nm g ins vs os ls xs ss=au3 nm ins vs os g ls xs ss∧RQ nm g ins vs os ls xs=true:=by
 obtain⟨h1,h2⟩:=an1.1 h
 have h3:=(Qg.1 h1).2.2.2.2.2.2
 have hbl:=at1 h3
 have hbl2:leN (blL ls).length 9223372036854775807=true:=bx (by omega)
 cases hs:dS nm ins vs os g ls with
 |false=>simp only [RP,RQ,au3,h1,hs,allT,Bool.false_and,Bool.not_false,Bool.true_or,cond_true,cond_false,and_self]
 |true=>
  have hb:=afW ls (Gy hs).2.1
  simp only [RP,RQ,OV,au3,h1,h2,h3,hs,hb,hbl2,allT,Bool.and_self,Bool.true_and,j8,cond_true,and_self]
def aed:awh
 | [.one ⟨true,[.val (.string a),.ref 0,.ref 1,.ref 2,.val (.string b),.ref 3]⟩,.one ⟨true,[.ref 4,.ref 5]⟩],[.row false 9 (.str) c,.row false 9 (.str) d,.row false 9 (.str) e,.row false 142 (.pair (.str) (.sl 122 (.pair (.int .i64) (.pair (.str) (.int .i64))))) f,.row false 2 (.int .i64) g,.row false 109 (.pair (.int .i64) (.pair (.int .i64) (.int .i64))) i]=>some ⟨aBB (.val (.bool (au3 a c d e b f g i))),[aBD c,aBD d,aBD e,aBH f,aBF g,aBN i],[],[Uc a c d e b f&&leN g.length 9223372036854775807]⟩
 |_,_=>none
def XY:PF prog:=PF.alt aoc aed (by
 intro args es o h cA;unfold aed at h;split at h
 ·rename_i a b c d e f g i
  cases h
  have cA:=jQ cA
  have hh:=awj a c d e b f g i cA
  obtain⟨e0,en⟩:=hh
  exact pW rfl (ip en) (by simp only [e0] <;> rfl) rfl rfl
 ·cases h)
theorem azt(nm g:avP)(ins vs os:List avP)(ls:List LN):qx [] nm g ins vs os ls=false∧qy [] nm g ins vs os ls=true:=by
 obtain⟨f0,j,y,g0,rfl,rfl⟩:=dN.inv (fun _ y=>y=((0:Int),(0:Int),nm,g,[],ins,vs,os,ls)) (fun j y=>j=1∧y=((0:Int),(0:Int),nm,g,[],ins,vs,os,ls)) (fun k x hx=> .inl ⟨1,by subst hx;rfl,rfl,hx⟩) (fun x hx=>⟨1,by subst hx;rfl,rfl,hx⟩) 0 _ (by omega) rfl
 have e0:sj [] nm g ins vs os ls=((0:Int),(0:Int),nm,g,[],ins,vs,os,ls):=rfl
 simp only [qx,qy,zE,zF,mT,e0,f0,g0,allT,cond_true,and_true]
 rfl
theorem awK(nm:avP)(ins vs os:List avP)(g:avP)(ls:List LN)(xs:avO)(ss:List BS3)(h:(Uc nm ins vs os g ls&&leN xs.length 9223372036854775807)=true):
  DR nm g ins vs os ls xs ss=ak4 nm ins vs os g ls xs ss []∧JN nm g ins vs os ls xs ss=true:=by
 obtain⟨h1,h2⟩:=an1.1 h
 have h3:=(Qg.1 h1).2.2.2.2.2.2
 have hbl:=at1 h3
 have hbl2:leN (blL ls).length 9223372036854775807=true:=bx (by omega)
 have e1:HF vs ls xs ss= []:=by simp only [HF,j9]
 obtain⟨c0,c4⟩:=azt nm g ins vs os ls
 simp only [DR,JN,e1,c0,c4,h1,h2,h3,hbl2,ak4,allT,List.all_nil,Bool.not_true,Bool.or_false,j8,Bool.true_and,cond_true]
 cases hs:dS nm ins vs os g ls with
 |false=>exact⟨rfl,rfl⟩
 |true=>
  rw [afW ls (Gy hs).2.1]
  cases sy vs.length (blL ls) xs ss <;> exact⟨rfl,rfl⟩
def viC(nm:avP)(ins vs os:List avP)(g:avP)(ls:List LN)(xs:avO)(ss:List BS3)(s:avP):Int:=bif ak4 nm ins vs os g ls xs ss []!=0 then ak4 nm ins vs os g ls xs ss []else bif lM vs s then 0 else 4
def viV(nm:avP)(ins vs os:List avP)(g:avP)(ls:List LN)(xs:avO)(ss:List BS3)(s:avP):Int:=bif ak4 nm ins vs os g ls xs ss []!=0 then 0 else bif lM vs s then atZ xs (EC vs s)else 0
theorem axM(nm:avP)(ins vs os:List avP)(g:avP)(ls:List LN)(xs:avO)(ss:List BS3)(s:avP)(h:(Uc nm ins vs os g ls&&leN xs.length 9223372036854775807)=true):
  acK nm g s ins vs os ls xs ss=viV nm ins vs os g ls xs ss s∧acL nm g s ins vs os ls xs ss=viC nm ins vs os g ls xs ss s∧acM nm g s ins vs os ls xs ss=true:=by
 obtain⟨c0,c1⟩:=awK nm ins vs os g ls xs ss h
 obtain⟨h1,h2⟩:=an1.1 h
 simp only [acK,acL,acM,GE,c0,c1,viC,viV,allT]
 cases hz:(ak4 nm ins vs os g ls xs ss []!=0)with
 |true=>simp only [cond_true,Bool.true_or,and_self]
 |false=>
  obtain⟨k1,k2,_⟩:=ax0 hz
  obtain⟨_,s2,_⟩:=Qx.1 k2
  have hx:=(ct.1 s2).2
  obtain⟨_,_,_,_,_,_,hv,_⟩:=Gy k1
  have hn:leN vs.length 9223372036854775807=true:=bx (by omega)
  simp only [cond_false,Bool.false_or,hn,cond_true]
  cases hh:lM vs s with
  |false=>
   have e:ltI (eA vs s) 0=true:=by simp only [eA,hh,cond_false];rfl
   simp only [e,cond_true,cond_false,Bool.true_or,and_self]
  |true=>
   have hp:=Pt hh
   have e:ltI (EC vs s:Int) 0=false:=IZ (by omega)
   have q1:leI 0 (EC vs s:Int)=true:=bk (by omega)
   have q2:ltI (EC vs s:Int) (xs.length:Int)=true:=dw (by omega)
   have q3:ltN (EC vs s) xs.length=true:=eD (by omega)
   simp only [Gn hh,e,q1,q2,q3,q9,cond_true,cond_false,Bool.false_or,and_self,atZ]
def ai2:awh
 | [.one ⟨true,[.val (.string a),.ref 0,.ref 1,.ref 2,.val (.string b),.ref 3]⟩,.one ⟨true,[.ref 4,.ref 5]⟩,.one ⟨false,[.val (.string c)]⟩],[.row false 9 (.str) d,.row false 9 (.str) e,.row false 9 (.str) f,.row false 142 (.pair (.str) (.sl 122 (.pair (.int .i64) (.pair (.str) (.int .i64))))) g,.row false 2 (.int .i64) i,.row false 109 (.pair (.int .i64) (.pair (.int .i64) (.int .i64))) j]=>some ⟨.tup [⟨false,[axb (viV a d e f b g i j c)]⟩,⟨false,[axb (viC a d e f b g i j c)]⟩],[aBD d,aBD e,aBD f,aBH g,aBF i,aBN j],[],[Uc a d e f b g&&leN i.length 9223372036854775807]⟩
 |_,_=>none
def ac4:PF prog:=PF.alt arH ai2 (by
 intro args es o h cA;unfold ai2 at h;split at h
 ·rename_i a b c d e f g i j
  cases h
  have cA:=jQ cA
  have hh:=axM a d e f b g i j c cA
  obtain⟨e0,e1,en⟩:=hh
  exact pW rfl (ip en) (by simp only [e0,e1] <;> rfl) rfl rfl
 ·cases h)
 attribute [local irreducible] nxA nxS nxV pkA pkS pkV
theorem asP(c:avO)(h:aG 0 0 c=true):
  Vc c=true∧prD (bC c) (bE c) (bF c) (bG c) (bD c) (bH c)=true∧(dU c).length≤432∧ae7 60 (dU c)=true:=by
 have h1:=(atM c h).2
 obtain⟨_,s2,hp⟩:=YN 0 (frS c) c h1
 have i0:=(td.1 (Pu.1 hp).2.1).1
 obtain⟨_,_,l1,l2⟩:=RA (bC c) (bD c) _ _ (bE c) (bF c) (bG c) (bH c) c s2 i0
 refine⟨?_,hp,l1,l2⟩
 have i0:leN (ph 0 (frS c) c).length 50=true:=bx i0
 simp only [Vc,h,h1,s2,i0,allT,Bool.and_self,cond_true]
theorem auF(c:avO)(h:aG 0 0 c=true):
  Ww c=true∧prD (oV c) (oX c) (oY c) (oZ c) (oW c) (pa c)=true∧(pb c).length≤60∧(rN c).length≤2000∧(rM c).size≤1000:=by
 have h1:=(atM c h).2
 obtain⟨_,s2,hp⟩:=YN 0 (frS c) c h1
 obtain⟨_,s3,m2,m3⟩:=Xk _ _ _ _ _ _ _ _ c s2 hp
 have s3:aG (Vd c) (Ve c) c=true:=s3
 obtain⟨_,_,m4⟩:=Zp _ _ _ _ _ _ _ _ c s3 hp
 refine⟨?_,hp,m2,m3,m4⟩
 have hp:Vf c=true:=hp
 simp only [Ww,h,h1,s2,s3,hp,allT,Bool.and_self,cond_true]
def abN:awh
 | [.one ⟨false,[.ref 0]⟩],[.row false 5 (.int .u8) a]=>some ⟨.tup [⟨true,[.val (.string (bC a)),.ref 1,.ref 2,.ref 3,.val (.string (bD a)),.ref 4]⟩,⟨false,[.ref 5]⟩],[aBL a],[aBD (bE a),aBD (bF a),aBD (bG a),aBH (bH a),aBQ (dU a)],[aG 0 0 a]⟩
 |_,_=>none
def UI:PF prog:=PF.alt ak1 abN (by
 intro args es o h cA;unfold abN at h;split at h
 ·rename_i a
  cases h
  have cA:=jQ cA
  have hh:=(asP a cA).1
  have en:=hh
  exact pW rfl (ip en) rfl rfl rfl
 ·cases h)
def acw:awh
 | [.one ⟨false,[.ref 0]⟩],[.row false 5 (.int .u8) a]=>some ⟨.tup [⟨true,[.val (.string (oV a)),.ref 1,.ref 2,.ref 3,.val (.string (oW a)),.ref 4]⟩,⟨true,[.ref 5,.ref 6]⟩,⟨false,[.val (.string (rM a))]⟩],[aBL a],[aBJ (oX a),aBJ (oY a),aBJ (oZ a),aBR (pa a),aBE (pb a),aBK (rN a)],[aG 0 0 a]⟩
 |_,_=>none
def Wk:PF prog:=PF.alt amB acw (by
 intro args es o h cA;unfold acw at h;split at h
 ·rename_i a
  cases h
  have cA:=jQ cA
  have hh:=(auF a cA).1
  have en:=hh
  exact pW rfl (ip en) rfl rfl rfl
 ·cases h)
end Go.SX
namespace Go.SX
open Go.Proofs Go.Proofs.Tryz
set_option maxRecDepth 100000
def aAd(v:auQ→auQ)(n:Nat):awh
 | [.one ⟨false,[.ref 0]⟩],[.row false 83 (.pair (.int .i64) (.int .i64)) a]=>
  some ⟨.one ⟨false,[.ref 1]⟩,[.row false 83 (.pair (.int .i64) (.int .i64)) a],[.row true 83 (.pair (.int .i64) (.int .i64)) (v a)],[leN (a.length + 1) n,leN a.length 1000000]⟩
 |_,_=>none
def aBi(v:auQ→auQ)(n:Nat):Prop:=
 ∀ args es o,aAd v n args es=some o→(∀ b∈o.nd,b=true)→ ∀ (mem:Nat→Option Obj) (ρ:Nm) (w:World),HpL w mem es ρ w→
  Calls prog 167 (args.map (SV.conc ρ)).toArray w fun e w'=> ∃ ρ':Nm,Ext (memB w mem) (fun i=>Nat.blt i es.length) ρ ρ'∧e= .returned (o.res.conc ρ')∧o.es.length=es.length∧
   o.res.inU (fun i=>Nat.blt i (o.es++o.new).length)∧HpL w mem (o.es++o.new) ρ' w'
def PF.imp(v:auQ→auQ)(n:Nat)(hk:aBi v n):PF prog where
 k:=167
 F:=aAd v n
 ok:=hk
 attribute [local irreducible] nxA nxS nxV pkA pkS pkV
end Go.SX
namespace Go.SX
open Go.Proofs Go.Proofs.Tryz
set_option maxRecDepth 100000
 attribute [local irreducible] nxA nxS nxV pkA pkS pkV
end Go.SX
namespace Go.SX
open Go.Proofs Go.Proofs.Tryz
set_option maxRecDepth 100000
abbrev tS:=Int×List (List Int)×List (List Int)
section
variable (a:Int)(b c:aup)
def QV:avO:=k9 b[k7 a]? (xS agV)
def KK:Bool:=ltI a (↑b.length:Int)
def Tg:Bool:=leI 0 a
def aaE:Bool:=ltN a.toNat b.length
def aaF:Bool:=ltI a (↑c.length:Int)
def aaG:Bool:=ltN a.toNat c.length
def aaH:Bool:=leN (k8 (QV a b)) 9223372036854775807
def aaI:Bool:= !eqL (QV a b) (k9 c[k7 a]? (xS agV))
def aaJ:Int:=v5 .i64 (a + (1:Int))
end
def ah3:tS→List (Nat×SV)
 |(a,_,_)=> [(5,(aBC a)),(0,(aBB (.ref 0))),(1,(aBB (.ref 1)))]
def ahX:tS→List (Nat×Entry)
 |(_,a,b)=> [(0,(aBT a)),(1,(aBT b))]
def aif:Nat→tS→List (Nat×SV)
 |0,(_,_,_)=> [(4,(aBB (.val (.bool false))))]
 |_,_=>[]
def Rc:tS→LT tS
 |(a,b,c)=> .ite (KK a b) (.need [Tg a,KK a b,aaE a b,Tg a,aaF a c,aaG a c,aaH a b] (.ite (aaI a b c) (.ext 0 [(0,0),(1,1)]) (.nrm ((aaJ a),b,c) [(0,0),(1,1)]))) (.ext 1 [(0,0),(1,1)])
def Rm(s:St):Option tS:=do
 let some ⟨none,.one ⟨false,[.val (.int .i64 a)]⟩⟩:=s.look 5|none
 let some ⟨none,.one ⟨false,[.ref 0]⟩⟩:=s.look 0|none
 let some ⟨none,.one ⟨false,[.ref 1]⟩⟩:=s.look 1|none
 let some (.row false 28 (.sl 2 (.int .i64)) b):=s.ent 0|none
 let some (.row false 28 (.sl 2 (.int .i64)) c):=s.ent 1|none
 some (a,b,c)
def gC:Lp tS where
 h:=⟨[11,12,13,14,17,18,19,20,21,22,23,24,25,26,4,15,16,5],[0,1],[],[]⟩
 JL:=ah3
 JE:=ahX
 XL:=aif
 XE:=fun _=>ahX
 q:=fun j=>match j with | 0=> .ret | _=> .exit 0
 tags:= [0,1]
 lt:=Rc
 fuel:=fun(a,b,c)=>a.natAbs + b.length + c.length
 fix:=fun(_,b,c) (a,_,_)=>(a,b,c)
 σ:= [(0,0),(1,1)]
 rd:=Rm
theorem af4:LoopOk prog (fun k=>Nat.blt k Tryz.f24.ntmps) gC.F (bj f24 0):=by
 refine Lp.ok (tbl:= (T3z [AJ])) (lf:= []) aT gC (by kernel_rfl) (LOk.nil _) (fun _=>rfl) (fun j _=>by unfold gC;match j with | 0=>rfl | _ + 1=>rfl) ?_ ?_ ?_ ?_ (fun _=>rfl) ?_
 ·intro _;kernel_rfl
 ·intro _;kernel_rfl
 ·intro s x h
  have h:Rm s=some x:=h
  unfold Rm at h
  repeat' split at h
  all_goals cases h
  constructor<;>repeat(first|refine ab ‹_› rfl ?_|refine aa rfl ‹_› rfl ?_|rfl)
 ·intro _;kernel_rfl
 ·intro _ _;exact(And.intro (And.intro trivial rfl) trivial)
section
variable (a b:aup)
def Pl:Bool:=(↑a.length:Int)!=(↑b.length:Int)
def Pm:Int×aup×aup:=((0:Int),a,b)
def Gs:Bool:=bif Pl a b then false else bif Nat.beq ((Lp.res gC (Pm a b)).1) 0 then false else true
def KJ:Bool:=allT [Pl a b||Lp.fin gC (Pm a b)]
end
def ad9:awh
 | [.one ⟨false,[.ref 0]⟩,.one ⟨false,[.ref 1]⟩],[.row false 28 (.sl 2 (.int .i64)) a,.row false 28 (.sl 2 (.int .i64)) b]=>some ⟨aBB (.val (.bool (Gs a b))),[aBP a,aBP b],[],[KJ a b]⟩
 |_,_=>none
def Yc:PF prog:=PF.ofG prog (T3z [AJ]) [gC.F] aT 24 f24 func24 (LOk.fnT (l:= [bj f24 0]) (by kernel_rfl) (.cons af4 (.nil _))) ad9 (by
 intro _ _ _ h;unfold ad9 at h;split at h<;>cases h;kernel_rfl)
 attribute [local irreducible] nxA nxS nxV pkA pkS pkV
theorem ayT(x:aup)(hx:x.length≤1048576)(hA: ∀ a∈x,a.length≤9223372036854775807): ∀ (n i:Nat),i + n=x.length→
  Vy gC.lt (n + 1) ((i:Int),x,x)=some (1,((x.length:Int),x,x))
 |0,i,h=>by
  have e:i=x.length:=by omega
  rw [e]
  refine aaO _ ?_
  have q:ltI (x.length:Int) (x.length:Int)=false:=IZ (by omega)
  simp only [gC,Rc,LT.out,KK,q,cond_false]
 |n + 1,i,h=>by
  have fC:i < x.length:=by omega
  have q0:ltI (i:Int) (x.length:Int)=true:=dw (by omega)
  have q1:leI 0 (i:Int)=true:=bk (by omega)
  have q2:ltN i x.length=true:=eD fC
  have g:k9 x[i]? (xS (CTy.sl (2:Nat) anW))=x[i]:=by rw [List.getElem?_eq_getElem fC];rfl
  have q3:leN (x[i]).length 9223372036854775807=true:=bx (hA _ (List.getElem_mem fC))
  have q4:v5 .i64 ((i:Int) + 1)=((i + 1:Nat):Int):=by rw [aM (by omega) (by omega)];omega
  rw [ach (y:=(((i + 1:Nat):Int),x,x)) _ (by
   simp only [gC,Rc,LT.out,KK,Tg,aaE,aaF,aaG,aaH,aaI,aaJ,QV,q9,q0,q1,q2,g,q3,q4,auH,allT,cond_true,Bool.not_true,cond_false])]
  exact ayT x hx hA n (i + 1) (by omega)
theorem axP(x:aup)(hx:x.length≤1048576)(hA: ∀ a∈x,a.length≤9223372036854775807):Gs x x=true∧KJ x x=true:=by
 obtain⟨p1,p2⟩:=gC.run (ayT x hx hA x.length 0 (by omega)) (ams (by simp only [gC];omega))
 have e0:Pl x x=false:=by simp [Pl]
 have p1:gC.fin (Pm x x)=true:=p1
 have p2:gC.res (Pm x x)=_:=p2
 simp only [Gs,KJ,e0,p1,p2,allT,cond_false,cond_true,j8]
 exact⟨rfl,trivial⟩
end Go.SX
namespace Go.SX
open Go.Proofs Go.Proofs.Tryz
set_option maxRecDepth 100000
def Fq(a:List avP):Int:=(↑a.length:Int)
def aan:awh
 | [.one ⟨false,[.ref 0]⟩],[.row false 9 (.str) a]=>some ⟨aBC (Fq a),[aBD a],[],[]⟩
 |_,_=>none
def Tr:PF prog:=PF.ofG prog [] [] aT 161 f161 func161 (fun c _=>LOk.nil c) aan (by
 intro _ _ _ h;unfold aan at h;split at h<;>cases h;kernel_rfl)
section
variable (a b c:List avP)(d:afZ)
def Iw:Int:=Fq a
def Ix:Int:=Fq b
def Iy:Int:=Fq c
def Iz:ajz:=blL d
end
def acX:auQ:= []
def Wg(a:afZ):Bool:=allT [Xc a]
def acl:awh
 | [.one ⟨true,[.val (.string a),.ref 0,.ref 1,.ref 2,.val (.string b),.ref 3]⟩],[.row false 9 (.str) c,.row false 9 (.str) d,.row false 9 (.str) e,.row false 142 (.pair (.str) (.sl 122 (.pair (.int .i64) (.pair (.str) (.int .i64))))) f]=>some ⟨aBB (.ptr 4 0),[aBD c,aBD d,aBD e,aBH f],[.box 146 [.val (.string a),.ref 0,.ref 1,.ref 2,.val (.string b),.ref 3,axb (Iw c),axb (Ix d),axb (Iy e),.ref 5,.ref 6,axb 0],aBM (Iz f),aBS (acX)],[Wg f]⟩
 |_,_=>none
def ac5:PF prog:=PF.ofG prog (T3z [Tr,aB]) [] aT 111 f111 func111 (fun c _=>LOk.nil c) acl (by
 intro _ _ _ h;unfold acl at h;split at h<;>cases h;kernel_rfl)
section
variable (a b:Int)(c:auQ)
def eI:auQ:= [(a,b)]
def bg:auQ:=c++eI a b
def bw:Bool:=allT [leN (k8 c + k8 (eI a b)) 9223372036854775807,leN ((k8 c + k8 (eI a b)) * 16) 140737488355328]
end
def DJ:awh
 | [.one ⟨false,[.ptr 0 0]⟩,.one ⟨false,[.val (.int .i64 a)]⟩,.one ⟨false,[.val (.int .i64 b)]⟩],[.box 146 [.val (.string c),.ref 1,.ref 2,.ref 3,.val (.string d),.ref 4,.val (.int .i64 e),.val (.int .i64 f),.val (.int .i64 g),.ref 5,.ref 6,.val (.int .i64 i)],.row false 9 (.str) j,.row false 9 (.str) k,.row false 9 (.str) l,.row false 142 (.pair (.str) (.sl 122 (.pair (.int .i64) (.pair (.str) (.int .i64))))) m,.row true 122 (.pair (.int .i64) (.pair (.str) (.int .i64))) n,.row true 83 (.pair (.int .i64) (.int .i64)) o]=>some ⟨.tup [],[.box 146 [.val (.string c),.ref 1,.ref 2,.ref 3,.val (.string d),.ref 4,axb e,axb f,axb g,.ref 5,.ref 7,axb i],aBD j,aBD k,aBD l,aBH m,aBM n,.gone],[aBS (bg a b o)],[bw a b o]⟩
 |_,_=>none
def pJ:PF prog:=PF.ofG prog [] [] aT 163 f163 func163 (fun c _=>LOk.nil c) DJ (by
 intro _ _ _ h;unfold DJ at h;split at h<;>cases h;kernel_rfl)
section
variable (a:avP)(b c:Int)(d e:avP)(f g i j:Int)(k l:List avP)(m:alv)(n:auQ)
def kx:avP:=bif leI 0 (eA k a)then d else d
def ky:avP:=bif leI 0 (eA k a)then e else e
def kz:Int:=bif leI 0 (eA k a)then f else f
def kA:Int:=bif leI 0 (eA k a)then g else g
def kB:Int:=bif leI 0 (eA k a)then i else i
def kC:Int:=bif leI 0 (eA k a)then j else j
def kD:ajz:=bif leI 0 (eA k a)then m else m
def kE:auQ:=bif leI 0 (eA k a)then bg b (eA k a) n else bg c (eA l a) n
def kF:Bool:=allT [leN k.length (9223372036854775807:Nat),!leI 0 (eA k a)||bw b (eA k a) n,leI 0 (eA k a)||leN l.length (9223372036854775807:Nat),leI 0 (eA k a)||bw c (eA l a) n]
end
def DL:awh
 | [.one ⟨false,[.ptr 0 0]⟩,.one ⟨false,[.val (.string a)]⟩,.one ⟨false,[.val (.int .i64 b)]⟩,.one ⟨false,[.val (.int .i64 c)]⟩],[.box 146 [.val (.string d),.ref 1,.ref 2,.ref 3,.val (.string e),.ref 4,.val (.int .i64 f),.val (.int .i64 g),.val (.int .i64 i),.ref 5,.ref 6,.val (.int .i64 j)],.row false 9 (.str) k,.row false 9 (.str) l,.row false 9 (.str) m,.row false 142 (.pair (.str) (.sl 122 (.pair (.int .i64) (.pair (.str) (.int .i64))))) n,.row true 122 (.pair (.int .i64) (.pair (.str) (.int .i64))) o,.row true 83 (.pair (.int .i64) (.int .i64)) p]=>some ⟨.tup [],[.box 146 [.val (.string (kx a d k)),.ref 1,.ref 2,.ref 3,.val (.string (ky a e k)),.ref 4,axb (kz a f k),axb (kA a g k),axb (kB a i k),.ref 5,.ref 7,axb (kC a j k)],aBD k,aBD l,aBD m,aBH n,aBM (kD a k o),.gone],[aBS (kE a b c k l p)],[kF a b c k l p]⟩
 |_,_=>none
def Ee:PF prog:=PF.ofG prog [pJ,ft] [] aT 113 f113 func113 (fun c _=>LOk.nil c) DL (by
 intro _ _ _ h;unfold DL at h;split at h<;>cases h;kernel_rfl)
section
variable (a:Int)(b c d:avP)(e f g i:Int)(j k:List avP)(l:alv)(m:auQ)
def az:Bool:=bif a==2 then a==2 else a==3
def pA:avP:=bif a==1 then kx b c j else bif az a then c else bif a==4 then c else bif a==5 then c else bif a==6 then c else c
def pB:avP:=bif a==1 then ky b d j else bif az a then d else bif a==4 then d else bif a==5 then d else bif a==6 then d else d
def pC:Int:=bif a==1 then kz b e j else bif az a then e else bif a==4 then e else bif a==5 then e else bif a==6 then e else e
def pD:Int:=bif a==1 then kA b f j else bif az a then f else bif a==4 then f else bif a==5 then f else bif a==6 then f else f
def pE:Int:=bif a==1 then kB b g j else bif az a then g else bif a==4 then g else bif a==5 then g else bif a==6 then g else g
def pF:Int:=bif a==1 then kC b i j else bif az a then i else bif a==4 then i else bif a==5 then i else bif a==6 then i else v5 .i64 (i + (1:Int))
def pG:ajz:=bif a==1 then kD b j l else bif az a then l else bif a==4 then l else bif a==5 then l else bif a==6 then l else l
def pH:auQ:=bif a==1 then kE b 2 3 j k m else bif az a then bg 1 (pp (a==2)) m else bif a==4 then bg 4 0 m else bif a==5 then bg 5 0 m else bif a==6 then bg 6 0 m else bg 7 i m
def pI:Bool:=allT [!a==1||kF b 2 3 j k m,a==1||(!az a||bw 1 (pp (a==2)) m),a==1||(az a||(!a==4||bw 4 0 m)),a==1||(az a||(a==4||(!a==5||bw 5 0 m))),a==1||(az a||(a==4||(a==5||(!a==6||bw 6 0 m)))),a==1||(az a||(a==4||(a==5||(a==6||bw 7 i m))))]
end
def DM:awh
 | [.one ⟨false,[.ptr 0 0]⟩,.one ⟨true,[.val (.int .i64 a),.val (.string b),.val (.int .i64 _x2)]⟩],[.box 146 [.val (.string c),.ref 1,.ref 2,.ref 3,.val (.string d),.ref 4,.val (.int .i64 e),.val (.int .i64 f),.val (.int .i64 g),.ref 5,.ref 6,.val (.int .i64 i)],.row false 9 (.str) j,.row false 9 (.str) k,.row false 9 (.str) l,.row false 142 (.pair (.str) (.sl 122 (.pair (.int .i64) (.pair (.str) (.int .i64))))) m,.row true 122 (.pair (.int .i64) (.pair (.str) (.int .i64))) n,.row true 83 (.pair (.int .i64) (.int .i64)) o]=>some ⟨.tup [],[.box 146 [.val (.string (pA a b c j)),.ref 1,.ref 2,.ref 3,.val (.string (pB a b d j)),.ref 4,axb (pC a b e j),axb (pD a b f j),axb (pE a b g j),.ref 5,.ref 7,axb (pF a b i j)],aBD j,aBD k,aBD l,aBH m,aBM (pG a b j n),.gone],[aBS (pH a b i j k o)],[pI a b i j k o]⟩
 |_,_=>none
def Rj:PF prog:=PF.ofG prog [Ee,pJ,ab8] [] aT 162 f162 func162 (fun c _=>LOk.nil c) DM (by
 intro _ _ _ h;unfold DM at h;split at h<;>cases h;kernel_rfl)
def nmI(ins vs:List avP)(a b:Int)(s:avP):IN:=bif lM ins s then(a,(EC ins s:Int))else(b,eA vs s)
def cT(ins vs:List avP)(k:Int)(t:TM):IN:=bif t.1==1 then nmI ins vs 2 3 t.2.1 else bif t.1==2 then(1,1)else bif t.1==3 then(1,0)else bif leI 7 t.1 then(7,k)else(t.1,0)
def cK(k:Int)(t:TM):Int:=bif leI 7 t.1 then k + 1 else k
def snI(st:List IN)(x:IN):List IN:=st++ [x]
def cN(ins vs:List avP)(st:List IN):Bool:=leN ins.length 1048576&&(leN vs.length 1048576&&leN st.length 1048576)
theorem atG(a b:Int)(st:List IN)(h:st.length≤1048576):bw a b st=true:=by
 have h1:leN (st.length + [(a,b)].length) 9223372036854775807=true:=bx (by simp only [j7,List.length_nil];omega)
 have h2:leN ((st.length + [(a,b)].length) * 16) 140737488355328=true:=bx (by simp only [j7,List.length_nil];omega)
 simp only [bw,eI,h1,h2,allT,cond_true]
theorem axi(s:avP)(a b:Int)(ins vs:List avP)(st:List IN)(h:cN ins vs st=true):
  kE s a b ins vs st=st++ [nmI ins vs a b s]∧kF s a b ins vs st=true:=by
 simp only [cN,q8,gR]at h
 obtain⟨h1,h2,h3⟩:=h
 have e1:leN ins.length 9223372036854775807=true:=bx (by omega)
 have e2:leN vs.length 9223372036854775807=true:=bx (by omega)
 have n:=fun x y=>atG x y st h3
 simp only [kE,kF,bg,eI,Wd,e1,e2,n,nmI,allT]
 cases hc:lM ins s with
 |false=>exact⟨rfl,rfl⟩
 |true=>rw [Gn hc];exact⟨rfl,rfl⟩
def cTN(ins vs:List avP)(k:Int)(st:List IN)(t:TM):Bool:=cN ins vs st&&(inR t.1 1 12&&inR k 0 1048576)
theorem aAu(a:Int)(b:avP)(c k:Int)(ins vs:List avP)(st:List IN)(h:cTN ins vs k st (a,b,c)=true):
  (∀ x:avP,pA a b x ins=x)∧(∀ x:avP,pB a b x ins=x)∧(∀ x:Int,pC a b x ins=x)∧
  (∀ x:Int,pD a b x ins=x)∧(∀ x:Int,pE a b x ins=x)∧pF a b k ins=cK k (a,b,c)∧
  (∀ x:List TM,pG a b ins x=x)∧pH a b k ins vs st=st++ [cT ins vs k (a,b,c)]∧pI a b k ins vs st=true:=by
 simp only [cTN,q8,ua]at h
 obtain⟨h1,⟨h2,h3⟩,h4,h5⟩:=h
 obtain⟨l7,l8⟩:=axi b 2 3 ins vs st h1
 have hs:st.length≤1048576:=by
  simp only [cN,q8,gR]at h1;exact h1.2.2
 have n:=fun x y=>atG x y st hs
 have w:v5 .i64 (k + 1)=k + 1:=aM (by omega) (by omega)
 simp only [pA,pB,pC,pD,pE,pF,
  pG,pH,pI,kx,ky,kz,
  kA,kB,kC,kD,j9,l7,l8,n,w,cK,cT,bg,eI,allT,j8]
 have hc:a=1∨a=2∨a=3∨a=4∨a=5∨a=6∨7≤a:=by omega
 rcases hc with rfl | rfl | rfl | rfl | rfl | rfl | hc
 ·exact⟨fun _=>trivial,fun _=>trivial,fun _=>trivial,fun _=>trivial,fun _=>trivial,rfl,fun _=>trivial,rfl,rfl⟩
 ·exact⟨fun _=>trivial,fun _=>trivial,fun _=>trivial,fun _=>trivial,fun _=>trivial,rfl,fun _=>trivial,rfl,rfl⟩
 ·exact⟨fun _=>trivial,fun _=>trivial,fun _=>trivial,fun _=>trivial,fun _=>trivial,rfl,fun _=>trivial,rfl,rfl⟩
 ·exact⟨fun _=>trivial,fun _=>trivial,fun _=>trivial,fun _=>trivial,fun _=>trivial,rfl,fun _=>trivial,rfl,rfl⟩
 ·exact⟨fun _=>trivial,fun _=>trivial,fun _=>trivial,fun _=>trivial,fun _=>trivial,rfl,fun _=>trivial,rfl,rfl⟩
 ·exact⟨fun _=>trivial,fun _=>trivial,fun _=>trivial,fun _=>trivial,fun _=>trivial,rfl,fun _=>trivial,rfl,rfl⟩
 ·have q: ∀ j:Int,j < 7→(a==j)=false:=fun j hj=>by simp;omega
  have a0:az a=false:=by simp only [az,q 2 (by decide),q 3 (by decide)];rfl
  simp only [q 1 (by decide),q 2 (by decide),q 3 (by decide),q 4 (by decide),q 5 (by decide),q 6 (by decide),a0,bk hc,cond_false,cond_true,and_self,implies_true]
theorem azv(a:Int)(b:avP)(c:Int)(d e:avP)(f g i j:Int)(k l:List avP)(m:List TM)(n:List IN)(h:cTN k l j n (a,b,c)=true):
  pA a b d k=d∧pB a b e k=e∧pC a b f k=f∧
  pD a b g k=g∧pE a b i k=i∧pF a b j k=cK j (a,b,c)∧
  pG a b k m=m∧pH a b j k l n=snI n (cT k l j (a,b,c))∧pI a b j k l n=true:=by
 obtain⟨e0,e1,e2,e3,e4,e5,e6,e7,e8⟩:=aAu a b c j k l n h
 exact⟨e0 _,e1 _,e2 _,e3 _,e4 _,e5,e6 _,e7,e8⟩
def DQ:awh
 | [.one ⟨false,[.ptr 0 0]⟩,.one ⟨true,[.val (.int .i64 a),.val (.string b),.val (.int .i64 c)]⟩],[.box 146 [.val (.string d),.ref 1,.ref 2,.ref 3,.val (.string e),.ref 4,.val (.int .i64 f),.val (.int .i64 g),.val (.int .i64 i),.ref 5,.ref 6,.val (.int .i64 j)],.row false 9 (.str) k,.row false 9 (.str) l,.row false 9 (.str) m,.row false 142 (.pair (.str) (.sl 122 (.pair (.int .i64) (.pair (.str) (.int .i64))))) n,.row true 122 (.pair (.int .i64) (.pair (.str) (.int .i64))) o,.row true 83 (.pair (.int .i64) (.int .i64)) p]=>some ⟨.tup [],[.box 146 [.val (.string d),.ref 1,.ref 2,.ref 3,.val (.string e),.ref 4,axb f,axb g,axb i,.ref 5,.ref 7,axb (cK j (a,b,c))],aBD k,aBD l,aBD m,aBH n,aBM o,.gone],[aBS (snI p (cT k l j (a,b,c)))],[cTN k l j p (a,b,c)]⟩
 |_,_=>none
def Ec:PF prog:=PF.alt Rj DQ (by
 intro args es o h cA;unfold DQ at h;split at h
 ·rename_i a b c d e f g i j k l m n p q
  cases h
  have cA:=jQ cA
  have hh:=azv a b c d e f g i j k l p q cA
  obtain⟨e0,e1,e2,e3,e4,e5,e6,e7,en⟩:=hh
  exact pW rfl (ip en) rfl (by simp only [e0,e1,e2,e3,e4,e5,e6] <;> rfl) (by simp only [e7] <;> rfl)
 ·cases h)
theorem axz(a:avP)(b c:Int)(d e:avP)(f g i j:Int)(k l:List avP)(m:List TM)(n:List IN)(h:cN k l n=true):
  kx a d k=d∧ky a e k=e∧kz a f k=f∧
  kA a g k=g∧kB a i k=i∧kC a j k=j∧
  kD a k m=m∧kE a b c k l n=snI n (nmI k l b c a)∧kF a b c k l n=true:=by
 obtain⟨e7,e8⟩:=axi a b c k l n h
 simp only [kx,ky,kz,kA,kB,kC,kD,j9,e7,e8,and_self,snI]
def DP:awh
 | [.one ⟨false,[.ptr 0 0]⟩,.one ⟨false,[.val (.string a)]⟩,.one ⟨false,[.val (.int .i64 b)]⟩,.one ⟨false,[.val (.int .i64 c)]⟩],[.box 146 [.val (.string d),.ref 1,.ref 2,.ref 3,.val (.string e),.ref 4,.val (.int .i64 f),.val (.int .i64 g),.val (.int .i64 i),.ref 5,.ref 6,.val (.int .i64 j)],.row false 9 (.str) k,.row false 9 (.str) l,.row false 9 (.str) m,.row false 142 (.pair (.str) (.sl 122 (.pair (.int .i64) (.pair (.str) (.int .i64))))) n,.row true 122 (.pair (.int .i64) (.pair (.str) (.int .i64))) o,.row true 83 (.pair (.int .i64) (.int .i64)) p]=>some ⟨.tup [],[.box 146 [.val (.string d),.ref 1,.ref 2,.ref 3,.val (.string e),.ref 4,axb f,axb g,axb i,.ref 5,.ref 7,axb j],aBD k,aBD l,aBD m,aBH n,aBM o,.gone],[aBS (snI p (nmI k l b c a))],[cN k l p]⟩
 |_,_=>none
def Eb:PF prog:=PF.alt Ee DP (by
 intro args es o h cA;unfold DP at h;split at h
 ·rename_i a b c d e f g i j k l m n p q
  cases h
  have cA:=jQ cA
  have hh:=axz a b c d e f g i j k l p q cA
  obtain⟨e0,e1,e2,e3,e4,e5,e6,e7,en⟩:=hh
  exact pW rfl (ip en) rfl (by simp only [e0,e1,e2,e3,e4,e5,e6] <;> rfl) (by simp only [e7] <;> rfl)
 ·cases h)
abbrev dc:=Int×Int×List (Int×(avP×Int))×avP×avP×Int×Int×Int×Int×List avP×List avP×List avP×List (avP×(List (Int×(avP×Int))))×List (Int×(avP×Int))×List (Int×Int)
section
variable (a b:Int)(c:ajz)(d:Int)(e f:List avP)(g:auQ)
def mq:Int×avP×Int:=k9 c[k7 a]? ((0:Int),ByteArray.empty,(0:Int))
def ig:Int×avP×Int:=((mq a c).1,((mq a c).2).1,(mq a c).2.2)
def tI:Bool:=ltI a b
def Ck:Bool:=leI 0 a
def Cl:Bool:=ltI a (↑c.length:Int)
def Cm:Bool:=ltN a.toNat c.length
def Cn:Bool:=cTN e f d g (ig a c)
def Co:Int:=v5 .i64 (a + (1:Int))
def Cp:Int:=cK d (ig a c)
def Cq:auQ:=snI g (cT e f d (ig a c))
end
def MN:dc→List (Nat×SV)
 |(a,b,_,_,_,_,_,_,_,_,_,_,_,_,_)=> [(10,(aBC a)),(9,(aBC b)),(8,(aBB (.ref 0))),(0,(aBB (.ptr 1 0)))]
def ML:dc→List (Nat×Entry)
 |(_,_,a,b,c,d,e,f,g,i,j,k,l,m,n)=> [(0,(aBG a)),(1,(.box 146 [.val (.string b),.ref 2,.ref 3,.ref 4,.val (.string c),.ref 5,axb d,axb e,axb f,.ref 6,.ref 7,axb g])),(2,(aBD i)),(3,(aBD j)),(4,(aBD k)),(5,(aBI l)),(6,(aBM m)),(7,(aBS n))]
def MT:Nat→dc→List (Nat×SV)
 |_,_=>[]
def tc:dc→LT dc
 |(a,b,c,d,e,f,g,i,j,k,l,m,n,o,p)=> .ite (tI a b) (.need [Ck a,Cl a c,Cm a c] (.need [Cn a c j k l p] (.nrm ((Co a),b,c,d,e,f,g,i,Cp a c j,k,l,m,n,o,(Cq a c j k l p)) [(0,0),(1,1),(2,2),(3,3),(4,4),(5,5),(6,6),(7,512)]))) (.ext 0 [(0,0),(1,1),(2,2),(3,3),(4,4),(5,5),(6,6),(7,7)])
def ti(s:St):Option dc:=do
 let some ⟨none,.one ⟨false,[.val (.int .i64 a)]⟩⟩:=s.look 10|none
 let some ⟨none,.one ⟨false,[.val (.int .i64 b)]⟩⟩:=s.look 9|none
 let some ⟨none,.one ⟨false,[.ref 1]⟩⟩:=s.look 8|none
 let some ⟨none,.one ⟨false,[.ptr 0 0]⟩⟩:=s.look 0|none
 let some (.row false 122 (.pair (.int .i64) (.pair .str (.int .i64))) c):=s.ent 1|none
 let some (.box 146 [.val (.string d),.ref 2,.ref 3,.ref 4,.val (.string e),.ref 5,.val (.int .i64 f),.val (.int .i64 g),.val (.int .i64 i),.ref 6,.ref 7,.val (.int .i64 j)]):=s.ent 0|none
 let some (.row false 9 (.str) k):=s.ent 2|none
 let some (.row false 9 (.str) l):=s.ent 3|none
 let some (.row false 9 (.str) m):=s.ent 4|none
 let some (.row false 142 (.pair .str (.sl 122 (.pair (.int .i64) (.pair .str (.int .i64))))) n):=s.ent 5|none
 let some (.row true 122 (.pair (.int .i64) (.pair .str (.int .i64))) o):=s.ent 6|none
 let some (.row true 83 (.pair (.int .i64) (.int .i64)) p):=s.ent 7|none
 some (a,b,c,d,e,f,g,i,j,k,l,m,n,o,p)
def bd:Lp dc where
 h:=⟨[11,12,13,5,14,15,16,17,10],[0,1,2,3,4,5,6],[7],[]⟩
 JL:=MN
 JE:=ML
 XL:=MT
 XE:=fun _=>ML
 q:=fun j=>match j with | _=> .exit 0
 tags:= [0]
 lt:=tc
 fuel:=fun(a,b,c,d,e,f,g,i,k,l,m,n,o,p,r)=>a.natAbs + b.natAbs + c.length + d.size + e.size + f.natAbs + g.natAbs + i.natAbs + k.natAbs + l.length + m.length + n.length + o.length + p.length + r.length
 fix:=fun(_,b,c,d,e,f,g,i,_,l,m,n,o,p,_) (a,_,_,_,_,_,_,_,k,_,_,_,_,_,r)=>(a,b,c,d,e,f,g,i,k,l,m,n,o,p,r)
 σ:= [(0,1),(1,0),(2,2),(3,3),(4,4),(5,5),(6,6),(7,7)]
 rd:=ti
theorem LE:LoopOk prog (fun k=>Nat.blt k Tryz.f112.ntmps) bd.F (bj f112 0):=by
 refine Lp.ok (tbl:= [Ec,pJ,ft]) (lf:= []) aT bd (by kernel_rfl) (LOk.nil _) (fun _=>rfl) (fun _ _=>rfl) ?_ ?_ ?_ ?_ (fun _=>rfl) ?_
 ·intro _;kernel_rfl
 ·intro _;kernel_rfl
 ·intro s x h
  have h:ti s=some x:=h
  unfold ti at h
  repeat' split at h
  all_goals cases h
  constructor<;>repeat(first|refine ab ‹_› rfl ?_|refine aa rfl ‹_› rfl ?_|rfl)
 ·intro _;kernel_rfl
 ·intro _ _;exact(And.intro rfl trivial)
section
variable (a b c:avP)(d e f g:Int)(i:alv)(j k l:List avP)(m:afZ)(n:alv)(o:auQ)
def oA:Int×Int×alv×avP×avP×Int×Int×Int×Int×List avP×List avP×List avP×afZ×alv×auQ:=((0:Int),(↑i.length:Int),i,b,c,d,e,f,g,j,k,l,m,n,o)
def oB:Int×List avP×List avP×List avP×afZ×alv×auQ:=(Lp.res bd (oA b c d e f g i j k l m n o)).2.2.2.2.2.2.2.2.2
def oC:Int:=(oB b c d e f g i j k l m n o).1
def fN:auQ:=(oB b c d e f g i j k l m n o).2.2.2.2.2.2
def vr:avP:=bif leI 0 (eA k a)then b else b
def vt:avP:=bif leI 0 (eA k a)then c else c
def vu:Int:=bif leI 0 (eA k a)then d else d
def vv:Int:=bif leI 0 (eA k a)then e else e
def vz:Int:=bif leI 0 (eA k a)then f else f
def vA:Int:=bif leI 0 (eA k a)then oC b c d e f g i j k l m n o else oC b c d e f g i j k l m n o
def vB:ajz:=bif leI 0 (eA k a)then n else n
def vC:auQ:=bif leI 0 (eA k a)then bg 8 (eA k a) (fN b c d e f g i j k l m n o)else bg 9 (eA l a) (fN b c d e f g i j k l m n o)
def vD:Bool:=allT [Lp.fin bd (oA b c d e f g i j k l m n o),leN k.length (9223372036854775807:Nat),!leI 0 (eA k a)||bw 8 (eA k a) (fN b c d e f g i j k l m n o),leI 0 (eA k a)||leN l.length (9223372036854775807:Nat),leI 0 (eA k a)||bw 9 (eA l a) (fN b c d e f g i j k l m n o)]
end
def DK:awh
 | [.one ⟨false,[.ptr 0 0]⟩,.one ⟨true,[.val (.string a),.ref 1]⟩],[.box 146 [.val (.string b),.ref 2,.ref 3,.ref 4,.val (.string c),.ref 5,.val (.int .i64 d),.val (.int .i64 e),.val (.int .i64 f),.ref 6,.ref 7,.val (.int .i64 g)],.row false 122 (.pair (.int .i64) (.pair (.str) (.int .i64))) i,.row false 9 (.str) j,.row false 9 (.str) k,.row false 9 (.str) l,.row false 142 (.pair (.str) (.sl 122 (.pair (.int .i64) (.pair (.str) (.int .i64))))) m,.row true 122 (.pair (.int .i64) (.pair (.str) (.int .i64))) n,.row true 83 (.pair (.int .i64) (.int .i64)) o]=>some ⟨.tup [],[.box 146 [.val (.string (vr a b k)),.ref 2,.ref 3,.ref 4,.val (.string (vt a c k)),.ref 5,axb (vu a d k),axb (vv a e k),axb (vz a f k),.ref 6,.ref 8,axb (vA a b c d e f g i j k l m n o)],aBG i,aBD j,aBD k,aBD l,aBH m,aBM (vB a k n),.gone],[aBS (vC a b c d e f g i j k l m n o)],[vD a b c d e f g i j k l m n o]⟩
 |_,_=>none
def Ri:PF prog:=PF.ofG prog [Ec,pJ,ft] [bd.F] aT 112 f112 func112 (LOk.fnT (l:= [bj f112 0]) (by kernel_rfl) (.cons LE (.nil _))) DK (by
 intro _ _ _ h;unfold DK at h;split at h<;>cases h;kernel_rfl)
def cTs(ins vs:List avP):List TM→Int→List IN
 | [],_=> []
 |t::r,k=>cT ins vs k t::cTs ins vs r (cK k t)
def cKs:List TM→Int→Int
 | [],k=>k
 |t::r,k=>cKs r (cK k t)
def knB(t:TM):Bool:=inR t.1 1 12
def lnI(ins vs os:List avP)(l:LN)(k:Int):List IN:=cTs ins vs l.2 k++ [nmI vs os 8 9 l.1]
def apI(st l:List IN):List IN:=st++l
theorem aAe(k:Int)(t:TM):k≤cK k t∧cK k t≤k + 1:=by
 simp only [cK];cases leI 7 t.1 <;> simp <;> omega
theorem ayh: ∀ (ts:List TM) (k:Int),k≤cKs ts k∧cKs ts k≤k + ts.length
 | [],k=>by simp [cKs]
 |t::r,k=>by
  have h1:=aAe k t
  have h2:=ayh r (cK k t)
  simp only [cKs,j7]
  omega
theorem atB(ins vs:List avP): ∀ (ts:List TM) (k:Int),(cTs ins vs ts k).length=ts.length
 | [],k=>rfl
 |t::r,k=>by simp only [cTs,j7,atB ins vs r]
theorem ayj(ins vs os:List avP)(ls:List LN)(bl ts:List TM)(u g:avP)(a b c:Int)(hi:ins.length≤1048576)(hv:vs.length≤1048576)(ht:ts.length≤1000)(hk:ts.all knB=true):
  ∀ (r:List TM) (i:Nat) (k:Int) (st:List IN),ts.drop i=r→i + r.length=ts.length→0≤k→k + r.length≤1048576→st.length + r.length≤1048576→
  Vy bd.lt (r.length + 1) ((i:Int),(ts.length:Int),ts,u,g,a,b,c,k,ins,vs,os,ls,bl,st)=
   some (0,((ts.length:Int),(ts.length:Int),ts,u,g,a,b,c,cKs r k,ins,vs,os,ls,bl,st++cTs ins vs r k))
 | [],i,k,st,_,hl,_,_,_=>by
  have e:i=ts.length:=by simpa using hl
  rw [e]
  have q:ltI (ts.length:Int) (ts.length:Int)=false:=IZ (by omega)
  rw [cKs,cTs,List.append_nil]
  refine aaO _ ?_
  simp only [bd,tc,LT.out,tI,q,cond_false]
 |t::r,i,k,st,hd,hl,h0,h1,h2=>by
  simp only [j7]at hl h1 h2
  have fC:i < ts.length:=by omega
  have hg:ts[i]? =some t:=by
   have:(ts.drop i)[0]? =some t:=by rw [hd];rfl
   rw [List.getElem?_drop]at this;simpa using this
  have hm:t∈ts:=List.mem_of_getElem? hg
  have hd':ts.drop (i + 1)=r:=by
   have e:ts.drop (i + 1)=(ts.drop i).drop 1:=by rw [List.drop_drop]
   rw [e,hd];rfl
  have g0:ig (i:Int) ts=t:=by
   simp only [ig,mq,q9,hg,Option.getD_some]
  have q0:ltI (i:Int) (ts.length:Int)=true:=dw (by omega)
  have q1:leI 0 (i:Int)=true:=bk (by omega)
  have q2:ltN i ts.length=true:=eD fC
  have q3:v5 .i64 ((i:Int) + 1)=((i + 1:Nat):Int):=by rw [aM (by omega) (by omega)];omega
  have q4:cTN ins vs k st t=true:=by
   have e1:leN ins.length 1048576=true:=bx hi
   have e2:leN vs.length 1048576=true:=bx hv
   have e3:leN st.length 1048576=true:=bx (by omega)
   have e4:inR t.1 1 12=true:=List.all_eq_true.1 hk t hm
   have e5:inR k 0 1048576=true:=ua.2 ⟨h0,by omega⟩
   simp only [cTN,cN,e1,e2,e3,e4,e5,Bool.and_self]
  have hc:=aAe k t
  rw [j7,ach (y:=(((i + 1:Nat):Int),(ts.length:Int),ts,u,g,a,b,c,cK k t,ins,vs,os,ls,bl,st++ [cT ins vs k t])) _ (by
   simp only [bd,tc,LT.out,tI,Ck,Cl,Cm,
    Cn,Co,Cp,Cq,q9,g0,q0,q1,q2,q3,q4,snI,allT,cond_true])]
  rw [ayj ins vs os ls bl ts u g a b c hi hv ht hk r (i + 1) (cK k t) (st++ [cT ins vs k t]) hd' (by omega) (by omega) (by omega) (by rw [j6,w5];omega)]
  simp only [cKs,cTs,List.append_assoc,List.cons_append,List.nil_append]
def cLN(ins vs os:List avP)(k:Int)(ts:List TM)(st:List IN):Bool:=leN ins.length 1000&&(leN vs.length 1000&&(leN os.length 1000&&(leN ts.length 1000&&(ts.all knB&&(inR k 0 100000&&leN st.length 100000)))))
theorem ayk(a b c:avP)(d e f g:Int)(i:List TM)(j k l:List avP)(m:List LN)(o:List TM)(p:List IN)(h:cLN j k l g i p=true):
  vr a b k=b∧vt a c k=c∧vu a d k=d∧vv a e k=e∧
  vz a f k=f∧vA a b c d e f g i j k l m o p=cKs i g∧vB a k o=o∧
  vC a b c d e f g i j k l m o p=apI p (lnI j k l (a,i) g)∧vD a b c d e f g i j k l m o p=true:=by
 simp only [cLN,q8,gR,ua]at h
 obtain⟨h1,h2,h3,h4,h5,⟨h6,h7⟩,h8⟩:=h
 have nQ:=ayj j k l m o i b c d e f (by omega) (by omega) h4 h5 i 0 g p (List.drop_zero ..) (by omega) h6 (by omega) (by omega)
 obtain⟨p1,p2⟩:=bd.run nQ (ams (by simp only [bd];omega))
 have p1:bd.fin (oA b c d e f g i j k l m o p)=true:=p1
 have p2:bd.res (oA b c d e f g i j k l m o p)=_:=p2
 have a2:oC b c d e f g i j k l m o p=cKs i g:=by simp only [oC,oB,p2]
 have a3:fN b c d e f g i j k l m o p=p++cTs j k i g:=by simp only [fN,oB,p2]
 have n:=fun x y=>atG x y (p++cTs j k i g) (by rw [j6,atB];omega)
 have e1:leN k.length 9223372036854775807=true:=bx (by omega)
 have e2:leN l.length 9223372036854775807=true:=bx (by omega)
 simp only [vr,vt,vu,vv,vz,vA,
  vB,vC,vD,bg,eI,j9,Wd,a2,a3,p1,n,e1,e2,apI,lnI,nmI,allT,List.append_assoc,true_and]
 cases hc:lM k a with
 |false=>exact⟨rfl,rfl⟩
 |true=>rw [Gn hc];exact⟨rfl,rfl⟩
def DO:awh
 | [.one ⟨false,[.ptr 0 0]⟩,.one ⟨true,[.val (.string a),.ref 1]⟩],[.box 146 [.val (.string b),.ref 2,.ref 3,.ref 4,.val (.string c),.ref 5,.val (.int .i64 d),.val (.int .i64 e),.val (.int .i64 f),.ref 6,.ref 7,.val (.int .i64 g)],.row false 122 (.pair (.int .i64) (.pair (.str) (.int .i64))) i,.row false 9 (.str) j,.row false 9 (.str) k,.row false 9 (.str) l,.row false 142 (.pair (.str) (.sl 122 (.pair (.int .i64) (.pair (.str) (.int .i64))))) m,.row true 122 (.pair (.int .i64) (.pair (.str) (.int .i64))) n,.row true 83 (.pair (.int .i64) (.int .i64)) o]=>some ⟨.tup [],[.box 146 [.val (.string b),.ref 2,.ref 3,.ref 4,.val (.string c),.ref 5,axb d,axb e,axb f,.ref 6,.ref 8,axb (cKs i g)],aBG i,aBD j,aBD k,aBD l,aBH m,aBM n,.gone],[aBS (apI o (lnI j k l (a,i) g))],[cLN j k l g i o]⟩
 |_,_=>none
def Ea:PF prog:=PF.alt Ri DO (by
 intro args es o h cA;unfold DO at h;split at h
 ·rename_i a b c d e f g i j k l m n p
  cases h
  have cA:=jQ cA
  have hh:=ayk a b c d e f g i j k l m n p cA
  obtain⟨e0,e1,e2,e3,e4,e5,e6,e7,en⟩:=hh
  exact pW rfl (ip en) rfl (by simp only [e0,e1,e2,e3,e4,e5,e6] <;> rfl) (by simp only [e7] <;> rfl)
 ·cases h)
abbrev zS:=Int×Int×List (avP×(List (Int×(avP×Int))))×avP×avP×Int×Int×Int×Int×List avP×List avP×List avP×List (Int×(avP×Int))×List (Int×Int)
section
variable (a b:Int)(c:afa)(d:Int)(e f g:List avP)(i:auQ)
def Ew:avP×alv:=k9 c[k7 a]? (xS aa8)
def XR:Bool:=ltI a b
def ael:Bool:=leI 0 a
def aem:Bool:=ltI a (↑c.length:Int)
def aen:Bool:=ltN a.toNat c.length
def aeo:Bool:=cLN e f g d ((Ew a c).2) i
def aep:Int:=v5 .i64 (a + (1:Int))
def aeq:Int:=cKs ((Ew a c).2) d
def aer:auQ:=apI i (lnI e f g ((Ew a c).1,(Ew a c).2) d)
end
def alR:zS→List (Nat×SV)
 |(a,b,_,_,_,_,_,_,_,_,_,_,_,_)=> [(11,(aBC a)),(10,(aBC b)),(9,(aBB (.ref 0))),(3,(aBB (.ptr 1 0)))]
def alK:zS→List (Nat×Entry)
 |(_,_,a,b,c,d,e,f,g,i,j,k,l,m)=> [(0,(aBI a)),(1,(.box 146 [.val (.string b),.ref 2,.ref 3,.ref 4,.val (.string c),.ref 0,axb d,axb e,axb f,.ref 5,.ref 6,axb g])),(2,(aBD i)),(3,(aBD j)),(4,(aBD k)),(5,(aBM l)),(6,(aBS m))]
def al5:Nat→zS→List (Nat×SV)
 |_,_=>[]
def Wi:zS→LT zS
 |(a,b,c,d,e,f,g,i,j,k,l,m,n,o)=> .ite (XR a b) (.need [ael a,aem a c,aen a c] (.need [aeo a c j k l m o] (.nrm ((aep a),b,c,d,e,f,g,i,aeq a c j,k,l,m,n,(aer a c j k l m o)) [(0,0),(1,1),(2,2),(3,3),(4,4),(5,5),(6,512)]))) (.ext 0 [(0,0),(1,1),(2,2),(3,3),(4,4),(5,5),(6,6)])
def Wp(s:St):Option zS:=do
 let some ⟨none,.one ⟨false,[.val (.int .i64 a)]⟩⟩:=s.look 11|none
 let some ⟨none,.one ⟨false,[.val (.int .i64 b)]⟩⟩:=s.look 10|none
 let some ⟨none,.one ⟨false,[.ref 3]⟩⟩:=s.look 9|none
 let some ⟨none,.one ⟨false,[.ptr 512 0]⟩⟩:=s.look 3|none
 let some (.row false 142 (.pair .str (.sl 122 (.pair (.int .i64) (.pair .str (.int .i64))))) c):=s.ent 3|none
 let some (.box 146 [.val (.string d),.ref 0,.ref 1,.ref 2,.val (.string e),.ref 3,.val (.int .i64 f),.val (.int .i64 g),.val (.int .i64 i),.ref 513,.ref 514,.val (.int .i64 j)]):=s.ent 512|none
 let some (.row false 9 (.str) k):=s.ent 0|none
 let some (.row false 9 (.str) l):=s.ent 1|none
 let some (.row false 9 (.str) m):=s.ent 2|none
 let some (.row true 122 (.pair (.int .i64) (.pair .str (.int .i64))) n):=s.ent 513|none
 let some (.row true 83 (.pair (.int .i64) (.int .i64)) o):=s.ent 514|none
 some (a,b,c,d,e,f,g,i,j,k,l,m,n,o)
def nc:Lp zS where
 h:=⟨[12,13,14,5,15,16,17,18,11],[0,1,2,3,4,5],[6],[]⟩
 JL:=alR
 JE:=alK
 XL:=al5
 XE:=fun _=>alK
 q:=fun j=>match j with | _=> .exit 0
 tags:= [0]
 lt:=Wi
 fuel:=fun(a,b,c,d,e,f,g,i,k,l,m,n,o,p)=>a.natAbs + b.natAbs + c.length + d.size + e.size + f.natAbs + g.natAbs + i.natAbs + k.natAbs + l.length + m.length + n.length + o.length + p.length
 fix:=fun(_,b,c,d,e,f,g,i,_,l,m,n,o,_) (a,_,_,_,_,_,_,_,k,_,_,_,_,p)=>(a,b,c,d,e,f,g,i,k,l,m,n,o,p)
 σ:= [(0,3),(1,512),(2,0),(3,1),(4,2),(5,513),(6,514)]
 rd:=Wp
theorem ajC:LoopOk prog (fun k=>Nat.blt k Tryz.f64.ntmps) nc.F (bj f64 0):=by
 refine Lp.ok (tbl:= [ac5,Ea,Eb]) (lf:= []) aT nc (by kernel_rfl) (LOk.nil _) (fun _=>rfl) (fun _ _=>rfl) ?_ ?_ ?_ ?_ (fun _=>rfl) ?_
 ·intro _;kernel_rfl
 ·intro _;kernel_rfl
 ·intro s x h
  have h:Wp s=some x:=h
  unfold Wp at h
  repeat' split at h
  all_goals cases h
  constructor<;>repeat(first|refine ab ‹_› rfl ?_|refine aa rfl ‹_› rfl ?_|rfl)
 ·intro _;kernel_rfl
 ·intro _ _;exact(And.intro rfl trivial)
section
variable (a b:avP)(c d e:List avP)(f:afZ)
def Du:Bool:= !ByteArray.toList b==ByteArray.toList (ByteArray.mk #[])
def VD:Int×Int×afZ×avP×avP×Int×Int×Int×Int×List avP×List avP×List avP×alv×auQ:=((0:Int),(↑f.length:Int),f,a,b,Iw c,Ix d,Iy e,(0:Int),c,d,e,Iz f,acX)
def Qa:auQ:=(Lp.res nc (VD a b c d e f)).2.2.2.2.2.2.2.2.2.2.2.2.2.2
def acP:Int:=bif Du b then Iw c else Iw c
def acQ:Int:=bif Du b then Ix d else Ix d
def acR:Int:=bif Du b then Iy e else Iy e
def acS:ajz:=bif Du b then Iz f else Iz f
def acT:auQ:=bif Du b then snI (Qa a b c d e f) (nmI c d 10 11 b)else Qa a b c d e f
def acU:Bool:=allT [Wg f,Lp.fin nc (VD a b c d e f),!Du b||cN c d (Qa a b c d e f)]
end
def aiB:awh
 | [.one ⟨true,[.val (.string a),.ref 0,.ref 1,.ref 2,.val (.string b),.ref 3]⟩],[.row false 9 (.str) c,.row false 9 (.str) d,.row false 9 (.str) e,.row false 142 (.pair (.str) (.sl 122 (.pair (.int .i64) (.pair (.str) (.int .i64))))) f]=>some ⟨.one ⟨true,[axb (acP b c),axb (acQ b d),axb (acR b e),.ref 4,.ref 5]⟩,[aBD c,aBD d,aBD e,aBH f],[aBM (acS b f),aBS (acT a b c d e f)],[acU a b c d e f]⟩
 |_,_=>none
def arJ:PF prog:=PF.ofG prog [ac5,Ea,Eb] [nc.F] aT 64 f64 func64 (LOk.fnT (l:= [bj f64 0]) (by kernel_rfl) (.cons ajC (.nil _))) aiB (by
 intro _ _ _ h;unfold aiB at h;split at h<;>cases h;kernel_rfl)
section
variable (a b:avP)(c d e:List avP)(f:afZ)
def QM:Int:=bif !dS a c d e b f then(0:Int)else acP b c
def QN:Int:=bif !dS a c d e b f then(0:Int)else acQ b d
def QO:Int:=bif !dS a c d e b f then(0:Int)else acR b e
def QP:Int:=bif !dS a c d e b f then(1:Int)else(0:Int)
def QQ:ajz:=bif !dS a c d e b f then []else acS b f
def QR:auQ:=bif !dS a c d e b f then []else acT a b c d e f
def QS:Bool:=allT [Uc a c d e b f,!dS a c d e b f||acU a b c d e f]
end
def Ze:awh
 | [.one ⟨true,[.val (.string a),.ref 0,.ref 1,.ref 2,.val (.string b),.ref 3]⟩],[.row false 9 (.str) c,.row false 9 (.str) d,.row false 9 (.str) e,.row false 142 (.pair (.str) (.sl 122 (.pair (.int .i64) (.pair (.str) (.int .i64))))) f]=>some ⟨.tup [⟨true,[axb (QM a b c d e f),axb (QN a b c d e f),axb (QO a b c d e f),.ref 4,.ref 5]⟩,⟨false,[axb (QP a b c d e f)]⟩],[aBD c,aBD d,aBD e,aBH f],[aBM (QQ a b c d e f),aBS (QR a b c d e f)],[QS a b c d e f]⟩
 |_,_=>none
def aiv:PF prog:=PF.ofG prog (T3z [kI,arJ]) [] aT 26 f26 func26 (fun c _=>LOk.nil c) Ze (by
 intro _ _ _ h;unfold Ze at h;split at h<;>cases h;kernel_rfl)
def cLs(ins vs os:List avP):List LN→Int→List IN
 | [],_=> []
 |l::r,k=>lnI ins vs os l k++cLs ins vs os r (cKs l.2 k)
def lKs:List LN→Int→Int
 | [],k=>k
 |l::r,k=>lKs r (cKs l.2 k)
def cpS(ins vs os:List avP)(g:avP)(ls:List LN):List IN:=cLs ins vs os ls 0++bif g.toList== []then []else [nmI ins vs 10 11 g]
def cLb(l:LN):Bool:=leN l.2.length 40&&l.2.all knB
theorem atz{l:LN}:cLb l=true↔l.2.length≤40∧l.2.all knB=true:=by simp only [cLb,q8,gR]
theorem axh(ins vs os:List avP)(l:LN)(k:Int):(lnI ins vs os l k).length=l.2.length + 1:=by rw [lnI,j6,atB,w5]
theorem atA(ins vs os:List avP): ∀ (ls:List LN) (k:Int),ls.all cLb=true→(cLs ins vs os ls k).length≤41 * ls.length
 | [],k,_=>by simp [cLs]
 |l::r,k,h=>by
  simp only [List.all_cons,q8]at h
  have h1:=(atz.1 h.1).1
  have h2:=atA ins vs os r (cKs l.2 k) h.2
  simp only [cLs,j6,axh,j7]
  omega
theorem ayK: ∀ (ts:List TM) (n e:Int),htT ts n=some e→ts.all knB=true
 | [],n,e,_=>rfl
 |t::r,n,e,h=>by
  simp only [htT]at h
  cases hc:(termB t.1 t.2.1 t.2.2&&leI (takesK t.1) n)with
  |false=>rw [hc]at h;cases h
  |true=>
   rw [hc,cond_true]at h
   simp only [q8,termB]at hc
   simp only [List.all_cons,ayK r _ e h,knB,hc.1.1,Bool.and_self]
theorem avz{nm:avP}{ins vs os:List avP}{g:avP}{ls:List LN}(h:dS nm ins vs os g ls=true):ls.all cLb=true:=by
 have hL:=(Gy h).2.1
 refine List.all_eq_true.2 fun l hl=> ?_
 obtain⟨_,q2,q3⟩:=ab5 (List.all_eq_true.1 hL l hl)
 exact atz.2 ⟨q2,ayK _ _ _ q3⟩
theorem ayp(ins vs os:List avP)(ls:List LN)(bl:List TM)(u g:avP)(a b c:Int)(hi:ins.length≤20)(hv:vs.length≤20)(ho:os.length≤20)(hn:ls.length≤40)(hk:ls.all cLb=true):
  ∀ (r:List LN) (i:Nat) (k:Int) (st:List IN),ls.drop i=r→i + r.length=ls.length→0≤k→k + 40 * r.length≤100000→st.length + 41 * r.length≤100000→
  Vy nc.lt (r.length + 1) ((i:Int),(ls.length:Int),ls,u,g,a,b,c,k,ins,vs,os,bl,st)=
   some (0,((ls.length:Int),(ls.length:Int),ls,u,g,a,b,c,lKs r k,ins,vs,os,bl,st++cLs ins vs os r k))
 | [],i,k,st,_,hl,_,_,_=>by
  have e:i=ls.length:=by simpa using hl
  rw [e]
  have q:ltI (ls.length:Int) (ls.length:Int)=false:=IZ (by omega)
  rw [lKs,cLs,List.append_nil]
  refine aaO _ ?_
  simp only [nc,Wi,LT.out,XR,q,cond_false]
 |(tg,ts)::r,i,k,st,hd,hl,h0,h1,h2=>by
  simp only [j7]at hl h1 h2
  have fC:i < ls.length:=by omega
  have hg:ls[i]? =some (tg,ts):=by
   have:(ls.drop i)[0]? =some (tg,ts):=by rw [hd];rfl
   rw [List.getElem?_drop]at this;simpa using this
  obtain⟨q5,q6⟩:=atz.1 (List.all_eq_true.1 hk _ (List.mem_of_getElem? hg))
  simp only at q5 q6
  have hd':ls.drop (i + 1)=r:=by
   have e:ls.drop (i + 1)=(ls.drop i).drop 1:=by rw [List.drop_drop]
   rw [e,hd];rfl
  have g0:Ew (i:Int) ls=(tg,ts):=by
   simp only [Ew,q9,hg];rfl
  have q0:ltI (i:Int) (ls.length:Int)=true:=dw (by omega)
  have q1:leI 0 (i:Int)=true:=bk (by omega)
  have q2:ltN i ls.length=true:=eD fC
  have q3:v5 .i64 ((i:Int) + 1)=((i + 1:Nat):Int):=by rw [aM (by omega) (by omega)];omega
  have q4:cLN ins vs os k ts st=true:=by
   have e1:leN ins.length 1000=true:=bx (by omega)
   have e2:leN vs.length 1000=true:=bx (by omega)
   have e3:leN os.length 1000=true:=bx (by omega)
   have e4:leN ts.length 1000=true:=bx (by omega)
   have e5:inR k 0 100000=true:=ua.2 ⟨h0,by omega⟩
   have e6:leN st.length 100000=true:=bx (by omega)
   simp only [cLN,e1,e2,e3,e4,e5,e6,q6,Bool.and_self]
  have hc:=ayh ts k
  rw [j7,ach (y:=(((i + 1:Nat):Int),(ls.length:Int),ls,u,g,a,b,c,cKs ts k,ins,vs,os,bl,st++lnI ins vs os (tg,ts) k)) _ (by
   simp only [nc,Wi,LT.out,XR,ael,aem,aen,aeo,aep,aeq,aer,q9,g0,q0,q1,q2,q3,q4,apI,allT,cond_true])]
  rw [ayp ins vs os ls bl u g a b c hi hv ho hn hk r (i + 1) (cKs ts k) (st++lnI ins vs os (tg,ts) k) hd' (by omega) (by omega) (by omega) (by rw [j6,axh];simp only;omega)]
  simp only [lKs,cLs,List.append_assoc]
def cpI(nm:avP)(ins vs os:List avP)(g:avP)(ls:List LN):Int:=bif dS nm ins vs os g ls then(ins.length:Int)else 0
def cpV(nm:avP)(ins vs os:List avP)(g:avP)(ls:List LN):Int:=bif dS nm ins vs os g ls then(vs.length:Int)else 0
def cpO(nm:avP)(ins vs os:List avP)(g:avP)(ls:List LN):Int:=bif dS nm ins vs os g ls then(os.length:Int)else 0
def cpC(nm:avP)(ins vs os:List avP)(g:avP)(ls:List LN):Int:=bif dS nm ins vs os g ls then 0 else 1
def cpB(nm:avP)(ins vs os:List avP)(g:avP)(ls:List LN):List TM:=bif dS nm ins vs os g ls then blL ls else []
def cpL(nm:avP)(ins vs os:List avP)(g:avP)(ls:List LN):List IN:=bif dS nm ins vs os g ls then cpS ins vs os g ls else []
theorem aAU(nm g:avP)(ins vs os:List avP)(ls:List LN)(h:Uc nm ins vs os g ls=true):
  QM nm g ins vs os ls=cpI nm ins vs os g ls∧QN nm g ins vs os ls=cpV nm ins vs os g ls∧QO nm g ins vs os ls=cpO nm ins vs os g ls∧
  QP nm g ins vs os ls=cpC nm ins vs os g ls∧QQ nm g ins vs os ls=cpB nm ins vs os g ls∧QR nm g ins vs os ls=cpL nm ins vs os g ls∧QS nm g ins vs os ls=true:=by
 simp only [QM,QN,QO,QP,QQ,QR,QS,acP,acQ,acR,acS,j9,cpI,cpV,cpO,cpC,cpB,cpL,h,allT]
 cases hs:dS nm ins vs os g ls with
 |false=>exact⟨rfl,rfl,rfl,rfl,rfl,rfl,rfl⟩
 |true=>
  obtain⟨_,hL,hm,hu,hn,h1,h2,h3⟩:=Gy hs
  have hlb:=avz hs
  have nQ:=ayp ins vs os ls (blL ls) nm g (ins.length:Int) (vs.length:Int) (os.length:Int) h1 h2 h3 hn hlb ls 0 0 [] (List.drop_zero ..) (by omega) (by omega) (by omega) (by simp only [List.length_nil];omega)
  obtain⟨p1,p2⟩:=nc.run nQ (ams (by simp only [nc];omega))
  have p1:nc.fin (VD nm g ins vs os ls)=true:=p1
  have p2:nc.res (VD nm g ins vs os ls)=_:=p2
  have a2:Qa nm g ins vs os ls=cLs ins vs os ls 0:=by simp only [Qa,p2,List.nil_append]
  have a0:Du g= !(g.toList== []):=by simp only [Du,Ua]
  have hk:Xc ls=true:=(Qg.1 h).2.2.2.2.2.2
  have hN:cN ins vs (cLs ins vs os ls 0)=true:=by
   have e1:leN ins.length 1048576=true:=bx (by omega)
   have e2:leN vs.length 1048576=true:=bx (by omega)
   have e3:leN (cLs ins vs os ls 0).length 1048576=true:=bx (by have:=atA ins vs os ls 0 hlb;omega)
   simp only [cN,e1,e2,e3,Bool.and_self]
  simp only [acT,acU,Iw,Ix,Iy,Iz,Wg,Fq,a0,a2,p1,hk,hN,snI,cpS,allT]
  cases g.toList== [] <;> simp
def Zh:awh
 | [.one ⟨true,[.val (.string a),.ref 0,.ref 1,.ref 2,.val (.string b),.ref 3]⟩],[.row false 9 (.str) c,.row false 9 (.str) d,.row false 9 (.str) e,.row false 142 (.pair (.str) (.sl 122 (.pair (.int .i64) (.pair (.str) (.int .i64))))) f]=>some ⟨.tup [⟨true,[axb (cpI a c d e b f),axb (cpV a c d e b f),axb (cpO a c d e b f),.ref 4,.ref 5]⟩,⟨false,[axb (cpC a c d e b f)]⟩],[aBD c,aBD d,aBD e,aBH f],[aBM (cpB a c d e b f),aBS (cpL a c d e b f)],[Uc a c d e b f]⟩
 |_,_=>none
def Rg:PF prog:=PF.alt aiv Zh (by
 intro args es o h cA;unfold Zh at h;split at h
 ·rename_i a b c d e f
  cases h
  have cA:=jQ cA
  have hh:=aAU a b c d e f cA
  obtain⟨e0,e1,e2,e3,e4,e5,en⟩:=hh
  exact pW rfl (ip en) (by simp only [e0,e1,e2,e3] <;> rfl) rfl (by simp only [e4,e5] <;> rfl)
 ·cases h)
section
variable (a b c:avP)(d e f:List avP)(g:afZ)(i:avO)(j:asZ)
def Ys:Int:=bif !dS a d e f b g then(0:Int)else bif !sy (↑e.length:Int) (blL g) i j then(0:Int)else bif ltI (eA e c) 0 then(0:Int)else k9 i[k7 (eA e c)]? 0
def Yt:Int:=bif !dS a d e f b g then(1:Int)else bif !sy (↑e.length:Int) (blL g) i j then(2:Int)else bif ltI (eA e c) 0 then(4:Int)else(0:Int)
def Yu:Bool:=allT [Uc a d e f b g,!dS a d e f b g||Xc g&&leN i.length (9223372036854775807:Nat),!dS a d e f b g||(!sy (↑e.length:Int) (blL g) i j||leN e.length (9223372036854775807:Nat)),!dS a d e f b g||(!sy (↑e.length:Int) (blL g) i j||(ltI (eA e c) 0||leI 0 (eA e c))),!dS a d e f b g||(!sy (↑e.length:Int) (blL g) i j||(ltI (eA e c) 0||ltI (eA e c) (↑i.length:Int))),!dS a d e f b g||(!sy (↑e.length:Int) (blL g) i j||(ltI (eA e c) 0||ltN (k7 (eA e c)) i.length))]
end
def aiD:awh
 | [.one ⟨true,[.val (.string a),.ref 0,.ref 1,.ref 2,.val (.string b),.ref 3]⟩,.one ⟨true,[.ref 4,.ref 5]⟩,.one ⟨false,[.val (.string c)]⟩],[.row false 9 (.str) d,.row false 9 (.str) e,.row false 9 (.str) f,.row false 142 (.pair (.str) (.sl 122 (.pair (.int .i64) (.pair (.str) (.int .i64))))) g,.row false 2 (.int .i64) i,.row false 109 (.pair (.int .i64) (.pair (.int .i64) (.int .i64))) j]=>some ⟨.tup [⟨false,[axb (Ys a b c d e f g i j)]⟩,⟨false,[axb (Yt a b c d e f g i j)]⟩],[aBD d,aBD e,aBD f,aBH g,aBF i,aBN j],[],[Yu a b c d e f g i j]⟩
 |_,_=>none
def ac7:PF prog:=PF.ofG prog (T3z [uC,ZL,cB]) [] aT 23 f23 func23 (fun c _=>LOk.nil c) aiD (by
 intro _ _ _ h;unfold aiD at h;split at h<;>cases h;kernel_rfl)
section
variable (a:avO)
def fW:Int:=rgC (bC a) (bE a) (bF a) (bG a) (bD a) (bH a) (dU a)
def vd:aup:=rgO (bC a) (bE a) (bF a) (bG a) (bD a) (bH a) (dU a)
def zt:Bool:=bif bif fW a !=fW a then true else !Gs (vd a) (vd a)then true else fW a !=fW a
def sJ:avO:=rgV (bC a) (bE a) (bF a) (bG a) (bD a) (bH a) (dU a)
def zu:Bool:=bif bif bif zt a then true else !lkM (sJ a) (rgB (bC a) (bE a) (bF a) (bG a) (bD a) (bH a) (dU a)) (sJ a) (rgB (bC a) (bE a) (bF a) (bG a) (bD a) (bH a) (dU a))then true else viC (oV a) (oX a) (oY a) (oZ a) (oW a) (pa a) (pb a) (rN a) (rM a)!=Yt (oV a) (oW a) (rM a) (oX a) (oY a) (oZ a) (pa a) (pb a) (rN a)then true else viV (oV a) (oX a) (oY a) (oZ a) (oW a) (pa a) (pb a) (rN a) (rM a)!=Ys (oV a) (oW a) (rM a) (oX a) (oY a) (oZ a) (pa a) (pb a) (rN a)
def Mj:Int:=cpI (bC a) (bE a) (bF a) (bG a) (bD a) (bH a)
def Mk:Int:=cpV (bC a) (bE a) (bF a) (bG a) (bD a) (bH a)
def Ml:Int:=cpO (bC a) (bE a) (bF a) (bG a) (bD a) (bH a)
def GU:Bool:=bif cpC (bC a) (bE a) (bF a) (bG a) (bD a) (bH a)==0 then abs (Mj a) (Mk a) (Ml a) (cpB (bC a) (bE a) (bF a) (bG a) (bD a) (bH a)) (cpL (bC a) (bE a) (bF a) (bG a) (bD a) (bH a)) (dU a)==0 else false
def GV:aup:=rsO (Mj a) (Mk a) (Ml a) (cpB (bC a) (bE a) (bF a) (bG a) (bD a) (bH a)) (cpL (bC a) (bE a) (bF a) (bG a) (bD a) (bH a)) (dU a)
def Fv:aup:=bif !fW a !=fW a&&true then vd a else vd a
def Fw:Bool:=CA a||aG 0 0 a
def wP:Bool:=CA a||rgN (bC a) (bE a) (bF a) (bG a) (bD a) (bH a) (dU a)
def KI:Bool:=Uc (bC a) (bE a) (bF a) (bG a) (bD a) (bH a)
def IK:Bool:=bif CA a then true else bif zu a then false else bif fW a !=0 then true else bif bif GU a then Gs (GV a) (Fv a)else false then au3 (bC a) (bE a) (bF a) (bG a) (bD a) (bH a) (bif !zt a&&true then sJ a else sJ a) (bif !zt a&&true then rgB (bC a) (bE a) (bF a) (bG a) (bD a) (bH a) (dU a)else rgB (bC a) (bE a) (bF a) (bG a) (bD a) (bH a) (dU a))else false
def IL:Bool:=allT [Fw a,wP a,wP a,wP a,wP a,Fw a,CA a||Uc (oV a) (oX a) (oY a) (oZ a) (oW a) (pa a)&&leN (k8 (pb a)) 9223372036854775807,CA a||Yu (oV a) (oW a) (rM a) (oX a) (oY a) (oZ a) (pa a) (pb a) (rN a),CA a||(!(!fW a !=fW a&&true)||KJ (vd a) (vd a)),CA a||(!(!zt a&&true)||leN (k8 (sJ a)) 9223372036854775807&&leN (k8 (rgB (bC a) (bE a) (bF a) (bG a) (bD a) (bH a) (dU a))) 9223372036854775807),CA a||(zu a||(fW a !=0||KI a)),CA a||(zu a||(fW a !=0||axZ (cpB (bC a) (bE a) (bF a) (bG a) (bD a) (bH a)) (dU a))),CA a||(zu a||(fW a !=0||(!(GU a&&true)||KJ (GV a) (Fv a)))),CA a||(zu a||(fW a !=0||(!((bif GU a then Gs (GV a) (Fv a)else false)&&true)||KI a&&leN (k8 (bif !zt a&&true then sJ a else sJ a)) 9223372036854775807)))]
end
def acm:awh
 | [.one ⟨false,[.ref 0]⟩],[.row false 5 (.int .u8) a]=>some ⟨aBB (.val (.bool (IK a))),[aBL a],[],[IL a]⟩
 |_,_=>none
def amz:PF prog:=PF.ofG prog (T3z [UI,abo,abq,Wj,uf,Wk,ac4,ac7,Yc,Tm,Rg,abn,XY,amA]) [] aT 4 f4 func4 (fun c _=>LOk.nil c) acm (by
 intro _ _ _ h;unfold acm at h;split at h<;>cases h;kernel_rfl)
abbrev ES:=List Int×List Int×List Int×List BS3
def exI(bs:List TM)(inp:avO)(x:IN)(a:ES):ES:=(auj bs inp x a.1 a.2.1 a.2.2.2,awT bs x a.1 a.2.1,awv bs inp x a.1 a.2.1 a.2.2.1,atx bs x a.1 a.2.2.2)
def exL(bs:List TM)(inp:avO):List IN→ES→ES
 | [],a=>a
 |x::r,a=>exL bs inp r (exI bs inp x a)
theorem agP{bs:List TM}{inp:avO}: ∀ (l1 l2:List IN) (a:ES),exL bs inp (l1++l2) a=exL bs inp l2 (exL bs inp l1 a)
 | [],l2,a=>rfl
 |x::r,l2,a=>agP r l2 _
theorem ajt{α:Type}{st l:List α}{i:Nat}{x:α}(h:st.drop i=x::l):st[i]? =some x∧st.drop (i + 1)=l:=by
 refine⟨?_,?_⟩
 ·have:(st.drop i)[0]? =some x:=by rw [h];rfl
  rw [List.getElem?_drop]at this;simpa using this
 ·have e:st.drop (i + 1)=(st.drop i).drop 1:=by rw [List.drop_drop]
  rw [e,h];rfl
theorem fin_ex{bs:List TM}{st:List IN}{inp:avO}: ∀ (l:List IN) (i:Nat) (s:ES),st.drop i=l→asl bs st inp l.length ((i:Int),s)=(((i + l.length:Nat):Int),exL bs inp l s)
 | [],i,s,_=>rfl
 |x::r,i,s,h=>by
  obtain⟨h1,h2⟩:=ajt h
  have e:avF bs st inp ((i:Int),s)=(((i + 1:Nat):Int),exI bs inp x s):=by
   obtain⟨stk,xs,os,ss⟩:=s
   have hi:anZ st (i:Int)=x:=by simp only [anZ,q9,h1,Option.getD_some]
   have hc:(i:Int) + 1=((i + 1:Nat):Int):=by omega
   simp only [avF,hi,exI,hc]
  rw [j7,asl,e,fin_ex r (i + 1) _ h2,show i + 1 + r.length=i + (r.length + 1) by omega,exL]
theorem aA8(o:Int)(bs:List TM)(st:List IN)(inp xs:avO)(ss:List BS3):(rnM o bs st inp xs ss).2=exL bs inp st ([],xs,v6 o.toNat 0,ss):=
 congrArg Prod.snd (fin_ex (bs:=bs) (st:=st) (inp:=inp) st 0 ([],xs,v6 o.toNat 0,ss) (List.drop_zero ..))
theorem aAt{ins vs:List avP}{o:Int}{bs:List TM}{t:TM}{k:Nat}(hi:ins.length≤20)(hv:vs.length≤20)(hb:bs.length≤2000)(hT:termB t.1 t.2.1 t.2.2=true)(hu:usedB ins vs t=true)
  (h7:leI 7 t.1=true→k < bs.length∧gU bs k=t):Zz ins.length vs.length o bs (cT ins vs (k:Int) t)=true∧tkI bs (cT ins vs (k:Int) t)=takesK t.1∧gvI (cT ins vs (k:Int) t)=1:=by
 have hk:=agn hT
 obtain⟨kd,nm,num⟩:=t
 simp only at hk hT h7
 have hc:kd=1∨kd=2∨kd=3∨kd=4∨kd=5∨kd=6∨7≤kd:=by omega
 rcases hc with rfl | rfl | rfl | rfl | rfl | rfl | hc
 ·have hr:Tz ins vs nm=true:=by simpa [usedB] using hu
  cases h:lM ins nm with
  |true=>
   have e:cT ins vs (k:Int) (1,nm,num)=(2,(EC ins nm:Int)):=by simp [cT,nmI,h]
   have hp:=Pt h
   rw [e]
   refine⟨?_,rfl,rfl⟩
   show aw (EC ins nm:Int) 0 (v5 .i64 ((ins.length:Int) - 1))=true
   rw [aw,QU,aM (by omega) (by omega)]
   exact ua.2 (by omega)
  |false=>
   have hv':lM vs nm=true:=by simpa [Tz,h] using hr
   have e:cT ins vs (k:Int) (1,nm,num)=(3,(EC vs nm:Int)):=by simp [cT,nmI,h,Gn hv']
   have hp:=Pt hv'
   rw [e]
   refine⟨?_,rfl,rfl⟩
   show aw (EC vs nm:Int) 0 (v5 .i64 ((vs.length:Int) - 1))=true
   rw [aw,QU,aM (by omega) (by omega)]
   exact ua.2 (by omega)
 ·exact⟨rfl,rfl,rfl⟩
 ·exact⟨rfl,rfl,rfl⟩
 ·exact⟨rfl,rfl,rfl⟩
 ·exact⟨rfl,rfl,rfl⟩
 ·exact⟨rfl,rfl,rfl⟩
 ·have q: ∀ j:Int,j < 7→(kd==j)=false:=fun j hj=>by simp;omega
  have e:cT ins vs (k:Int) (kd,nm,num)=(7,(k:Int)):=by
   simp only [cT,q 1 (by decide),q 2 (by decide),q 3 (by decide),bk hc,cond_false,cond_true]
  obtain⟨b1,b2⟩:=h7 (bk hc)
  rw [e]
  refine⟨?_,?_,rfl⟩
  ·show aw (k:Int) 0 (v5 .i64 ((bs.length:Int) - 1))=true
   rw [aw,QU,aM (by omega) (by omega)]
   exact ua.2 (by omega)
  ·rw [azg.2.2.2.2.2 rfl];simp only [q9,b2]
theorem azA{ins vs:List avP}{inp xs os:avO}{bs:List TM}{t:TM}{stk:avO}{ss:List BS3}{k:Nat}(hT:termB t.1 t.2.1 t.2.2=true)(hu:usedB ins vs t=true)(hb:leI 7 t.1=true→gU bs k=t):
  exI bs inp (cT ins vs (k:Int) t) (stk,xs,os,ss)=((lnS ins vs inp xs t (stk,ss,k)).1,xs,os,(lnS ins vs inp xs t (stk,ss,k)).2.1)∧cK (k:Int) t=((lnS ins vs inp xs t (stk,ss,k)).2.2:Int):=by
 have hk:=agn hT
 obtain⟨kd,nm,num⟩:=t
 simp only at hk hT hb
 have hc:kd=1∨kd=2∨kd=3∨kd=4∨kd=5∨kd=6∨7≤kd:=by omega
 rcases hc with rfl | rfl | rfl | rfl | rfl | rfl | hc
 ·have hr:Tz ins vs nm=true:=by simpa [usedB] using hu
  refine⟨?_,rfl⟩
  cases h:lM ins nm with
  |true=>
   have e:cT ins vs (k:Int) (1,nm,num)=(2,(EC ins nm:Int)):=by simp [cT,nmI,h]
   have e2:nmV ins vs inp xs nm=atZ inp (EC ins nm):=by simp only [nmV,h,cond_true]
   have e3:(lnS ins vs inp xs (1,nm,num) (stk,ss,k)).1=stk.take (stk.length - 0)++ [nmV ins vs inp xs nm]:=rfl
   rw [e,e3,e2];rfl
  |false=>
   have hv':lM vs nm=true:=by simpa [Tz,h] using hr
   have e:cT ins vs (k:Int) (1,nm,num)=(3,(EC vs nm:Int)):=by simp [cT,nmI,h,Gn hv']
   have e2:nmV ins vs inp xs nm=atZ xs (EC vs nm):=by simp only [nmV,h,cond_false]
   have e3:(lnS ins vs inp xs (1,nm,num) (stk,ss,k)).1=stk.take (stk.length - 0)++ [nmV ins vs inp xs nm]:=rfl
   rw [e,e3,e2];rfl
 ·exact⟨rfl,rfl⟩
 ·exact⟨rfl,rfl⟩
 ·exact⟨rfl,rfl⟩
 ·exact⟨rfl,rfl⟩
 ·exact⟨rfl,rfl⟩
 ·have q: ∀ j:Int,j < 7→(kd==j)=false:=fun j hj=>by simp;omega
  have h7:leI 7 kd=true:=bk hc
  have e:cT ins vs (k:Int) (kd,nm,num)=(7,(k:Int)):=by
   simp only [cT,q 1 (by decide),q 2 (by decide),q 3 (by decide),h7,cond_false,cond_true]
  have b2:=hb h7
  have tk:tkI bs (7,(k:Int))=takesK kd:=by rw [azg.2.2.2.2.2 rfl];simp only [q9,b2]
  have gv:(gvI (7,(k:Int))==1)=true:=rfl
  have hV: ∀ ar,ad3 bs inp (7,(k:Int)) xs ss ar=avI kd num ar (stAt ss k):=fun ar=>by
   have:ad3 bs inp (7,(k:Int)) xs ss ar=avI (gU bs k).1 (gU bs k).2.2 ar (stAt ss k):=rfl
   rw [this,b2]
  have hB:atx bs (7,(k:Int)) stk ss=ss.set k (Vu kd num (AG bs (7,(k:Int)) stk) (stAt ss k)):=by
   have:atx bs (7,(k:Int)) stk ss=ss.set k (Vu (gU bs k).1 (gU bs k).2.2 (AG bs (7,(k:Int)) stk) (stAt ss k)):=rfl
   rw [this,b2]
  have hW:awT bs (7,(k:Int)) stk xs=xs:=rfl
  have hO:awv bs inp (7,(k:Int)) stk xs os=os:=rfl
  have hc2:((k:Int) + 1)=((k + 1:Nat):Int):=by omega
  rw [e]
  simp only [exI,auj,gv,hV,hB,hW,hO,cond_true,lnS,tmV,cK,h7,q 1 (by decide),q 2 (by decide),q 3 (by decide),q 4 (by decide),q 5 (by decide),q 6 (by decide),cond_false,AG,aua,tk,ltk,hc2,and_self]
theorem auK{ins vs:List avP}{inp xs os:avO}{bs pre post ts:List TM}{e:Int}(hi:bitsB ins.length inp=true)(hx:bitsB vs.length xs=true)(jb:htT ts 0=some e)(hu:ts.all (usedB ins vs)=true)
  (hbs:bs=pre++blT ts++post): ∀ (r:List TM) (i:Nat) (a:LS),ts.drop i=r→ap6 pre post ts i a→
  exL bs inp (cTs ins vs r (a.2.2:Int)) (a.1,xs,os,a.2.1)=((af3 ins vs inp xs r a).1,xs,os,(af3 ins vs inp xs r a).2.1)∧cKs r (a.2.2:Int)=((af3 ins vs inp xs r a).2.2:Int)
 | [],i,a,_,_=>⟨rfl,rfl⟩
 |t::r,i,a,hd,hI=>by
  obtain⟨hg,hd'⟩:=ajt hd
  obtain⟨_,_,hT,_,_,_,_,_,hI2⟩:=aoZ (ins:=ins) (vs:=vs) hi hx jb hg hI
  have hk:a.2.2=pre.length + (blT (ts.take i)).length:=by obtain⟨n,_,h⟩:=hI;exact h.hk
  obtain⟨stk,ss,k⟩:=a
  obtain⟨p1,p2⟩:=azA (inp:=inp) (xs:=xs) (os:=os) (bs:=bs) (stk:=stk) (ss:=ss) (k:=k) hT (List.all_eq_true.1 hu t (List.mem_of_getElem? hg)) (fun h7=>by
   simp only at hk
   rw [hbs,hk];exact(amg hg h7).2.1)
  have:=auK (os:=os) hi hx jb hu hbs r (i + 1) (lnS ins vs inp xs t (stk,ss,k)) hd' hI2
  simp only [cTs,cKs,exL,af3]
  rw [p1,p2];exact this
theorem azx{ins vs os:List avP}{inp:avO}{ls:List LN}{i:Nat}{a:SS4}{l:LN}(hi:bitsB ins.length inp=true)(hL:lineB l=true)(hu:l.2.all (usedB ins vs)=true)(hm:madeB vs os l=true)
  (hl:ls[i]? =some l) (hI:ScAt vs os ls i a):
  exL (blL ls) inp (lnI ins vs os l (a.2.2.2:Int)) ([],a.1,a.2.1,a.2.2.1)=([],(scS ins vs os inp l a).1,(scS ins vs os inp l a).2.1,(scS ins vs os inp l a).2.2.1)∧cKs l.2 (a.2.2.2:Int)=((scS ins vs os inp l a).2.2.2:Int):=by
 obtain⟨_,q2,q3⟩:=ab5 hL
 obtain⟨b1,b2⟩:=auK (os:=a.2.1) hi hI.hx q3 hu (ade hl).1 l.2 0 ([],a.2.2.1,a.2.2.2) (List.drop_zero ..) (akj hl hI)
 have g1:=(ZS hi hL hl hI).1
 rw [show af3 ins vs inp a.1 l.2 ([],a.2.2.1,a.2.2.2)=lnV ins vs inp l a from rfl]at b1 b2
 refine⟨?_,b2⟩
 rw [lnI,agP]
 simp only at b1
 rw [b1]
 simp only [scS]
 generalize lnV ins vs inp l a=z at *
 obtain⟨stk,ss,k⟩:=z
 simp only at g1
 obtain⟨y,rfl⟩: ∃ y,stk= [y]:=List.length_eq_one_iff.1 g1
 cases h:lM vs l.1 with
 |true=>
  have e:nmI vs os 8 9 l.1=(8,(EC vs l.1:Int)):=by simp only [nmI,h,cond_true]
  rw [e];rfl
 |false=>
  have ho:lM os l.1=true:=by simpa [madeB,h] using hm
  have e:nmI vs os 8 9 l.1=(9,(EC os l.1:Int)):=by simp only [nmI,h,cond_false,Gn ho]
  rw [e];rfl
theorem auJ{ins vs os:List avP}{inp:avO}{ls:List LN}(h:ScH ins vs os inp ls): ∀ (r:List LN) (i:Nat) (a:SS4),ls.drop i=r→ScAt vs os ls i a→
  exL (blL ls) inp (cLs ins vs os r (a.2.2.2:Int)) ([],a.1,a.2.1,a.2.2.1)=([],(ar0 ins vs os inp r a).1,(ar0 ins vs os inp r a).2.1,(ar0 ins vs os inp r a).2.2.1)
 | [],i,a,_,_=>rfl
 |l::r,i,a,hd,hI=>by
  obtain⟨hg,hd'⟩:=ajt hd
  have hm:=List.mem_of_getElem? hg
  obtain⟨p1,p2⟩:=azx h.hi (List.all_eq_true.1 h.hL l hm) (List.all_eq_true.1 h.hu l hm) (List.all_eq_true.1 h.hm l hm) hg hI
  have hI2:=(ZS h.hi (List.all_eq_true.1 h.hL l hm) hg hI).2.2
  have:=auJ h r (i + 1) (scS ins vs os inp l a) hd' hI2
  simp only [cLs,ar0]
  rw [agP,p1,p2];exact this
theorem azz{nm:avP}{ins vs os:List avP}{g:avP}{ls:List LN}{inp xs:avO}{ss:List BS3}(hS:dS nm ins vs os g ls=true)(hi:bitsB ins.length inp=true)(hs:sy vs.length (blL ls) xs ss=true):
  exL (blL ls) inp (cpS ins vs os g ls) ([],xs,v6 os.length 0,ss)=([],scV ins vs os ls inp xs ss,scO ins vs os g ls inp xs ss,scB ins vs os ls inp xs ss):=by
 have hH:=amH hS hi
 have hg:=(Gy hS).1
 obtain⟨s1,s2,s3⟩:=Qx.1 hs
 have h0:ScAt vs os ls 0 (xs,v6 os.length 0,ss,0):=⟨s2,ct.2 ⟨fun z hz=> .inl (List.eq_of_mem_replicate hz),by simp⟩,s1,s3,by simp [blL]⟩
 have hE:=auc (os:=os) hi hH.hL hs
 have nQ:=auJ hH ls 0 (xs,v6 os.length 0,ss,0) (List.drop_zero ..) h0
 have nQ:exL (blL ls) inp (cLs ins vs os ls 0) ([],xs,v6 os.length 0,ss)=([],(scE ins vs os ls inp xs ss).1,(scE ins vs os ls inp xs ss).2.1,(scE ins vs os ls inp xs ss).2.2.1):=nQ
 have ho:=(ct.1 hE.ho).2
 rw [cpS,agP,nQ]
 simp only [scV,scO,scB]
 generalize scE ins vs os ls inp xs ss=z at *
 cases hz:g.toList== []with
 |true=>rfl
 |false=>
  have hr:Tz ins vs g=true:=by rw [hz,Bool.false_or]at hg;exact hg
  have hl:v6 z.2.1.length (0:Int)=v6 os.length 0:=by congr 1;omega
  cases h:lM ins g with
  |true=>
   have e:nmI ins vs 10 11 g=(10,(EC ins g:Int)):=by simp only [nmI,h,cond_true]
   have e2:nmV ins vs inp z.1 g=atZ inp (EC ins g):=by simp only [nmV,h,cond_true]
   rw [e,e2,← hl];rfl
  |false=>
   have hv':lM vs g=true:=by simpa [Tz,h] using hr
   have e:nmI ins vs 10 11 g=(11,(EC vs g:Int)):=by simp only [nmI,h,cond_false,Gn hv']
   have e2:nmV ins vs inp z.1 g=atZ z.1 (EC vs g):=by simp only [nmV,h,cond_false]
   rw [e,e2,← hl];rfl
theorem auT{i v o:Int}{bs:List TM}{x:IN}{r:List IN}{n:Int}{acc:avO}{tk gv:Int}(h1:Zz i v o bs x=true)(h2:tkI bs x=tk)(h3:gvI x=gv)(h4:tk≤n)(h5:n - tk + gv≤40):
  hgt i v o bs (x::r) n acc=hgt i v o bs r (n - tk + gv) (acc++ [n - tk + gv]):=by
 have q1:leI tk n=true:=bk h4
 have q2:leI (n - tk + gv) 40=true:=bk h5
 simp only [hgt,h1,h2,h3,q1,q2,Bool.and_self,cond_true]
theorem auS{ins vs:List avP}{o:Int}{bs pre post ts:List TM}{e:Int}(hi:ins.length≤20)(hv:vs.length≤20)(hb:bs.length≤2000)(jb:htT ts 0=some e)(hn:ts.length≤40)(hu:ts.all (usedB ins vs)=true)
  (hbs:bs=pre++blT ts++post): ∀ (r:List TM) (i:Nat) (k:Nat) (n:Int) (acc:avO),ts.drop i=r→htT (ts.take i) 0=some n→k=pre.length + (blT (ts.take i)).length→i + r.length=ts.length→
  (∃ L,hgt ins.length vs.length o bs (cTs ins vs r (k:Int)) n acc=some (e,L))∧cKs r (k:Int)=((pre.length + (blT ts).length:Nat):Int)
 | [],i,k,n,acc,_,hp,hk,hl=>by
  have e1:ts.take i=ts:=List.take_of_length_le (by simp only [List.length_nil]at hl;omega)
  rw [e1]at hp hk
  rw [jb]at hp;cases hp
  exact⟨⟨acc,rfl⟩,by rw [hk];rfl⟩
 |t::r,i,k,n,acc,hd,hp,hk,hl=>by
  obtain⟨hg,hd'⟩:=ajt hd
  obtain⟨n',g1,g2,g3,g4,g5⟩:=ayJ jb hg
  rw [hp]at g1;cases g1
  have fC:=(List.getElem?_eq_some_iff.1 hg).1
  obtain⟨f1,f2,f3⟩:=aAt (o:=o) (k:=k) hi hv hb g3 (List.all_eq_true.1 hu t (List.mem_of_getElem? hg)) (fun h7=>by
   rw [hbs,hk];exact⟨(amg hg h7).1,(amg hg h7).2.1⟩)
  have hK:cK (k:Int) t=((pre.length + (blT (ts.take (i + 1))).length:Nat):Int):=by
   simp only [cK]
   cases h7:leI 7 t.1 with
   |true=>have:=(amg (pre:=pre) (post:=post) hg h7).2.2;simp only [cond_true];omega
   |false=>have:=awZ hg h7;simp only [cond_false];omega
  have:=auS (o:=o) hi hv hb jb hn hu hbs r (i + 1) _ (n - takesK t.1 + 1) (acc++ [n - takesK t.1 + 1]) hd' g5 rfl (by simp only [j7]at hl;omega)
  have h0:=Xs t.1
  simp only [cTs,cKs]
  rw [auT f1 f2 f3 g4 (by omega),hK]
  exact this
theorem ayG{i v o:Int}{bs:List TM}{x:IN}{n:Int}{acc:avO}{tk gv:Int}(h1:Zz i v o bs x=true)(h2:tkI bs x=tk)(h3:gvI x=gv)(h4:tk≤n)(h5:n - tk + gv≤40):
  ∃ L,hgt i v o bs [x] n acc=some (n - tk + gv,L):=⟨_,by rw [auT h1 h2 h3 h4 h5];rfl⟩
theorem aAE{ins vs:List avP}{i v o:Int}{bs:List TM}{s:avP}(hi:i=ins.length)(hv:v=vs.length)(h1:ins.length≤20)(h2:vs.length≤20)(hr:Tz ins vs s=true):
  Zz i v o bs (nmI ins vs 10 11 s)=true∧tkI bs (nmI ins vs 10 11 s)=0∧gvI (nmI ins vs 10 11 s)=0:=by
 cases h:lM ins s with
 |true=>
  have e:nmI ins vs 10 11 s=(10,(EC ins s:Int)):=by simp only [nmI,h,cond_true]
  have hp:=Pt h
  rw [e]
  refine⟨?_,rfl,rfl⟩
  show aw (EC ins s:Int) 0 (v5 .i64 (i - 1))=true
  rw [aw,QU,aM (by omega) (by omega)]
  exact ua.2 (by omega)
 |false=>
  have hv':lM vs s=true:=by simpa [Tz,h] using hr
  have e:nmI ins vs 10 11 s=(11,(EC vs s:Int)):=by simp only [nmI,h,cond_false,Gn hv']
  have hp:=Pt hv'
  rw [e]
  refine⟨?_,rfl,rfl⟩
  show aw (EC vs s:Int) 0 (v5 .i64 (v - 1))=true
  rw [aw,QU,aM (by omega) (by omega)]
  exact ua.2 (by omega)
theorem aAN{vs os:List avP}{i v o:Int}{bs:List TM}{s:avP}(hv:v=vs.length)(ho:o=os.length)(h1:vs.length≤20)(h2:os.length≤20)(hr:Tz vs os s=true):
  Zz i v o bs (nmI vs os 8 9 s)=true∧tkI bs (nmI vs os 8 9 s)=1∧gvI (nmI vs os 8 9 s)=0:=by
 cases h:lM vs s with
 |true=>
  have e:nmI vs os 8 9 s=(8,(EC vs s:Int)):=by simp only [nmI,h,cond_true]
  have hp:=Pt h
  rw [e]
  refine⟨?_,rfl,rfl⟩
  show aw (EC vs s:Int) 0 (v5 .i64 (v - 1))=true
  rw [aw,QU,aM (by omega) (by omega)]
  exact ua.2 (by omega)
 |false=>
  have hv':lM os s=true:=by simpa [Tz,h] using hr
  have e:nmI vs os 8 9 s=(9,(EC os s:Int)):=by simp only [nmI,h,cond_false,Gn hv']
  have hp:=Pt hv'
  rw [e]
  refine⟨?_,rfl,rfl⟩
  show aw (EC os s:Int) 0 (v5 .i64 (o - 1))=true
  rw [aw,QU,aM (by omega) (by omega)]
  exact ua.2 (by omega)
theorem auR{ins vs os:List avP}{ls:List LN}(hi:ins.length≤20)(hv:vs.length≤20)(ho:os.length≤20)(hb:(blL ls).length≤2000)(hL:ls.all lineB=true)(hm:ls.all (madeB vs os)=true)
  (hu:ls.all (fun l=>l.2.all (usedB ins vs))=true): ∀ (r:List LN) (i:Nat) (k:Nat) (acc:avO),ls.drop i=r→k=(blL (ls.take i)).length→
  ∃ L,hgt ins.length vs.length os.length (blL ls) (cLs ins vs os r (k:Int)) 0 acc=some (0,L)
 | [],i,k,acc,_,_=>⟨acc,rfl⟩
 |l::r,i,k,acc,hd,hk=>by
  obtain⟨hg,hd'⟩:=ajt hd
  have hmm:=List.mem_of_getElem? hg
  obtain⟨_,q2,q3⟩:=ab5 (List.all_eq_true.1 hL l hmm)
  obtain⟨s1,s2⟩:=ade hg
  obtain⟨⟨L1,a1⟩,a2⟩:=auS (o:=(os.length:Int)) hi hv hb q3 q2 (List.all_eq_true.1 hu l hmm) s1 l.2 0 k 0 acc (List.drop_zero ..) rfl (by rw [hk];simp [blT]) (by omega)
  obtain⟨f1,f2,f3⟩:=aAN (i:=(ins.length:Int)) (bs:=blL ls) rfl rfl hv ho (s:=l.1) (List.all_eq_true.1 hm l hmm)
  obtain⟨L2,b1⟩:=ayG (n:=1) (acc:=L1) f1 f2 f3 (by omega) (by omega)
  obtain⟨L3,c1⟩:=auR hi hv ho hb hL hm hu r (i + 1) _ L2 hd' rfl
  refine⟨L3,?_⟩
  simp only [cLs,lnI]
  rw [Wc,Wc,a1]
  simp only
  rw [b1]
  simp only
  rw [a2,show (blL (List.take i ls)).length + (blT l.2).length=(blL (List.take (i + 1) ls)).length from s2.symm]
  exact c1
theorem azu{nm:avP}{ins vs os:List avP}{g:avP}{ls:List LN}(hS:dS nm ins vs os g ls=true):Bt ins.length vs.length os.length (blL ls) (cpS ins vs os g ls)=true:=by
 obtain⟨hg,hL,hm,hu,hn,h1,h2,h3⟩:=Gy hS
 have hbl:(blL ls).length≤1600:=by have:=atv ls hL;omega
 have ru:(cpS ins vs os g ls).length≤2000:=by
  have h5:=atA ins vs os ls 0 (avz hS)
  rw [cpS,j6]
  cases g.toList== [] <;> simp <;> omega
 have hr:awH ins.length vs.length os.length (blL ls) (cpS ins vs os g ls)=true:=adc.2 ⟨by omega,by omega,by omega,by omega,ru⟩
 have hh:alw ins.length vs.length os.length (blL ls) (cpS ins vs os g ls)=true:=by
  obtain⟨L,e⟩:=auR h1 h2 h3 (by omega) hL hm hu ls 0 0 [] (List.drop_zero ..) rfl
  have e:hgt ins.length vs.length os.length (blL ls) (cLs ins vs os ls 0) 0 []=some (0,L):=e
  simp only [alw,cpS]
  rw [Wc,e]
  cases hz:g.toList== []with
  |true=>rfl
  |false=>
   rw [hz,Bool.false_or]at hg
   obtain⟨f1,f2,f3⟩:=aAE (i:=(ins.length:Int)) (v:=(vs.length:Int)) (o:=(os.length:Int)) (bs:=blL ls) rfl rfl h1 h2 hg
   obtain⟨L2,b1⟩:=ayG (n:=0) (acc:=L) f1 f2 f3 (by omega) (by omega)
   simp only [cond_false,b1];rfl
 simp only [Bt,hr,afW ls hL,hh,Bool.and_self]
theorem aAg{nm:avP}{ins vs os:List avP}{g:avP}{ls:List LN}(hS:dS nm ins vs os g ls=true): ∀ (l:aup) (xs:avO) (ss:List BS3),(∀ x∈l,bitsB ins.length x=true)→
  sy vs.length (blL ls) xs ss=true→goL os.length (blL ls) (cpS ins vs os g ls) l xs ss=sgO ins vs os g ls l xs ss
 | [],xs,ss,_,_=>rfl
 |inp::r,xs,ss,hA,hs=>by
  have hi:=hA inp (by simp)
  have e:=aA8 os.length (blL ls) (cpS ins vs os g ls) inp xs ss
  rw [q9,azz hS hi hs]at e
  have h1:=(aqF (aca.2 ⟨hS,hs,hi⟩)).1
  simp only [goL,sgO,e]
  rw [aAg hS r _ _ (fun x hx=>hA x (by simp [hx])) h1]
theorem aAK{nm:avP}{ins vs os:List avP}{g:avP}{ls:List LN}{l:aup}(h:rgC nm ins vs os g ls l=0):
  cpC nm ins vs os g ls=0∧abs (cpI nm ins vs os g ls) (cpV nm ins vs os g ls) (cpO nm ins vs os g ls) (cpB nm ins vs os g ls) (cpL nm ins vs os g ls) l=0∧
  rsO (cpI nm ins vs os g ls) (cpV nm ins vs os g ls) (cpO nm ins vs os g ls) (cpB nm ins vs os g ls) (cpL nm ins vs os g ls) l=rgO nm ins vs os g ls l∧
  au3 nm ins vs os g ls (rgV nm ins vs os g ls l) (rgB nm ins vs os g ls l)=true:=by
 rcases aom nm ins vs os g ls l with⟨_,h2⟩ | ⟨_,_,h2⟩ | ⟨_,_,_,h2⟩ | ⟨hS,h3,h4,_⟩
 ·rw [h]at h2;exact absurd h2 (by decide)
 ·rw [h]at h2;exact absurd h2 (by decide)
 ·rw [h]at h2;exact absurd h2 (by decide)
 ·have hA: ∀ x∈l,bitsB ins.length x=true:=List.all_eq_true.1 h4
  have hz:=aqH hS
  have hC:=azu hS
  have g3:=(ar1 hS l _ _ hA hz).2.2
  have hr:abs ins.length vs.length os.length (blL ls) (cpS ins vs os g ls) l=0:=by
   have h4':l.all (bitsB (ins.length:Int))=true:=h4
   simp only [abs,hC,h3,h4'];rfl
  simp only [cpC,cpI,cpV,cpO,cpB,cpL,hS,cond_true,hr,rsO,rgO,rgV,rgB,h,beq_self_eq_true,au3,g3,Bool.and_self]
  have hzv:agp (vs.length:Int)=zv vs:=by rw [agp,q9];rfl
  rw [hzv,aAg hS l _ _ hA hz]
  exact⟨trivial,trivial,rfl,trivial⟩
theorem aAL{c:avO}(hb: ∀ (i:Nat) (x:Int),c[i]? =some x→0≤x∧x≤255)(h:CA c=false):aG 0 0 c=true:=by
 have:=ag1.1 h
 refine akl.2 ⟨by omega,by omega,by omega,fun x hx=> ?_⟩
 obtain⟨i,hi⟩:=List.getElem?_of_mem hx
 exact hb i x hi
theorem ax5(nm:avP)(ins vs os:List avP)(g:avP)(ls:List LN)(xs:avO)(ss:List BS3)(s:avP)(h:(Uc nm ins vs os g ls&&leN xs.length 9223372036854775807)=true):
  Ys nm g s ins vs os ls xs ss=viV nm ins vs os g ls xs ss s∧Yt nm g s ins vs os ls xs ss=viC nm ins vs os g ls xs ss s∧Yu nm g s ins vs os ls xs ss=true:=by
 obtain⟨h1,h2⟩:=an1.1 h
 have h3:=(Qg.1 h1).2.2.2.2.2.2
 simp only [Ys,Yt,Yu,viC,viV,ak4,List.all_nil,h1,h2,h3,ayL,Wd,allT]
 cases hs:dS nm ins vs os g ls with
 |false=>exact⟨rfl,rfl,rfl⟩
 |true=>
  cases ht:sy vs.length (blL ls) xs ss with
  |false=>exact⟨rfl,rfl,rfl⟩
  |true=>
   obtain⟨_,s2,_⟩:=Qx.1 ht
   have hx:=(ct.1 s2).2
   obtain⟨_,_,_,_,_,_,hv,_⟩:=Gy hs
   have hn:leN vs.length 9223372036854775807=true:=bx (by omega)
   rw [hn]
   cases hh:lM vs s with
   |false=>exact⟨rfl,rfl,rfl⟩
   |true=>
    have hp:=Pt hh
    have e1:ltI (EC vs s:Int) (xs.length:Int)=true:=dw (by omega)
    have e2:ltN (EC vs s) xs.length=true:=eD (by omega)
    rw [Gn hh,e1,q9,e2];exact⟨rfl,rfl,rfl⟩
theorem aAR{nm:avP}{ins vs os:List avP}{g:avP}{ls:List LN}(h:prD nm ins vs os g ls=true)(hS:dS nm ins vs os g ls=true):aAb (blL ls)=true:=by
 obtain⟨_,_,_,_,_,h6⟩:=Pu.1 h
 obtain⟨_,l1⟩:=Tj.1 h6
 obtain⟨_,hL,_,_,hn,_⟩:=Gy hS
 have hb:=atv ls hL
 refine azh.2 ⟨by omega,fun t ht=> ?_⟩
 obtain⟨x,hx,hx2⟩:=List.mem_flatMap.1 ht
 have:=(Qn.1 (l1 x hx).2).2 t (List.mem_filter.1 hx2).1
 omega
theorem asr(c:avO)(w:wfD (.sl 5 (.int .u8)) c):IK c=true∧IL c=true:=by
 have hb: ∀ (i:Nat) (x:Int),c[i]? =some x→0≤x∧x≤255:=fun i x hx=>aBc (w.2 x (List.mem_of_getElem? hx))
 cases hbig:CA c with
 |true=>simp [IK,IL,allT,hbig,Fw,wP]
 |false=>
  have hsrc:=aAL hb hbig
  obtain⟨_,d1,d2,d3⟩:=asP c hsrc
  obtain⟨_,e1,e2,e3,e4⟩:=auF c hsrc
  have nV:(Uc (oV c) (oX c) (oY c) (oZ c) (oW c) (pa c)&&leN (pb c).length 9223372036854775807)=true:=by
   rw [awz e1,Bool.true_and];exact bx (by omega)
  obtain⟨v0,v1,v2⟩:=ax5 _ _ _ _ _ _ _ (rN c) (rM c) nV
  obtain⟨⟨_,k2,k3⟩,k4,k5⟩:=avt (bC c) (bE c) (bF c) (bG c) (bD c) (bH c) (dU c)
  obtain⟨w0,w1⟩:=axP (rgO (bC c) (bE c) (bF c) (bG c) (bD c) (bH c) (dU c)) (by omega) (fun a ha=>by have:=k3 a ha;omega)
  have r0:=Eq.refl (IK c)
  have r1:=Eq.refl (IL c)
  conv at r0=>rhs;simp only [IK,fW,vd,zt,sJ,zu,Mj,Mk,Ml,GU,GV,Fv,Fw,wP,KI,ava,w0,v0,v1,S0z,allT,hbig]
  conv at r1=>rhs;simp only [IL,fW,vd,zt,sJ,zu,Mj,Mk,Ml,GU,GV,Fv,Fw,wP,KI,ava,w0,w1,v0,v1,v2,S0z,allT,hbig,hsrc]
  rw [r0,r1]
  clear r0 r1 v0 v1 v2
  generalize u0:bC c=nm at *
  generalize u1:bD c=g at *
  generalize u2:bE c=ins at *
  generalize u3:bF c=vs at *
  generalize u4:bG c=os at *
  generalize u5:bH c=ls at *
  generalize u6:dU c=l at *
  generalize u7:oV c=nm1 at *
  generalize u8:oW c=g1 at *
  generalize u9:rM c=s1 at *
  generalize u10:oX c=ins1 at *
  generalize u11:oY c=vs1 at *
  generalize u12:oZ c=os1 at *
  generalize u13:pa c=ls1 at *
  generalize u14:pb c=xs1 at *
  generalize u15:rN c=ss1 at *
  have pk:=awz d1
  have n0:rgN nm ins vs os g ls l=true:=by
   simp only [rgN,pk,Bool.true_and]
   exact apq.2 ⟨by omega,fun x hx=>by have:=ajk.1 d3 x hx;omega⟩
  have n1:leN (rgV nm ins vs os g ls l).length 9223372036854775807=true:=bx (by omega)
  have n2:leN (rgB nm ins vs os g ls l).length 9223372036854775807=true:=bx (by omega)
  cases hz:rgC nm ins vs os g ls l !=0 with
  |true=>refine⟨?_,?_⟩ <;> simp only [hz,nV,n0,n1,n2,S0z,allT]
  |false=>
   have hz0:rgC nm ins vs os g ls l=0:=by simpa using hz
   obtain⟨q1,q2,q3,q4⟩:=aAK hz0
   have hS:dS nm ins vs os g ls=true:=by
    simp only [au3,q8]at q4;exact q4.1
   have hB:cpB nm ins vs os g ls=blL ls:=by simp only [cpB,hS,cond_true]
   have n3:axZ (cpB nm ins vs os g ls) l=true:=by
    rw [hB];simp only [axZ,aAR d1 hS,Bool.true_and]
    exact apq.2 ⟨by omega,fun x hx=>by have:=ajk.1 d3 x hx;omega⟩
   refine⟨?_,?_⟩ <;> simp only [hz,nV,n0,n1,n2,n3,q1,q2,q3,q4,w0,w1,pk,S0z,allT]
end Go.SX
