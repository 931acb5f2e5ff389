/- What functions of the program come to, and what that says in plain words: part 4. -/
import Derived.Test.YtbiaajlhigmdhaaGreatDoorMc
import Derived.Test.YtbiaajlhigmdhaaGreatDoorTXh
import Derived.Test.YtbiaajlhigmdhaaGreatDoorProg
import Derived.Test.YtbiaajlhigmdhaaGreatDoorTXi
set_option linter.unusedSimpArgs false
set_option linter.unusedVariables false
open Bool renaming and_eq_true → q9
open List renaming length_singleton → w5
open List renaming length_append → w7
open Bool renaming or_true → w8
open Bool renaming cond_self → w9
open List renaming length_replicate → j7
open Int renaming toNat → j8
open List renaming length → j9
open Go.IntKind renaming wrap → v3
open List renaming replicate → v4
namespace Go.SX
open Go.Proofs Go.Proofs.Tryz
set_option maxRecDepth 100000
theorem amT(a b c:Int):(Jb a b c).length≤1:=by
 simp only [Jb]
 exact fo (by simp) (fo (by simp) (fo (by simp) (fo (by simp) (by simp))))
theorem anm(v:List IN→List IN)(n:Nat)(l:List IN)(hn:l.length≤n)(hl:l.length≤1000000)(i:Nat)(hi:i≤l.length):
  ((dh v n).lt ((i:Int),l)).out=some (bif ltI ((i:Int) + 1) (l.length:Int)then(bif ci (i:Int) l then .inl 0 else .inr (((i + 1:Nat):Int),l))else .inl 1)∧
  (ltI ((i:Int) + 1) (l.length:Int)=true→(jx (i:Int) l).length + 1≤l.length):=by
 have w1:qB (i:Int)=(i:Int) + 1:=aJ (by omega) (by omega)
 have w2:yZ (i:Int)=(i:Int) + 2:=aJ (by omega) (by omega)
 have hb:=amT (qC (i:Int) l).1 (qC (i:Int) l).2 (Fz (i:Int) l)
 have l4:(nU (i:Int) l).length=i:=by simp only [nU,Int.toNat_zero,List.drop_zero,Int.toNat_natCast,List.length_take];omega
 have l5:(yY (i:Int) l).length≤1:=hb
 have l7:(uk (i:Int) l).length≤i + 1:=by simp only [uk,w7];omega
 have l8:(ul (i:Int) l).length=l.length - (i + 2):=by
  simp only [ul,w2,Int.toNat_natCast,List.take_length,List.length_drop];omega
 have l9:ltI ((i:Int) + 1) (l.length:Int)=true→(jx (i:Int) l).length + 1≤l.length:=fun ht=>by
  have:=GX.1 ht
  simp only [jx,w7];omega
 refine⟨?_,l9⟩
 cases ht:ltI ((i:Int) + 1) (l.length:Int)with
 |false=>
  have p0:rQ (i:Int) l=false:=by simp only [rQ,w1,ht]
  simp only [dh,Fa,LT.out,p0,cond_false]
 |true=>
  have eQ:=GX.1 ht
  have l9:=l9 ht
  have p0:rQ (i:Int) l=true:=by simp only [rQ,w1,ht]
  have p1:OW (i:Int)=true:=bu (by omega)
  have p2:OX (i:Int) l=true:=cS (by omega)
  have p3:OY (i:Int) l=true:=dI (by simp only [Int.toNat_natCast];omega)
  have p4:GS (i:Int)=true:=by simp only [GS,w1];exact bu (by omega)
  have p5:GU (i:Int) l=true:=by simp only [GU,w1];exact dI (by omega)
  have p6:OZ (i:Int) l=true:=se rfl
  have p7:Pa (i:Int) l=true:=se (bu (by omega))
  have p8:Pb (i:Int) l=true:=se (bu (by omega))
  have p9:Pc (i:Int) l=true:=se (aR (by omega))
  have p10:Oa (i:Int) l=true:=se (aR (by omega))
  have p11:Ob (i:Int) l=true:=se (aR (by omega))
  have p12:Oc (i:Int) l=true:=se (aR (by omega))
  have p13:Od (i:Int) l=true:=se (by rw [w2];exact bu (by omega))
  have p14:Oe (i:Int) l=true:=se (by rw [w2];exact bu (by omega))
  have p15:Of (i:Int) l=true:=se (bu (by omega))
  have p16:Og (i:Int) l=true:=se (aR (by omega))
  have p17:Oh (i:Int) l=true:=se (aR (by omega))
  have p18:Oi n (i:Int) l=true:=se (aR (by omega))
  have p19:Oj (i:Int) l=true:=se (aR (by omega))
  have e21:Fy (i:Int)=((i + 1:Nat):Int):=by simp only [Fy,w1];omega
  simp only [dh,Fa,LT.out,allT,p0,p1,p2,p3,p4,p5,p6,p7,p8,p9,p10,p11,p12,p13,p14,p15,p16,p17,p18,p19,e21,Ok,cond_true]
  cases ci (i:Int) l <;> rfl
theorem alY(v:List IN→List IN)(n:Nat)(l:List IN)(hn:l.length≤n)(hl:l.length≤1000000): ∀ (k i:Nat),i + k=l.length→
  ∃ (j m:Nat),JP (dh v n).lt (k + 1) ((i:Int),l)=some (j,((m:Int),l))∧(j=0∧ltI ((m:Int) + 1) (l.length:Int)=true∧m≤l.length∨j=1)
 |0,i,h=>by
  obtain⟨h1,_⟩:=anm v n l hn hl i (by omega)
  rw [show ltI ((i:Int) + 1) (l.length:Int)=false from wO (by omega),cond_false]at h1
  exact⟨1,i,FM _ h1,.inr rfl⟩
 |k + 1,i,h=>by
  obtain⟨h1,_⟩:=anm v n l hn hl i (by omega)
  cases ht:ltI ((i:Int) + 1) (l.length:Int)with
  |false=>
   rw [ht,cond_false]at h1
   exact⟨1,i,FM _ h1,.inr rfl⟩
  |true=>
   cases h3:ci (i:Int) l with
   |true=>
    rw [ht,h3,cond_true,cond_true]at h1
    exact⟨0,i,FM _ h1,.inl ⟨rfl,ht,by omega⟩⟩
   |false=>
    rw [ht,h3,cond_true,cond_false]at h1
    obtain⟨j,m,g1,g2⟩:=alY v n l hn hl k (i + 1) (by omega)
    exact⟨j,m,by rw [Px _ h1];exact g1,g2⟩
theorem alZ(v:List IN→List IN)(n:Nat)(l:List IN)(hn:l.length≤n)(hl:l.length≤1000000):
  Mg v n l=true∧(Av v n l=l∨ ∃ i:Nat,Av v n l=v (jx (i:Int) l)∧(jx (i:Int) l).length + 1≤l.length):=by
 obtain⟨j,m,g1,g2⟩:=alY v n l hn hl l.length 0 (by omega)
 obtain⟨f,g⟩:=(dh v n).run g1 (ad4 (by simp only [dh];omega))
 have f:Lp.fin (dh v n) ((0:Int),l)=true:=f
 have g:Lp.res (dh v n) ((0:Int),l)=(j,((m:Int),l)):=g
 have b1:leN (0 + l.length) 9223372036854775807=true:=aR (by omega)
 have b2:leN ((0 + l.length) * 16) 140737488355328=true:=aR (by omega)
 refine⟨by simp only [Mg,f,b1,b2,allT,w8,cond_true],?_⟩
 simp only [Av,Dn,g]
 rcases g2 with⟨rfl,ht,hm⟩ | rfl
 ·exact .inr ⟨m,rfl,(anm v n l hn hl m hm).2 ht⟩
 ·exact .inl rfl
def imV:Nat→List IN→List IN
 |0,l=>l
 |n + 1,l=>Av (imV n) n l
theorem aoh: ∀ (n:Nat) (l:List IN),l.length + 1≤n→l.length≤1000000→(imV n l).length≤l.length
 |0,l,h,_=>by omega
 |n + 1,l,h,hl=>by
  rcases(alZ (imV n) n l (by omega) hl).2 with e | ⟨i,e,eQ⟩
  ·simp only [imV,e];exact Nat.le_refl _
  ·simp only [imV,e]
   have:=aoh n _ (show (jx (i:Int) l).length + 1≤n by omega) (by omega)
   omega
theorem arE: ∀ n:Nat,aqe (imV n) n
 |0=>by
  intro args es o h cf
  unfold alv at h
  split at h
  ·cases h
   have:=cf _ (List.mem_cons_self ..)
   rw [iv]at this
   omega
  ·cases h
 |n + 1=>by
  refine(PF.alt (aef (imV n) n (arE n)) (alv (imV (n + 1)) (n + 1)) ?_).ok
  intro args es o h cf
  unfold alv at h
  split at h
  ·rename_i x0
   cases h
   have h1:=iv.1 (cf _ (List.mem_cons_self ..))
   have h2:=iv.1 (cf (leN x0.length 1000000) (by simp))
   have h3:=(alZ (imV n) n x0 (Nat.le_of_succ_le_succ h1) h2).1
   exact⟨_,rfl,fun b hb=>by rw [List.mem_singleton.1 hb];exact h3,rfl,rfl,rfl⟩
  ·cases h
def Uu:List SV→List Entry→Option Out
 | [.one ⟨false,[.ref 0]⟩],[.row false 83 (.pair (.int .i64) (.int .i64)) x0]=>
  some ⟨.one ⟨false,[.ref 1]⟩,[.row false 83 (.pair (.int .i64) (.int .i64)) x0],[.row true 83 (.pair (.int .i64) (.int .i64)) (imV (x0.length + 1) x0)],[leN x0.length 1000000]⟩
 |_,_=>none
def MV:PF prog where
 k:=167
 F:=Uu
 ok:=by
  intro args es o h cf
  unfold Uu at h
  split at h
  ·rename_i x0
   cases h
   refine arE (x0.length + 1) _ _ ⟨_,_,_,[leN (x0.length + 1) (x0.length + 1),leN x0.length 1000000]⟩ rfl fun b hb=> ?_
   rcases List.mem_cons.1 hb with rfl | hb
   ·exact aR (Nat.le_refl _)
   ·exact cf b hb
  ·cases h
theorem TN(M m:Nat)(x:iA)(hx:match x with | (y0,y1,y2,y3,y4,y5,y6,y7,y8,y9)=>((ig y1 y9).length:Int)≤y0 + (100:Nat)∧0≤y0∧y5.length + (100:Nat)≤M∧M≤20000∧(m≤y5.length∧(0≤y1∧y1 < (y9.length:Int))∧WY 100 y9=true∧y6.length≤50∧y7.length≤50)):
  eC.fin x=true∧ ∃ j y,eC.res x=(j,y)∧(match y with | (y0,y1,y2,y3,y4,y5,y6,y7,y8,y9)=>y5.length≤M∧m≤y5.length):=by
 refine eC.inv2 (fun k x=>match x with | (y0,y1,y2,y3,y4,y5,y6,y7,y8,y9)=>((ig y1 y9).length:Int)≤y0 + k∧0≤y0∧y5.length + k≤M∧M≤20000∧(m≤y5.length∧(0≤y1∧y1 < (y9.length:Int))∧WY 100 y9=true∧y6.length≤50∧y7.length≤50)) (fun y=>match y with | (y0,y1,y2,y3,y4,y5,y6,y7,y8,y9)=>y5.length≤M∧m≤y5.length) (fun k x hx=> ?_) (fun x hx=> ?_) 100 x (by omega) hx
 ·obtain⟨y0,y1,y2,y3,y4,y5,y6,y7,y8,y9⟩:=x
  obtain⟨h0,h1,h2,h3,hm,⟨h4,h5⟩,h6,h7,h8⟩:=hx
  have p0:xK y1=true:=bu h4
  have p1:xL y1 y9=true:=cS h5
  have p2:xM y1 y9=true:=dI (by omega)
  cases ht:xN y0 y1 y9 with
  |false=>
   simp only [eC,wG,LT.ok,HH,HI,p0,p1,p2,ht,Bool.false_eq_true,false_implies,true_implies,true_and,and_true]
   omega
  |true=>
   have eQ:y0 < ((ig y1 y9).length:Int):=GX.1 ht
   have hA:(ig y1 y9).length≤100:=by
    have:=(Km.1 h6).2 (Option.getD y9[y1.toNat]? (uS (.pair .str (.sl 122 (.pair (.int .i64) (.pair .str (.int .i64))))))) (by
     rw [List.getElem?_eq_getElem (show y1.toNat < y9.length by omega)];exact List.getElem_mem _)
    exact(Xu.1 this.2).1
   have p4:Mz y0=true:=bu h1
   have p5:MA y0 y1 y9=true:=dI (by omega)
   have p6:MB y0 y1 y6 y7 y9=true:=by
    refine se ?_
    simp only [Ev,aR (show y6.length≤9223372036854775807 by omega),aR (show y7.length≤9223372036854775807 by omega),allT,w8,cond_true]
   have b1:leN (y5.length + 1) 9223372036854775807=true:=aR (by omega)
   have b2:leN ((y5.length + 1) * 16) 140737488355328=true:=aR (by omega)
   have p7:MC y0 y1 y5 y6 y7 y9=true:=se b1
   have p8:MD y0 y1 y5 y6 y7 y9=true:=se b2
   have p9:ME y0 y1 y5 y9=true:=se (se b1)
   have p10:Kq y0 y1 y5 y9=true:=se (se b2)
   have p11:Kr y0 y1 y5 y9=true:=se (se (se b1))
   have p12:Ks y0 y1 y5 y9=true:=se (se (se b2))
   have p13:Kt y0 y1 y5 y9=true:=se (se (se (se b1)))
   have p14:Ku y0 y1 y5 y9=true:=se (se (se (se b2)))
   have p15:Kv y0 y1 y2 y5 y9=true:=se (se (se (se b1)))
   have p16:Kw y0 y1 y2 y5 y9=true:=se (se (se (se b2)))
   have w:jV y0=y0 + 1:=aJ (by omega) (by omega)
   have l19:(Cz y0 y1 y5 y6 y7 y9).length=y5.length + 1:=by simp only [Cz,wI,w7,w5]
   have l21:(CA y5).length=y5.length + 1:=by simp only [CA,w7,w5]
   have l23:(CB y5).length=y5.length + 1:=by simp only [CB,w7,w5]
   have l25:(CC y0 y1 y5 y9).length=y5.length + 1:=by simp only [CC,wJ,w7,w5]
   have l27:(CD y2 y5).length=y5.length + 1:=by simp only [CD,uY,w7,w5]
   have nx: ∀ {q:List IN},q.length=y5.length + 1→((ig y1 y9).length:Int)≤(jV y0) + (k:Int)∧0≤jV y0∧q.length + k≤M∧M≤20000∧(m≤q.length∧(0≤y1∧y1 < (y9.length:Int))∧WY 100 y9=true∧y6.length≤50∧y7.length≤50):=fun hq=>⟨by omega,by omega,by omega,h3,by omega,⟨h4,h5⟩,h6,h7,h8⟩
   simp only [eC,wG,LT.ok,HH,HI,and_true,true_and,ht,p0,p1,p2,p4,p5,p6,p7,p8,p9,p10,p11,p12,p13,p14,p15,p16,Bool.false_eq_true,reduceCtorEq,false_implies,true_implies]
   exact⟨fun _=>nx l19,fun _=>⟨fun _=>nx l21,fun _=>⟨fun _=>nx l23,fun _=>⟨fun _=>nx l25,fun _=>nx l27⟩⟩⟩⟩
 ·obtain⟨y0,y1,y2,y3,y4,y5,y6,y7,y8,y9⟩:=x
  obtain⟨h0,h1,h2,h3,hm,⟨h4,h5⟩,h6,h7,h8⟩:=hx
  have p0:xK y1=true:=bu h4
  have p1:xL y1 y9=true:=cS h5
  have p2:xM y1 y9=true:=dI (by omega)
  have ht:xN y0 y1 y9=false:=wO (by omega)
  simp only [eC,wG,LT.ok,HH,HI,p0,p1,p2,ht,Bool.false_eq_true,false_implies,true_implies,true_and,and_true]
  omega
theorem Xp(c:Nat)(x:lG)(hx:match x with | (y0,y1,y2,y3,y4,y5,y6,y7,y8)=>(y8.length:Int)≤y0 + (100:Nat)∧0≤y0∧y4.length + 101 * (100:Nat)≤10100∧(y0≤(y4.length:Int)∧y8.length=c)∧WY 100 y8=true∧y5.length≤50∧y6.length≤50∧y7.length≤50):
  gh.fin x=true∧ ∃ j y,gh.res x=(j,y)∧(match y with | (y0,y1,y2,y3,y4,y5,y6,y7,y8)=>y4.length≤10100∧c≤y4.length):=by
 refine gh.inv2 (fun k x=>match x with | (y0,y1,y2,y3,y4,y5,y6,y7,y8)=>(y8.length:Int)≤y0 + k∧0≤y0∧y4.length + 101 * k≤10100∧(y0≤(y4.length:Int)∧y8.length=c)∧WY 100 y8=true∧y5.length≤50∧y6.length≤50∧y7.length≤50) (fun y=>match y with | (y0,y1,y2,y3,y4,y5,y6,y7,y8)=>y4.length≤10100∧c≤y4.length) (fun k x hx=> ?_) (fun x hx=> ?_) 100 x (by omega) hx
 ·obtain⟨y0,y1,y2,y3,y4,y5,y6,y7,y8⟩:=x
  obtain⟨h0,h1,h2,⟨hy,hc⟩,h3,h4,h5,h6⟩:=hx
  have l8:=(Km.1 h3).1
  cases ht:BX y0 y8 with
  |false=>
   have hge:=UA.1 (show ltI y0 (y8.length:Int)=false from ht)
   simp only [gh,AF,LT.ok,ht,Bool.false_eq_true,false_implies,true_implies,true_and,and_true]
   omega
  |true=>
   have eQ:y0 < (y8.length:Int):=GX.1 ht
   have hA:(ig y0 y8).length≤100:=by
    have:=(Km.1 h3).2 (Option.getD y8[y0.toNat]? (uS (.pair .str (.sl 122 (.pair (.int .i64) (.pair .str (.int .i64))))))) (by
     rw [List.getElem?_eq_getElem (show y0.toNat < y8.length by omega)];exact List.getElem_mem _)
    exact(Xu.1 this.2).1
   obtain⟨f0,j0,⟨z0,z1,z2,z3,z4,z5,z6,z7,z8,z9⟩,g0,q1,q2⟩:=TN (y4.length + 100) y4.length (AP y0 y1 y2 y3 y4 y5 y6 y7 y8) (by
    simp only [AP]
    exact⟨by omega,by omega,by omega,by omega,Nat.le_refl _,⟨h1,eQ⟩,h3,h4,h5⟩)
   have e5:mM y0 y1 y2 y3 y4 y5 y6 y7 y8=z5:=by simp only [mM,GR,g0]
   have p1:QV y0 y1 y2 y3 y4 y5 y6 y7 y8=true:=f0
   have p2:QW y0=true:=bu h1
   have p3:QX y0 y8=true:=dI (by omega)
   have p4:QY y6=true:=aR (by omega)
   have b1:leN (z5.length + 1) 9223372036854775807=true:=aR (by omega)
   have b2:leN ((z5.length + 1) * 16) 140737488355328=true:=aR (by omega)
   have p5:QZ y0 y1 y2 y3 y4 y5 y6 y7 y8=true:=se (by rw [e5];exact b1)
   have p6:Ra y0 y1 y2 y3 y4 y5 y6 y7 y8=true:=se (by rw [e5];exact b2)
   have p7:Rb y0 y6 y8=true:=se (bu h1)
   have p8:Rc y0 y6 y8=true:=se ht
   have p9:Rd y0 y6 y8=true:=se (dI (by omega))
   have p10:OQ y0 y6 y7 y8=true:=se (aR (by omega))
   have p11:OR y0 y1 y2 y3 y4 y5 y6 y7 y8=true:=se (by rw [e5];exact b1)
   have p12:OS y0 y1 y2 y3 y4 y5 y6 y7 y8=true:=se (by rw [e5];exact b2)
   have w:rP y0=y0 + 1:=aJ (by omega) (by omega)
   have l16:(GP y0 y1 y2 y3 y4 y5 y6 y7 y8).length=z5.length + 1:=by simp only [GP,e5,AQ,w7,w5]
   have l17:(GQ y0 y1 y2 y3 y4 y5 y6 y7 y8).length=z5.length + 1:=by simp only [GQ,e5,AR,w7,w5]
   have nx: ∀ {q:List IN},q.length=z5.length + 1→(y8.length:Int)≤(rP y0) + (k:Int)∧0≤rP y0∧q.length + 101 * k≤10100∧(rP y0≤(q.length:Int)∧y8.length=c)∧WY 100 y8=true∧y5.length≤50∧y6.length≤50∧y7.length≤50:=fun hq=>⟨by omega,by omega,by omega,⟨by omega,hc⟩,h3,h4,h5,h6⟩
   simp only [gh,AF,LT.ok,HH,HI,and_true,true_and,ht,p1,p2,p3,p4,p5,p6,p7,p8,p9,p10,p11,p12,Bool.false_eq_true,reduceCtorEq,false_implies,true_implies]
   exact⟨fun _=>nx l16,fun _=>nx l17⟩
 ·obtain⟨y0,y1,y2,y3,y4,y5,y6,y7,y8⟩:=x
  obtain⟨h0,h1,h2,⟨hy,hc⟩,h3,h4,h5,h6⟩:=hx
  have ht:BX y0 y8=false:=wO (by omega)
  simp only [gh,AF,LT.ok,ht,Bool.false_eq_true,false_implies,true_implies,true_and,and_true]
  omega
theorem aoF{ls:List LN}(h:WY 100 ls=true):(blL ls).length≤10000∧ ∀ t∈blL ls,t.2.1.size≤1000:=by
 obtain⟨h1,h2⟩:=Km.1 h
 refine⟨?_,fun t ht=> ?_⟩
 ·have my: ∀ ls:List LN,(∀ l∈ls,l.2.length≤100)→(blL ls).length≤100 * ls.length:=by
   intro ls
   induction ls with
   |nil=>intro _;simp [blL]
   |cons l r ih=>
    intro hh
    have a:=ih fun x hx=>hh x (by simp [hx])
    have b:=hh l (by simp)
    have c:(blT l.2).length≤l.2.length:=List.length_filter_le ..
    have d:blL (l::r)=blT l.2++blL r:=rfl
    rw [d,w7,List.length_cons]
    omega
  have:=my ls fun l hl=>(Xu.1 (h2 l hl).2).1
  omega
 ·simp only [blL,List.mem_flatMap]at ht
  obtain⟨l,hl,ht⟩:=ht
  exact(Xu.1 (h2 l hl).2).2 t (List.mem_filter.1 ht).1
def cdD(i v o:Int)(bs:List TM)(st:List IN):Bool:=(leI (-1) i&&leI i 60)&&((leI 0 v&&leI v 60)&&((leI 0 o&&leI o 60)&&((leN bs.length 10000&&bs.all fun t=>leN t.2.1.size 1000)&&leN st.length 30000)))
theorem RM{i v o:Int}{bs:List TM}{st:List IN}:cdD i v o bs st=true↔(-1≤i∧i≤60)∧(0≤v∧v≤60)∧(0≤o∧o≤60)∧(bs.length≤10000∧ ∀ t∈bs,t.2.1.size≤1000)∧st.length≤30000:=by
 simp only [cdD,q9,AE,iv,List.all_eq_true]
theorem IA(x0 x1:alV)(x2 x3 x4:List alV)(x5:List LN)(hp:prD x0 x2 x3 x4 x1 x5=true):
  NR x0 x1 x2 x3 x4 x5=true∧cdD (cT x1 x2) (cU x1 x3) (cV x1 x4) (cW x1 x5) (lU x0 x1 x2 x3 x4 x5)=true∧((lU x0 x1 x2 x3 x4 x5).length≤10101∧x5.length≤(lU x0 x1 x2 x3 x4 x5).length)∧0≤cT x1 x2:=by
 obtain⟨_,hi,hv,ho,_,hl⟩:=afM.1 hp
 have i0:=(rT.1 hi).1
 have v0:=(rT.1 hv).1
 have o0:=(rT.1 ho).1
 have l0:=(Km.1 hl).1
 obtain⟨f0,j0,⟨z0,z1,z2,z3,z4,z5,z6,z7,z8⟩,g0,q1,q2⟩:=Xp x5.length (Fw x0 x1 x2 x3 x4 x5) (by
  simp only [Fw]
  exact⟨by omega,by omega,by simp,⟨by simp,trivial⟩,hl,i0,v0,o0⟩)
 have e2:wm x0 x1 x2 x3 x4 x5=z4:=by simp only [wm,g0]
 have hL:=(abv.1 (apZ hp)).2.2.2.2.2.2
 obtain⟨t1,t2⟩:=aoF hl
 have l3:(Fx x1 x2 x3).length=1:=rfl
 have l4:(lU x0 x1 x2 x3 x4 x5).length≤10101:=by
  simp only [lU,e2]
  exact fo (by rw [w7,l3];omega) (by omega)
 have l5:x5.length≤(lU x0 x1 x2 x3 x4 x5).length:=by
  simp only [lU,e2]
  cases kx x1
  ·exact q2
  ·rw [cond_true,w7,l3];omega
 refine⟨?_,RM.2 ⟨?_,?_,?_,?_,by omega⟩,⟨l4,l5⟩,?_⟩
 ·have k2:Ev x1 x2 x3=true:=by simp only [Ev,aR (show x2.length≤9223372036854775807 by omega),aR (show x3.length≤9223372036854775807 by omega),allT,w8,cond_true]
  have b1:leN (z4.length + 1) 9223372036854775807=true:=aR (by omega)
  have b2:leN ((z4.length + 1) * 16) 140737488355328=true:=aR (by omega)
  simp only [NR,f0,e2,l3,k2,b1,b2,hL,allT,w8,cond_true]
 ·simp only [cT,w9];omega
 ·simp only [cU,w9];omega
 ·simp only [cV,w9];omega
 ·simp only [cW,w9];exact⟨t1,t2⟩
 ·simp only [cT,w9];omega
def Us:List SV→List Entry→Option Out
 | [.one ⟨true,[.val (.string x0),.ref 0,.ref 1,.ref 2,.val (.string x1),.ref 3]⟩],[.row false 9 (.str) x2,.row false 9 (.str) x3,.row false 9 (.str) x4,.row false 142 (.pair (.str) (.sl 122 (.pair (.int .i64) (.pair (.str) (.int .i64))))) x5]=>some ⟨.one ⟨true,[.val (.int .i64 (cT x1 x2)),.val (.int .i64 (cU x1 x3)),.val (.int .i64 (cV x1 x4)),.ref 4,.ref 5]⟩,[.row false 9 alu x2,.row false 9 alu x3,.row false 9 alu x4,.row false 142 (CTy.pair CTy.str (CTy.sl (122:TypeId) afs)) x5],[.row true 122 afs (cW x1 x5),.row true 83 ahF (lU x0 x1 x2 x3 x4 x5)],[prD x0 x2 x3 x4 x1 x5]⟩
 |_,_=>none
def fF:PF prog:=PF.alt afJ Us (by
 intro args es o h cf;unfold Us at h;split at h
 ·rename_i x0 x1 x2 x3 x4 x5
  cases h
  have cf:=iw cf
  have hh:=(IA x0 x1 x2 x3 x4 x5 cf).1
  have en:=hh
  exact mK rfl (gE en) rfl rfl rfl
 ·cases h)
abbrev oV:=List (Int×Int)×Int×Int×List Int
section
variable (y0:List (Int×Int))(y1 y2:Int)(y3:List Int)
def NS:Bool:=aT y1 y2 y3
def NT:Bool:=ltI (↑y0.length:Int) (v3 .i64 ((2000:Int) + nxV 2 y1 y2 y3))
def Vf:Bool:=leN (j9 y0 + j9 [((10:Int),(0:Int))]) 9223372036854775807
def Vg:Bool:=leN ((j9 y0 + j9 [((10:Int),(0:Int))]) * 16) 140737488355328
def NU:List (Int×Int):=y0++ [((10:Int),(0:Int))]
def BZ:Int:=nxA 2 y1 y3
def Ca:Int:=nxS 2 y1 y2 y3
end
def adu:oV→List (Nat×SV)
 |(_,_,_,_)=> [(4,(.one ⟨false,[.ref 0]⟩)),(0,(.one ⟨false,[.ptr 1 0]⟩))]
def adl:oV→List (Nat×Entry)
 |(y0,y1,y2,y3)=> [(1,(.box 113 [.ref 2,.val (.int .i64 y1),.val (.int .i64 y2)])),(2,(.row false 5 ake y3)),(0,(.row true 83 ahF y0))]
def adM:Nat→oV→List (Nat×SV)
 |_,(_,_,_,_)=> [(4,(.one ⟨false,[.ref 0]⟩))]
def adD:Nat→oV→List (Nat×Entry)
 |_,(y0,y1,y2,y3)=> [(0,(.row true 83 ahF y0)),(1,(.box 113 [.ref 2,.val (.int .i64 (BZ y1 y3)),.val (.int .i64 (Ca y1 y2 y3))])),(2,(.row false 5 ake y3))]
def Lq:oV→LT oV
 |(y0,y1,y2,y3)=> .need [NS y1 y2 y3] (.ite (NT y0 y1 y2 y3) (.need [Vf y0,Vg y0] (.nrm ((NU y0),BZ y1 y3,Ca y1 y2 y3,y3) [(0,640),(1,1),(2,2)])) (.ext 0 [(0,0),(1,1),(2,2)]))
def LA(s:St):Option oV:=
 (match s.look 4 with
 |some ⟨none,.one ⟨false,[.ref 768]⟩⟩=>
 (match s.look 0 with
 |some ⟨none,.one ⟨false,[.ptr 0 0]⟩⟩=>
 (match s.ent 0 with
 |some (.box 113 [.ref 1,.val (.int .i64 y1),.val (.int .i64 y2)])=>
 (match s.ent 1 with
 |some (.row false 5 (.int IntKind.u8) y3)=>
 (match s.ent 768 with
 |some (.row true 83 (.pair (.int .i64) (.int .i64)) y0)=>
 some (y0,y1,y2,y3)
 |_=>none)
 |_=>none)
 |_=>none)
 |_=>none)
 |_=>none)
def iX:Lp oV where
 h:=⟨[74,75,76,77,78,79,80,81,82,83,4],[1,2],[0],[]⟩
 JL:=adu
 JE:=adl
 XL:=adM
 XE:=adD
 q:=fun j=>match j with | _=> .exit 1
 tags:= [0]
 lt:=Lq
 fuel:=fun(y0,y1,y2,y3)=>y0.length + y1.natAbs + y2.natAbs + y3.length
 fix:=fun(_,_,_,y3) (y0,y1,y2,_)=>(y0,y1,y2,y3)
 σ:= [(1,0),(2,1),(0,768)]
 rd:=LA
theorem aa7:LoopOk prog (fun k=>Nat.blt k Tryz.f79.ntmps) iX.F (bV f79 0):=by
 refine Lp.ok (tbl:= (PF.parts prog::T3z [ao,kv,fF,aW])) (lf:= []) bG iX (by kernel_rfl) (LOk.nil _) (fun _=>rfl) (fun _ _=>rfl) ?_ ?_ ?_ ?_ (fun _=>rfl) ?_
 ·rintro⟨y0,y1,y2,y3⟩;kernel_rfl
 ·rintro⟨y0,y1,y2,y3⟩;kernel_rfl
 ·intro s x h
  have h:LA s=some x:=h
  unfold LA at h
  repeat' split at h
  all_goals cases h
  constructor<;>repeat(first|refine ab (by assumption) rfl ?_|refine aa rfl (by assumption) rfl ?_|exact rfl)
 ·rintro⟨y0,y1,y2,y3⟩;kernel_rfl
 ·rintro⟨y0,y1,y2,y3⟩ z;exact(And.intro rfl trivial)
abbrev oW:=Int×List (Int×Int)
section
variable (y0:Int)(y1:List (Int×Int))
def NV:Bool:=ltI 0 y0
def Vh:Bool:=leN (j9 y1 + j9 [((1:Int),(0:Int))]) 9223372036854775807
def Vi:Bool:=leN ((j9 y1 + j9 [((1:Int),(0:Int))]) * 16) 140737488355328
def Vj:Int:=v3 .i64 (y0 - (1:Int))
def NW:List (Int×Int):=y1++ [((1:Int),(0:Int))]
end
def adv:oW→List (Nat×SV)
 |(y0,_)=> [(8,(.one ⟨false,[.val (.int .i64 y0)]⟩)),(7,(.one ⟨false,[.ref 0]⟩))]
def adm:oW→List (Nat×Entry)
 |(_,y1)=> [(0,(.row true 83 ahF y1))]
def adN:Nat→oW→List (Nat×SV)
 |_,(_,_)=> [(7,(.one ⟨false,[.ref 0]⟩))]
def adE:Nat→oW→List (Nat×Entry)
 |_,(_,y1)=> [(0,(.row true 83 ahF y1))]
def EY:oW→LT oW
 |(y0,y1)=> .ite (NV y0) (.need [Vh y1,Vi y1] (.nrm ((Vj y0),(NW y1)) [(0,384)])) (.ext 0 [(0,0)])
def LB(s:St):Option oW:=
 (match s.look 8 with
 |some ⟨none,.one ⟨false,[.val (.int .i64 y0)]⟩⟩=>
 (match s.look 7 with
 |some ⟨none,.one ⟨false,[.ref 2240]⟩⟩=>
 (match s.ent 2240 with
 |some (.row true 83 (.pair (.int .i64) (.int .i64)) y1)=>
 some (y0,y1)
 |_=>none)
 |_=>none)
 |_=>none)
def kr:Lp oW where
 h:=⟨[103,104,107,108,109,110,7,105,106,8],[],[0],[]⟩
 JL:=adv
 JE:=adm
 XL:=adN
 XE:=adE
 q:=fun j=>match j with | _=> .exit 3
 tags:= [0]
 lt:=EY
 fuel:=fun(y0,y1)=>y0.natAbs + y1.length
 fix:=fun(_,_) (y0,y1)=>(y0,y1)
 σ:= [(0,2240)]
 rd:=LB
theorem aa8:LoopOk prog (fun k=>Nat.blt k Tryz.f79.ntmps) kr.F (bV f79 1):=by
 refine Lp.ok (tbl:= (PF.parts prog::T3z [ao,kv,fF,aW])) (lf:= []) bG kr (by kernel_rfl) (LOk.nil _) (fun _=>rfl) (fun _ _=>rfl) ?_ ?_ ?_ ?_ (fun _=>rfl) ?_
 ·rintro⟨y0,y1⟩;kernel_rfl
 ·rintro⟨y0,y1⟩;kernel_rfl
 ·intro s x h
  have h:LB s=some x:=h
  unfold LB at h
  repeat' split at h
  all_goals cases h
  constructor<;>repeat(first|refine ab (by assumption) rfl ?_|refine aa rfl (by assumption) rfl ?_|exact rfl)
 ·rintro⟨y0,y1⟩;kernel_rfl
 ·rintro⟨y0,y1⟩ z;exact(And.intro rfl trivial)
abbrev oX:=Int×List (Int×Int)
section
variable (y0:Int)(y1:List (Int×Int))
def NX:Bool:=ltI 1 y0
def Vk:Bool:=leN (j9 y1 + j9 [((6:Int),(0:Int))]) 9223372036854775807
def Vl:Bool:=leN ((j9 y1 + j9 [((6:Int),(0:Int))]) * 16) 140737488355328
def Vm:Int:=v3 .i64 (y0 - (1:Int))
def NY:List (Int×Int):=y1++ [((6:Int),(0:Int))]
end
def adw:oX→List (Nat×SV)
 |(y0,_)=> [(9,(.one ⟨false,[.val (.int .i64 y0)]⟩)),(7,(.one ⟨false,[.ref 0]⟩))]
def adn:oX→List (Nat×Entry)
 |(_,y1)=> [(0,(.row true 83 ahF y1))]
def adO:Nat→oX→List (Nat×SV)
 |_,(_,_)=> [(7,(.one ⟨false,[.ref 0]⟩))]
def adF:Nat→oX→List (Nat×Entry)
 |_,(_,y1)=> [(0,(.row true 83 ahF y1))]
def EZ:oX→LT oX
 |(y0,y1)=> .ite (NX y0) (.need [Vk y1,Vl y1] (.nrm ((Vm y0),(NY y1)) [(0,384)])) (.ext 0 [(0,0)])
def LC(s:St):Option oX:=
 (match s.look 9 with
 |some ⟨none,.one ⟨false,[.val (.int .i64 y0)]⟩⟩=>
 (match s.look 7 with
 |some ⟨none,.one ⟨false,[.ref 2624]⟩⟩=>
 (match s.ent 2624 with
 |some (.row true 83 (.pair (.int .i64) (.int .i64)) y1)=>
 some (y0,y1)
 |_=>none)
 |_=>none)
 |_=>none)
def kt:Lp oX where
 h:=⟨[113,114,117,118,119,120,7,115,116,9],[],[0],[]⟩
 JL:=adw
 JE:=adn
 XL:=adO
 XE:=adF
 q:=fun j=>match j with | _=> .exit 5
 tags:= [0]
 lt:=EZ
 fuel:=fun(y0,y1)=>y0.natAbs + y1.length
 fix:=fun(_,_) (y0,y1)=>(y0,y1)
 σ:= [(0,2624)]
 rd:=LC
theorem aa9:LoopOk prog (fun k=>Nat.blt k Tryz.f79.ntmps) kt.F (bV f79 2):=by
 refine Lp.ok (tbl:= (PF.parts prog::T3z [ao,kv,fF,aW])) (lf:= []) bG kt (by kernel_rfl) (LOk.nil _) (fun _=>rfl) (fun _ _=>rfl) ?_ ?_ ?_ ?_ (fun _=>rfl) ?_
 ·rintro⟨y0,y1⟩;kernel_rfl
 ·rintro⟨y0,y1⟩;kernel_rfl
 ·intro s x h
  have h:LC s=some x:=h
  unfold LC at h
  repeat' split at h
  all_goals cases h
  constructor<;>repeat(first|refine ab (by assumption) rfl ?_|refine aa rfl (by assumption) rfl ?_|exact rfl)
 ·rintro⟨y0,y1⟩;kernel_rfl
 ·rintro⟨y0,y1⟩ z;exact(And.intro rfl trivial)
section
variable (x0 x1:Int)(x2:List Int)
def ce:List (Int×Int):=lU (jm x0 x1 x2) (af x0 x1 x2) (bQ x0 x1 x2) (bY x0 x1 x2) (bZ x0 x1 x2) (br x0 x1 x2)
def cD:Int:=nxA (↑(j9 (ce x0 x1 x2)):Int) (nb x0 x1 x2) x2
def KZ:Int:=nxS (↑(j9 (ce x0 x1 x2)):Int) (nb x0 x1 x2) (oa x0 x1 x2) x2
def xX:Int:=nxV 20 (cD x0 x1 x2) (KZ x0 x1 x2) x2
def aI:Bool:=xX x0 x1 x2==0
def aY:Bool:=xX x0 x1 x2==1
def bp:Bool:=xX x0 x1 x2==2
def da:Bool:=xX x0 x1 x2==3
def je:Bool:=xX x0 x1 x2==4
def ko:Bool:=xX x0 x1 x2==5
def ey:Int:=nxS 20 (cD x0 x1 x2) (KZ x0 x1 x2) x2
def jW:Bool:=xX x0 x1 x2==6
def zu:List (Int×Int)×Int×Int×List Int:=(ce x0 x1 x2,nxA 20 (cD x0 x1 x2) x2,ey x0 x1 x2,x2)
def wn:Int×Int×List Int:=(Lp.res iX (zu x0 x1 x2)).2.2
def ez:Int:=nxV (↑(j9 (ce x0 x1 x2)):Int) (nb x0 x1 x2) (oa x0 x1 x2) x2
def Xq:Int×Int:=Option.getD (ce x0 x1 x2)[j8 (ez x0 x1 x2)]? ((0:Int),(0:Int))
def jX:List (Int×Int):=Js 0 (j8 (ez x0 x1 x2)) (ce x0 x1 x2)
def ta:Int:=v3 .i64 (ez x0 x1 x2 + (1:Int))
def Er:List (Int×Int):=Js (CTy.size ahF) (j8 (ta x0 x1 x2)) (ce x0 x1 x2)
def zw:List (Int×Int):=jX x0 x1 x2++ [((1:Int),(1:Int)),((4:Int),(0:Int)),((4:Int),(0:Int)),((9:Int),(0:Int))]
def Es:List (Int×Int):=Js (CTy.size ahF) (j8 (ez x0 x1 x2)) (ce x0 x1 x2)
def Jc:Int×List (Int×Int):=(v3 .i64 ((40:Int) + nxV 2 (nxA 20 (cD x0 x1 x2) x2) (ey x0 x1 x2) x2),[])
def Jd:List (Int×Int):=(Lp.res kr (Jc x0 x1 x2)).2.2
def Je:Int×List (Int×Int):=((↑(j9 (Jd x0 x1 x2)):Int),Jd x0 x1 x2)
def Et:List (Int×Int):=(Lp.res kt (Je x0 x1 x2)).2.2
def Eu:Bool:=aT (nxA 20 (cD x0 x1 x2) x2) (ey x0 x1 x2) x2
def PK:Bool:=ltI (ez x0 x1 x2) (↑(j9 (ce x0 x1 x2)):Int)
def PL:Bool:=ltN (j8 (ez x0 x1 x2)) (j9 (ce x0 x1 x2))
def PM:Bool:=leI (ez x0 x1 x2) (↑(j9 (ce x0 x1 x2)):Int)
def PN:Bool:=leN (j8 (ez x0 x1 x2)) (j9 (ce x0 x1 x2))
def PO:Bool:=leN (0 + j9 (jX x0 x1 x2)) 9223372036854775807
def PP:Bool:=leN ((0 + j9 (jX x0 x1 x2)) * 16) 140737488355328
def PQ:Bool:=aI x0 x1 x2||(aY x0 x1 x2||(bp x0 x1 x2||(!da x0 x1 x2||leI 0 (ez x0 x1 x2))))
def PR:Bool:=aI x0 x1 x2||(aY x0 x1 x2||(bp x0 x1 x2||(!da x0 x1 x2||PM x0 x1 x2)))
def PS:Bool:=aI x0 x1 x2||(aY x0 x1 x2||(bp x0 x1 x2||(!da x0 x1 x2||PN x0 x1 x2)))
def IB:Int:=bif aI x0 x1 x2 then cT (af x0 x1 x2) (bQ x0 x1 x2)else bif aY x0 x1 x2 then cT (af x0 x1 x2) (bQ x0 x1 x2)else bif bp x0 x1 x2 then cT (af x0 x1 x2) (bQ x0 x1 x2)else bif da x0 x1 x2 then cT (af x0 x1 x2) (bQ x0 x1 x2)else bif je x0 x1 x2 then cT (af x0 x1 x2) (bQ x0 x1 x2)else bif ko x0 x1 x2 then pkV (nxA 20 (cD x0 x1 x2) x2) (ey x0 x1 x2) [(-1:Int),(20:Int),(21:Int)] x2 else bif jW x0 x1 x2 then cT (af x0 x1 x2) (bQ x0 x1 x2)else cT (af x0 x1 x2) (bQ x0 x1 x2)
def En:Int:=bif aI x0 x1 x2 then cU (af x0 x1 x2) (bY x0 x1 x2)else bif aY x0 x1 x2 then cU (af x0 x1 x2) (bY x0 x1 x2)else bif bp x0 x1 x2 then cU (af x0 x1 x2) (bY x0 x1 x2)else bif da x0 x1 x2 then cU (af x0 x1 x2) (bY x0 x1 x2)else bif je x0 x1 x2 then cU (af x0 x1 x2) (bY x0 x1 x2)else bif ko x0 x1 x2 then cU (af x0 x1 x2) (bY x0 x1 x2)else bif jW x0 x1 x2 then cU (af x0 x1 x2) (bY x0 x1 x2)else cU (af x0 x1 x2) (bY x0 x1 x2)
def Eo:Int:=bif aI x0 x1 x2 then cV (af x0 x1 x2) (bZ x0 x1 x2)else bif aY x0 x1 x2 then cV (af x0 x1 x2) (bZ x0 x1 x2)else bif bp x0 x1 x2 then cV (af x0 x1 x2) (bZ x0 x1 x2)else bif da x0 x1 x2 then cV (af x0 x1 x2) (bZ x0 x1 x2)else bif je x0 x1 x2 then cV (af x0 x1 x2) (bZ x0 x1 x2)else bif ko x0 x1 x2 then cV (af x0 x1 x2) (bZ x0 x1 x2)else bif jW x0 x1 x2 then cV (af x0 x1 x2) (bZ x0 x1 x2)else cV (af x0 x1 x2) (bZ x0 x1 x2)
def IC:Int:=bif aI x0 x1 x2 then pkA (nxA 20 (cD x0 x1 x2) x2) [(0:Int),(1:Int),(2:Int),(3:Int),(4:Int),(5:Int),(12:Int)] x2 else bif aY x0 x1 x2 then pkA (nxA 20 (cD x0 x1 x2) x2) [(-1:Int),(0:Int),(1:Int),(2:Int),(9:Int)] x2 else bif bp x0 x1 x2 then nxA 20 (cD x0 x1 x2) x2 else bif da x0 x1 x2 then nxA 20 (cD x0 x1 x2) x2 else bif je x0 x1 x2 then BZ ((wn x0 x1 x2).1) x2 else bif ko x0 x1 x2 then pkA (nxA 20 (cD x0 x1 x2) x2) [(-1:Int),(20:Int),(21:Int)] x2 else bif jW x0 x1 x2 then nxA 2 (nxA 20 (cD x0 x1 x2) x2) x2 else nxA 20 (cD x0 x1 x2) x2
def ID:Int:=bif aI x0 x1 x2 then pkS (nxA 20 (cD x0 x1 x2) x2) (ey x0 x1 x2) [(0:Int),(1:Int),(2:Int),(3:Int),(4:Int),(5:Int),(12:Int)] x2 else bif aY x0 x1 x2 then pkS (nxA 20 (cD x0 x1 x2) x2) (ey x0 x1 x2) [(-1:Int),(0:Int),(1:Int),(2:Int),(9:Int)] x2 else bif bp x0 x1 x2 then ey x0 x1 x2 else bif da x0 x1 x2 then ey x0 x1 x2 else bif je x0 x1 x2 then Ca ((wn x0 x1 x2).1) (((wn x0 x1 x2).2).1) x2 else bif ko x0 x1 x2 then pkS (nxA 20 (cD x0 x1 x2) x2) (ey x0 x1 x2) [(-1:Int),(20:Int),(21:Int)] x2 else bif jW x0 x1 x2 then nxS 2 (nxA 20 (cD x0 x1 x2) x2) (ey x0 x1 x2) x2 else ey x0 x1 x2
def Ep:List (Int×(alV×Int)):=bif aI x0 x1 x2 then cW (af x0 x1 x2) (br x0 x1 x2)else bif aY x0 x1 x2 then cW (af x0 x1 x2) (br x0 x1 x2)else bif bp x0 x1 x2 then cW (af x0 x1 x2) (br x0 x1 x2)else bif da x0 x1 x2 then cW (af x0 x1 x2) (br x0 x1 x2)else bif je x0 x1 x2 then cW (af x0 x1 x2) (br x0 x1 x2)else bif ko x0 x1 x2 then cW (af x0 x1 x2) (br x0 x1 x2)else bif jW x0 x1 x2 then cW (af x0 x1 x2) (br x0 x1 x2)else cW (af x0 x1 x2) (br x0 x1 x2)
def IE:List (Int×Int):=bif aI x0 x1 x2 then List.set (ce x0 x1 x2) (j8 (ez x0 x1 x2)) (pkV (nxA 20 (cD x0 x1 x2) x2) (ey x0 x1 x2) [(0:Int),(1:Int),(2:Int),(3:Int),(4:Int),(5:Int),(12:Int)] x2,(Xq x0 x1 x2).2)else bif aY x0 x1 x2 then List.set (ce x0 x1 x2) (j8 (ez x0 x1 x2)) ((Xq x0 x1 x2).1,pkV (nxA 20 (cD x0 x1 x2) x2) (ey x0 x1 x2) [(-1:Int),(0:Int),(1:Int),(2:Int),(9:Int)] x2)else bif bp x0 x1 x2 then jX x0 x1 x2++Er x0 x1 x2 else bif da x0 x1 x2 then zw x0 x1 x2++Es x0 x1 x2 else bif je x0 x1 x2 then ((Lp.res iX (zu x0 x1 x2)).2).1else bif ko x0 x1 x2 then ce x0 x1 x2 else bif jW x0 x1 x2 then Et x0 x1 x2++ [((9:Int),(0:Int))]else ce x0 x1 x2
def TO:Bool:=allT [aT x0 x1 x2,prD (jm x0 x1 x2) (bQ x0 x1 x2) (bY x0 x1 x2) (bZ x0 x1 x2) (af x0 x1 x2) (br x0 x1 x2),leN (0 + j9 (ce x0 x1 x2)) 9223372036854775807,leN ((0 + j9 (ce x0 x1 x2)) * 16) 140737488355328,aT (nb x0 x1 x2) (oa x0 x1 x2) x2,aT (cD x0 x1 x2) (KZ x0 x1 x2) x2,!aI x0 x1 x2||Eu x0 x1 x2&&leN 1 (j9 [(0:Int),(1:Int),(2:Int),(3:Int),(4:Int),(5:Int),(12:Int)]),!aI x0 x1 x2||leI 0 (ez x0 x1 x2),!aI x0 x1 x2||PK x0 x1 x2,!aI x0 x1 x2||PL x0 x1 x2,aI x0 x1 x2||(!aY x0 x1 x2||Eu x0 x1 x2&&leN 1 (j9 [(-1:Int),(0:Int),(1:Int),(2:Int),(9:Int)])),aI x0 x1 x2||(!aY x0 x1 x2||leI 0 (ez x0 x1 x2)),aI x0 x1 x2||(!aY x0 x1 x2||PK x0 x1 x2),aI x0 x1 x2||(!aY x0 x1 x2||PL x0 x1 x2),aI x0 x1 x2||(aY x0 x1 x2||(!bp x0 x1 x2||leI 0 (ez x0 x1 x2))),aI x0 x1 x2||(aY x0 x1 x2||(!bp x0 x1 x2||PM x0 x1 x2)),aI x0 x1 x2||(aY x0 x1 x2||(!bp x0 x1 x2||PN x0 x1 x2)),aI x0 x1 x2||(aY x0 x1 x2||(!bp x0 x1 x2||PO x0 x1 x2)),aI x0 x1 x2||(aY x0 x1 x2||(!bp x0 x1 x2||PP x0 x1 x2)),aI x0 x1 x2||(aY x0 x1 x2||(!bp x0 x1 x2||leI 0 (ta x0 x1 x2))),aI x0 x1 x2||(aY x0 x1 x2||(!bp x0 x1 x2||leI (ta x0 x1 x2) (↑(j9 (ce x0 x1 x2)):Int))),aI x0 x1 x2||(aY x0 x1 x2||(!bp x0 x1 x2||leN (j8 (ta x0 x1 x2)) (j9 (ce x0 x1 x2)))),aI x0 x1 x2||(aY x0 x1 x2||(!bp x0 x1 x2||leN (j9 (jX x0 x1 x2) + j9 (Er x0 x1 x2)) 9223372036854775807)),aI x0 x1 x2||(aY x0 x1 x2||(!bp x0 x1 x2||leN ((j9 (jX x0 x1 x2) + j9 (Er x0 x1 x2)) * 16) 140737488355328)),PQ x0 x1 x2,PR x0 x1 x2,PS x0 x1 x2,aI x0 x1 x2||(aY x0 x1 x2||(bp x0 x1 x2||(!da x0 x1 x2||PO x0 x1 x2))),aI x0 x1 x2||(aY x0 x1 x2||(bp x0 x1 x2||(!da x0 x1 x2||PP x0 x1 x2))),aI x0 x1 x2||(aY x0 x1 x2||(bp x0 x1 x2||(!da x0 x1 x2||leN (j9 (jX x0 x1 x2) + j9 [((1:Int),(1:Int)),((4:Int),(0:Int)),((4:Int),(0:Int)),((9:Int),(0:Int))]) 9223372036854775807))),aI x0 x1 x2||(aY x0 x1 x2||(bp x0 x1 x2||(!da x0 x1 x2||leN ((j9 (jX x0 x1 x2) + j9 [((1:Int),(1:Int)),((4:Int),(0:Int)),((4:Int),(0:Int)),((9:Int),(0:Int))]) * 16) 140737488355328))),PQ x0 x1 x2,PR x0 x1 x2,PS x0 x1 x2,aI x0 x1 x2||(aY x0 x1 x2||(bp x0 x1 x2||(!da x0 x1 x2||leN (j9 (zw x0 x1 x2) + j9 (Es x0 x1 x2)) 9223372036854775807))),aI x0 x1 x2||(aY x0 x1 x2||(bp x0 x1 x2||(!da x0 x1 x2||leN ((j9 (zw x0 x1 x2) + j9 (Es x0 x1 x2)) * 16) 140737488355328))),aI x0 x1 x2||(aY x0 x1 x2||(bp x0 x1 x2||(da x0 x1 x2||(!je x0 x1 x2||Lp.fin iX (zu x0 x1 x2))))),aI x0 x1 x2||(aY x0 x1 x2||(bp x0 x1 x2||(da x0 x1 x2||(je x0 x1 x2||(!ko x0 x1 x2||Eu x0 x1 x2&&leN 1 (j9 [(-1:Int),(20:Int),(21:Int)])))))),aI x0 x1 x2||(aY x0 x1 x2||(bp x0 x1 x2||(da x0 x1 x2||(je x0 x1 x2||(ko x0 x1 x2||(!jW x0 x1 x2||Eu x0 x1 x2)))))),aI x0 x1 x2||(aY x0 x1 x2||(bp x0 x1 x2||(da x0 x1 x2||(je x0 x1 x2||(ko x0 x1 x2||(!jW x0 x1 x2||Lp.fin kr (Jc x0 x1 x2))))))),aI x0 x1 x2||(aY x0 x1 x2||(bp x0 x1 x2||(da x0 x1 x2||(je x0 x1 x2||(ko x0 x1 x2||(!jW x0 x1 x2||Lp.fin kt (Je x0 x1 x2))))))),aI x0 x1 x2||(aY x0 x1 x2||(bp x0 x1 x2||(da x0 x1 x2||(je x0 x1 x2||(ko x0 x1 x2||(!jW x0 x1 x2||leN (j9 (Et x0 x1 x2) + j9 [((9:Int),(0:Int))]) 9223372036854775807)))))),aI x0 x1 x2||(aY x0 x1 x2||(bp x0 x1 x2||(da x0 x1 x2||(je x0 x1 x2||(ko x0 x1 x2||(!jW x0 x1 x2||leN ((j9 (Et x0 x1 x2) + j9 [((9:Int),(0:Int))]) * 16) 140737488355328))))))]
end
def aae:List SV→List Entry→Option Out
 | [.one ⟨false,[.ptr 0 0]⟩],[.box 113 [.ref 1,.val (.int .i64 x0),.val (.int .i64 x1)],.row false 5 (.int .u8) x2]=>some ⟨.one ⟨true,[.val (.int .i64 (IB x0 x1 x2)),.val (.int .i64 (En x0 x1 x2)),.val (.int .i64 (Eo x0 x1 x2)),.ref 2,.ref 3]⟩,[.box 113 [.ref 1,.val (.int .i64 (IC x0 x1 x2)),.val (.int .i64 (ID x0 x1 x2))],.row false 5 ake x2],[.row true 122 afs (Ep x0 x1 x2),.row true 83 ahF (IE x0 x1 x2)],[TO x0 x1 x2]⟩
 |_,_=>none
def ajc:PF prog:=PF.ofG prog (PF.parts prog::T3z [ao,kv,fF,aW]) [iX.F,kr.F,kt.F] bG 79 f79 func79 (LOk.fnT (l:= [bV f79 0,bV f79 1,bV f79 2]) (by kernel_rfl) (.cons aa7 (.cons aa8 (.cons aa9 (.nil _))))) aae (by
 intro vs es r h;unfold aae at h;split at h
 ·cases h;kernel_rfl
 ·cases h)
section
variable (x0 x1 x2:Int)(x3:List (Int×alV×Int))(x4:List (Int×Int))
def zR:Int:=bif !eR x0 x1 x2 x3 x4 then(0:Int)else x0
def zS:Int:=bif !eR x0 x1 x2 x3 x4 then(0:Int)else x1
def zT:Int:=bif !eR x0 x1 x2 x3 x4 then(0:Int)else x2
def SY:Int:=bif !eR x0 x1 x2 x3 x4 then(1:Int)else(0:Int)
def zU:List (Int×(alV×Int)):=bif !eR x0 x1 x2 x3 x4 then []else x3
def zV:List (Int×Int):=bif !eR x0 x1 x2 x3 x4 then []else imV (j9 x4 + 1) x4
def LE:Bool:=allT [ZM x3,!eR x0 x1 x2 x3 x4||leN (0 + j9 x3) 9223372036854775807,!eR x0 x1 x2 x3 x4||leN ((0 + j9 x3) * 32) 140737488355328,!eR x0 x1 x2 x3 x4||leN x4.length (1000000:Nat)]
end
def Sf:List SV→List Entry→Option Out
 | [.one ⟨true,[.val (.int .i64 x0),.val (.int .i64 x1),.val (.int .i64 x2),.ref 0,.ref 1]⟩],[.row false 122 (.pair (.int .i64) (.pair (.str) (.int .i64))) x3,.row false 83 (.pair (.int .i64) (.int .i64)) x4]=>some ⟨.tup [⟨true,[.val (.int .i64 (zR x0 x1 x2 x3 x4)),.val (.int .i64 (zS x0 x1 x2 x3 x4)),.val (.int .i64 (zT x0 x1 x2 x3 x4)),.ref 2,.ref 3]⟩,⟨false,[.val (.int .i64 (SY x0 x1 x2 x3 x4))]⟩],[.row false 122 afs x3,.row false 83 ahF x4],[.row true 122 afs (zU x0 x1 x2 x3 x4),.row true 83 ahF (zV x0 x1 x2 x3 x4)],[LE x0 x1 x2 x3 x4]⟩
 |_,_=>none
def aec:PF prog:=PF.ofG prog (T3z [MV,mg]) [] bG 121 f121 func121 (fun c _=>LOk.nil c) Sf (by
 intro vs es r h;unfold Sf at h;split at h
 ·cases h;kernel_rfl
 ·cases h)
theorem aqs{m n:Nat}(h:m≤1000001):m≤big n:=by
 rw [amU]
 exact Nat.le_trans (Nat.le_trans h (show 1000001≤1000 ^ 4 by decide)) (Nat.pow_le_pow_left (by omega) 4)
theorem Lp.inv3{X:Type}(p:Lp X)(I:Nat→X→Prop)(Q:X→Prop)(hs: ∀ k x,I (k + 1) x→(p.lt x).ok (I k) (fun _=>Q x))(he: ∀ x,I 0 x→(p.lt x).ok (fun _=>False) (fun _=>Q x))
  (N:Nat) (x:X) (hN:N≤1000000) (h:I N x):p.fin x=true∧ ∃ j y,p.res x=(j,y)∧Q y:=by
 have my: ∀ (k:Nat) (x:X),I k x→ ∃ j y,JP p.lt (k + 1) x=some (j,y)∧Q y:=by
  intro k
  induction k with
  |zero=>
   intro x h
   rcases LT.ok_out (he x h)with⟨j,h1,h2⟩ | ⟨_,_,h⟩
   ·exact⟨j,x,FM _ h1,h2⟩
   ·exact h.elim
  |succ k ih=>
   intro x h
   rcases LT.ok_out (hs k x h)with⟨j,h1,h2⟩ | ⟨y,h1,h2⟩
   ·exact⟨j,x,FM _ h1,h2⟩
   ·obtain⟨j,z,h3,h4⟩:=ih y h2
    exact⟨j,z,by rw [Px _ h1];exact h3,h4⟩
 obtain⟨j,y,h1,h2⟩:=my N x h
 obtain⟨r1,r2⟩:=p.run h1 (aqs (by omega))
 exact⟨r1,j,y,r2,h2⟩
theorem ajf{α:Type}(z k:Nat)(l:List α):(Js z k l).length≤l.length:=by
 simp only [Js]
 exact fo (by rw [List.length_take];omega) (by rw [List.length_drop];omega)
theorem alX(x0 x1 x2:Int)(x3:List TM)(x4:List IN)(h:cdD x0 x1 x2 x3 x4=true):
  LE x0 x1 x2 x3 x4=true∧cdD (zR x0 x1 x2 x3 x4) (zS x0 x1 x2 x3 x4) (zT x0 x1 x2 x3 x4) (zU x0 x1 x2 x3 x4) (zV x0 x1 x2 x3 x4)=true:=by
 obtain⟨h0,h1,h2,⟨h3,h4⟩,h5⟩:=RM.1 h
 have ht:ZM x3=true:=af2.2 ⟨by omega,fun t ht=>by have:=h4 t ht;omega⟩
 have b1:leN (0 + x3.length) 9223372036854775807=true:=aR (by omega)
 have b2:leN ((0 + x3.length) * 32) 140737488355328=true:=aR (by omega)
 have b3:leN x4.length 1000000=true:=aR (by omega)
 have hi:=aoh (x4.length + 1) x4 (Nat.le_refl _) (by omega)
 refine⟨by simp only [LE,ht,b1,b2,b3,allT,w8,cond_true],?_⟩
 simp only [zR,zS,zT,zU,zV]
 cases eR x0 x1 x2 x3 x4 <;> simp only [Bool.not_false,Bool.not_true,cond_true,cond_false]
 ·exact RM.2 ⟨by decide,by decide,by decide,⟨by simp,fun t ht=>(List.not_mem_nil ht).elim⟩,by simp⟩
 ·exact RM.2 ⟨h0,h1,h2,⟨h3,h4⟩,by omega⟩
def So:List SV→List Entry→Option Out
 | [.one ⟨true,[.val (.int .i64 x0),.val (.int .i64 x1),.val (.int .i64 x2),.ref 0,.ref 1]⟩],[.row false 122 (.pair (.int .i64) (.pair (.str) (.int .i64))) x3,.row false 83 (.pair (.int .i64) (.int .i64)) x4]=>some ⟨.tup [⟨true,[.val (.int .i64 (zR x0 x1 x2 x3 x4)),.val (.int .i64 (zS x0 x1 x2 x3 x4)),.val (.int .i64 (zT x0 x1 x2 x3 x4)),.ref 2,.ref 3]⟩,⟨false,[.val (.int .i64 (SY x0 x1 x2 x3 x4))]⟩],[.row false 122 afs x3,.row false 83 ahF x4],[.row true 122 afs (zU x0 x1 x2 x3 x4),.row true 83 ahF (zV x0 x1 x2 x3 x4)],[cdD x0 x1 x2 x3 x4]⟩
 |_,_=>none
def Lr:PF prog:=PF.alt aec So (by
 intro args es o h cf;unfold So at h;split at h
 ·rename_i x0 x1 x2 x3 x4
  cases h
  have cf:=iw cf
  have hh:=(alX x0 x1 x2 x3 x4 cf).1
  have en:=hh
  exact mK rfl (gE en) rfl rfl rfl
 ·cases h)
 attribute [local irreducible] nxA nxS nxV pkA pkS pkV
theorem abB(c:List Int)(x:oV)(hx:match x with | (y0,y1,y2,y3)=>2002≤y0.length + (2002:Nat)∧aT y1 y2 y3=true∧y0.length + (2002:Nat)≤13000∧y3=c):
  iX.fin x=true∧ ∃ j y,iX.res x=(j,y)∧(match y with | (y0,y1,y2,y3)=>aT y1 y2 c=true∧y0.length≤13000∧c=y3):=by
 refine iX.inv3 (fun k x=>match x with | (y0,y1,y2,y3)=>2002≤y0.length + k∧aT y1 y2 y3=true∧y0.length + k≤13000∧y3=c) (fun y=>match y with | (y0,y1,y2,y3)=>aT y1 y2 c=true∧y0.length≤13000∧c=y3) (fun k x hx=> ?_) (fun x hx=> ?_) 2002 x (by omega) hx
 ·obtain⟨y0,y1,y2,y3⟩:=x
  obtain⟨h0,h1,h2,rfl⟩:=hx
  have o1: [((10:Int),(0:Int))].length=1:=rfl
  have p0:NS y1 y2 y3=true:=h1
  have p2:Vf y0=true:=aR (by rw [o1];omega)
  have p3:Vg y0=true:=aR (by rw [o1];omega)
  have l4:(NU y0).length=y0.length + 1:=by simp only [NU,w7,o1]
  have s7:aT (BZ y1 y3) (Ca y1 y2 y3) y3=true:=kz h1
  simp only [iX,Lq,LT.ok,HH,HI,and_true,true_and,p0,p2,p3]
  exact⟨fun _=>⟨by omega,s7,by omega⟩,fun _=>⟨h1,by omega⟩⟩
 ·obtain⟨y0,y1,y2,y3⟩:=x
  obtain⟨h0,h1,h2,rfl⟩:=hx
  have nn:=OB (n:=2) h1 (by omega)
  have hw:IntKind.i64.wrap (2000 + nxV 2 y1 y2 y3)=2000 + nxV 2 y1 y2 y3:=aJ (by omega) (by omega)
  have e1:NT y0 y1 y2 y3=false:=by simp only [NT,hw];exact wO (by omega)
  have p0:NS y1 y2 y3=true:=h1
  simp only [iX,Lq,LT.ok,HH,HI,and_true,true_and,p0,e1,Bool.false_eq_true,false_implies,true_implies]
  exact⟨h1,by omega⟩
theorem abC(x:oW)(hx:match x with | (y0,y1)=>y0≤((45:Nat):Int) + 0∧0≤y0∧y1.length + (45:Nat)≤50):
  kr.fin x=true∧ ∃ j y,kr.res x=(j,y)∧(match y with | (y0,y1)=>y1.length≤50):=by
 refine kr.inv3 (fun k x=>match x with | (y0,y1)=>y0≤(k:Int) + 0∧0≤y0∧y1.length + k≤50) (fun y=>match y with | (y0,y1)=>y1.length≤50) (fun k x hx=> ?_) (fun x hx=> ?_) 45 x (by omega) hx
 ·obtain⟨y0,y1⟩:=x
  obtain⟨h0,h1,h2⟩:=hx
  have o1: [((1:Int),(0:Int))].length=1:=rfl
  have p1:Vh y1=true:=aR (by rw [o1];omega)
  have p2:Vi y1=true:=aR (by rw [o1];omega)
  have l4:(NW y1).length=y1.length + 1:=by simp only [NW,w7,o1]
  cases ht:NV y0 with
  |false=>
   simp only [kr,EY,LT.ok,ht,Bool.false_eq_true,false_implies,true_implies,true_and,and_true]
   omega
  |true=>
   have eQ:0 < y0:=GX.1 ht
   have w:Vj y0=y0 - 1:=aJ (by omega) (by omega)
   simp only [kr,EY,LT.ok,HH,HI,and_true,true_and,ht,p1,p2,Bool.false_eq_true,reduceCtorEq,false_implies,true_implies]
   exact⟨by omega,by omega,by omega⟩
 ·obtain⟨y0,y1⟩:=x
  obtain⟨h0,h1,h2⟩:=hx
  have ht:NV y0=false:=wO (by omega)
  simp only [kr,EY,LT.ok,ht,Bool.false_eq_true,false_implies,true_implies,true_and,and_true]
  omega
theorem abD(x:oX)(hx:match x with | (y0,y1)=>y0≤((60:Nat):Int) + 1∧0≤y0∧y1.length + (60:Nat)≤120):
  kt.fin x=true∧ ∃ j y,kt.res x=(j,y)∧(match y with | (y0,y1)=>y1.length≤120):=by
 refine kt.inv3 (fun k x=>match x with | (y0,y1)=>y0≤(k:Int) + 1∧0≤y0∧y1.length + k≤120) (fun y=>match y with | (y0,y1)=>y1.length≤120) (fun k x hx=> ?_) (fun x hx=> ?_) 60 x (by omega) hx
 ·obtain⟨y0,y1⟩:=x
  obtain⟨h0,h1,h2⟩:=hx
  have o1: [((6:Int),(0:Int))].length=1:=rfl
  have p1:Vk y1=true:=aR (by rw [o1];omega)
  have p2:Vl y1=true:=aR (by rw [o1];omega)
  have l4:(NY y1).length=y1.length + 1:=by simp only [NY,w7,o1]
  cases ht:NX y0 with
  |false=>
   simp only [kt,EZ,LT.ok,ht,Bool.false_eq_true,false_implies,true_implies,true_and,and_true]
   omega
  |true=>
   have eQ:1 < y0:=GX.1 ht
   have w:Vm y0=y0 - 1:=aJ (by omega) (by omega)
   simp only [kt,EZ,LT.ok,HH,HI,and_true,true_and,ht,p1,p2,Bool.false_eq_true,reduceCtorEq,false_implies,true_implies]
   exact⟨by omega,by omega,by omega⟩
 ·obtain⟨y0,y1⟩:=x
  obtain⟨h0,h1,h2⟩:=hx
  have ht:NX y0=false:=wO (by omega)
  simp only [kt,EZ,LT.ok,ht,Bool.false_eq_true,false_implies,true_implies,true_and,and_true]
  omega
theorem Ve(x0 x1:Int)(x2:List Int)(h:aT x0 x1 x2=true):
  TO x0 x1 x2=true∧aT (IC x0 x1 x2) (ID x0 x1 x2) x2=true∧cdD (IB x0 x1 x2) (En x0 x1 x2) (Eo x0 x1 x2) (Ep x0 x1 x2) (IE x0 x1 x2)=true:=by
 obtain⟨_,s0,⟨hp,_⟩,l7,_⟩:=NB x0 x1 x2 h
 obtain⟨_,hcd,⟨c1,c2⟩,c3⟩:=IA _ _ _ _ _ _ hp
 have c1:(ce x0 x1 x2).length≤10101:=c1
 have c2:1≤(ce x0 x1 x2).length:=Nat.le_trans l7 c2
 obtain⟨k0,k1,k2,k3,_⟩:=RM.1 hcd
 obtain⟨i0,i1⟩:0≤ez x0 x1 x2∧ez x0 x1 x2 < ((ce x0 x1 x2).length:Int):=OB s0 (by omega)
 have s1:aT (cD x0 x1 x2) (KZ x0 x1 x2) x2=true:=kz s0
 have s2:aT (nxA 20 (cD x0 x1 x2) x2) (ey x0 x1 x2) x2=true:=kz s1
 have p25:Eu x0 x1 x2=true:=s2
 have w17:ta x0 x1 x2=ez x0 x1 x2 + 1:=aJ (by omega) (by omega)
 have p26:PK x0 x1 x2=true:=cS i1
 have p27:PL x0 x1 x2=true:=dI (by omega)
 have p28:PM x0 x1 x2=true:=bu (by omega)
 have p29:PN x0 x1 x2=true:=aR (by omega)
 have l16:(jX x0 x1 x2).length≤(ce x0 x1 x2).length:=ajf _ _ _
 have l18:(Er x0 x1 x2).length≤(ce x0 x1 x2).length:=ajf _ _ _
 have l20:(Es x0 x1 x2).length≤(ce x0 x1 x2).length:=ajf _ _ _
 have l19:(zw x0 x1 x2).length=(jX x0 x1 x2).length + 4:=by simp only [zw,w7];rfl
 obtain⟨f0,j0,⟨z0,z1,z2,z3⟩,g0,q1,q2,q3⟩:=abB x2 (zu x0 x1 x2) (by
  simp only [zu]
  exact⟨by omega,s2,by omega,trivial⟩)
 have e1:(wn x0 x1 x2).1=z1:=by simp only [wn,g0]
 have e2:((wn x0 x1 x2).2).1=z2:=by simp only [wn,g0]
 have e0:((Lp.res iX (zu x0 x1 x2)).2).1=z0:=by rw [g0]
 have n2:=OB (n:=2) s2 (by omega)
 have w40:IntKind.i64.wrap (40 + nxV 2 (nxA 20 (cD x0 x1 x2) x2) (ey x0 x1 x2) x2)=40 + nxV 2 (nxA 20 (cD x0 x1 x2) x2) (ey x0 x1 x2) x2:=aJ (by omega) (by omega)
 obtain⟨f1,j1,⟨u0,u1⟩,g1,r1⟩:=abC (Jc x0 x1 x2) (by
  simp only [Jc,w40]
  exact⟨by omega,by omega,by simp⟩)
 have e22:Jd x0 x1 x2=u1:=by simp only [Jd,g1]
 obtain⟨f2,j2,⟨t0,t1⟩,g2,r2⟩:=abD (Je x0 x1 x2) (by
  simp only [Je,e22]
  exact⟨by omega,by omega,by omega⟩)
 have e24:Et x0 x1 x2=t1:=by simp only [Et,g2]
 refine⟨?_,?_,?_⟩
 ·have q5:leI 0 (ez x0 x1 x2)=true:=bu i0
  have q6:leI 0 (ta x0 x1 x2)=true:=bu (by omega)
  have q7:leI (ta x0 x1 x2) ((ce x0 x1 x2).length:Int)=true:=bu (by omega)
  have q8:leN (ta x0 x1 x2).toNat (ce x0 x1 x2).length=true:=aR (by omega)
  have b: ∀ (i j:Nat),i≤100000→j≤100000→leN (i + j) 9223372036854775807=true∧leN ((i + j) * 16) 140737488355328=true:=fun i j hi hj=>⟨aR (by omega),aR (by omega)⟩
  obtain⟨b1,b2⟩:=b 0 (ce x0 x1 x2).length (by omega) (by omega)
  obtain⟨b3,b4⟩:=b 0 (jX x0 x1 x2).length (by omega) (by omega)
  have p30:PO x0 x1 x2=true:=b3
  have p31:PP x0 x1 x2=true:=b4
  obtain⟨b5,b6⟩:=b (jX x0 x1 x2).length (Er x0 x1 x2).length (by omega) (by omega)
  obtain⟨b7,b8⟩:=b (jX x0 x1 x2).length ([((1:Int),(1:Int)),((4:Int),(0:Int)),((4:Int),(0:Int)),((9:Int),(0:Int))]:List IN).length (by omega) (by decide)
  obtain⟨b9,b10⟩:=b (zw x0 x1 x2).length (Es x0 x1 x2).length (by omega) (by omega)
  obtain⟨b11,b12⟩:=b t1.length ([((9:Int),(0:Int))]:List IN).length (by omega) (by decide)
  have p32:PQ x0 x1 x2=true:=se (se (se (se q5)))
  have p33:PR x0 x1 x2=true:=se (se (se (se p28)))
  have p34:PS x0 x1 x2=true:=se (se (se (se p29)))
  have d1:leN 1 (j9 [(0:Int),1,2,3,4,5,12])=true:=rfl
  have d2:leN 1 (j9 [(-1:Int),0,1,2,9])=true:=rfl
  have d3:leN 1 (j9 [(-1:Int),20,21])=true:=rfl
  simp only [TO,h,hp,s0,s1,s2,p25,p26,p27,p28,p29,p30,p31,p32,p33,p34,q5,q6,q7,q8,b1,b2,b5,b6,b7,b8,b9,b10,b11,b12,d1,d2,d3,e24,f0,f1,f2,allT,w8,Bool.and_self,cond_true]
 ·simp only [IC,ID,e1,e2,BZ,Ca]
  exact pk (Ot s2) (pk (Ot s2) (pk s2 (pk s2 (pk (kz q1) (pk (Ot s2) (pk (kz s2) s2))))))
 ·have hi: -1≤pkV (nxA 20 (cD x0 x1 x2) x2) (ey x0 x1 x2) [(-1:Int),20,21] x2∧pkV (nxA 20 (cD x0 x1 x2) x2) (ey x0 x1 x2) [(-1:Int),20,21] x2≤60:=by
   have:=(alc (l:= [(-1:Int),20,21]) (by rw [s2];rfl)).2.2
   simp only [List.mem_cons,List.not_mem_nil,or_false]at this
   rcases this with e | e | e <;> rw [e] <;> decide
  have e5:Ep x0 x1 x2=cW (af x0 x1 x2) (br x0 x1 x2):=by simp only [Ep,w9]
  have e1':En x0 x1 x2=cU (af x0 x1 x2) (bY x0 x1 x2):=by simp only [En,w9]
  have e2':Eo x0 x1 x2=cV (af x0 x1 x2) (bZ x0 x1 x2):=by simp only [Eo,w9]
  rw [e5,e1',e2']
  refine RM.2 ⟨?_,k1,k2,k3,?_⟩
  ·simp only [IB]
   cases aI x0 x1 x2 <;> cases aY x0 x1 x2 <;> cases bp x0 x1 x2 <;> cases da x0 x1 x2 <;> cases je x0 x1 x2 <;> cases ko x0 x1 x2 <;> cases jW x0 x1 x2 <;> first | exact k0 | exact hi
  ·simp only [IE,e0,e24]
   refine fo (by rw [List.length_set];omega) (fo (by rw [List.length_set];omega) (fo (by rw [w7];omega) (fo (by rw [w7];omega) (fo (by omega) (fo (by omega) (fo (by rw [w7,w5];omega) (by omega)))))))
def aaC:List SV→List Entry→Option Out
 | [.one ⟨false,[.ptr 0 0]⟩],[.box 113 [.ref 1,.val (.int .i64 x0),.val (.int .i64 x1)],.row false 5 (.int .u8) x2]=>some ⟨.one ⟨true,[.val (.int .i64 (IB x0 x1 x2)),.val (.int .i64 (En x0 x1 x2)),.val (.int .i64 (Eo x0 x1 x2)),.ref 2,.ref 3]⟩,[.box 113 [.ref 1,.val (.int .i64 (IC x0 x1 x2)),.val (.int .i64 (ID x0 x1 x2))],.row false 5 ake x2],[.row true 122 afs (Ep x0 x1 x2),.row true 83 ahF (IE x0 x1 x2)],[aT x0 x1 x2]⟩
 |_,_=>none
def SK:PF prog:=PF.alt ajc aaC (by
 intro args es o h cf;unfold aaC at h;split at h
 ·rename_i x0 x1 x2
  cases h
  have cf:=iw cf
  have hh:=(Ve x0 x1 x2 cf).1
  have en:=hh
  exact mK rfl (gE en) rfl rfl rfl
 ·cases h)
end Go.SX
namespace Go.SX
open Go.Proofs Go.Proofs.Tryz
set_option maxRecDepth 100000
theorem app(i v o:Int)(bs:List TM)(st:List IN):lm [] i v o bs st=false∧ln [] i v o bs st=true:=by
 obtain⟨f0,j,y,g0,rfl,rfl⟩:=cI.inv (fun _ y=>y=((0:Int),(0:Int),i,v,o,[],bs,st)) (fun j y=>j=1∧y=((0:Int),(0:Int),i,v,o,[],bs,st)) (fun k x hx=> .inl ⟨1,by subst hx;rfl,rfl,hx⟩) (fun x hx=>⟨1,by subst hx;rfl,rfl,hx⟩) 0 _ (by omega) rfl
 have e0:ml [] i v o bs st=((0:Int),(0:Int),i,v,o,[],bs,st):=rfl
 simp only [lm,ln,qY,qZ,fh,e0,f0,g0,allT,cond_true,and_true]
 rfl
def mcC(i v o:Int)(bs:List TM)(st:List IN)(k:Int)(stk xs os:List Int)(ss:List BS3):Int:=bif !eR i v o bs st then 1 else bif !IL i v o bs st k stk xs os ss then 2 else 0
def mcN(bs:List TM)(stk xs os:List Int):Bool:=ZM bs&&(leN stk.length 1048576&&(leN xs.length 1048576&&leN os.length 1048576))
def lfV(i v o:Int)(bs:List TM)(st:List IN)(k:Int)(stk xs os:List Int)(ss:List BS3):Int:=bif mcC i v o bs st k stk xs os ss==0 then(st.length:Int) - k else 0
theorem ak3{bs:List TM}{stk xs os:List Int}:mcN bs stk xs os=true↔ZM bs=true∧stk.length≤1048576∧xs.length≤1048576∧os.length≤1048576:=by simp only [mcN,q9,iv]
theorem afA(i v o:Int)(bs:List TM)(st:List IN)(k:Int)(stk xs os:List Int)(ss:List BS3):
  (eR i v o bs st=false∧mcC i v o bs st k stk xs os ss=1)∨(eR i v o bs st=true∧IL i v o bs st k stk xs os ss=false∧mcC i v o bs st k stk xs os ss=2)∨
  (eR i v o bs st=true∧IL i v o bs st k stk xs os ss=true∧mcC i v o bs st k stk xs os ss=0):=by
 simp only [mcC]
 cases eR i v o bs st <;> cases IL i v o bs st k stk xs os ss <;> simp
theorem agx{i v o:Int}{bs:List TM}{st:List IN}{stk xs os:List Int}(hC:eR i v o bs st=true)(h:mcN bs stk xs os=true):pNd i v o bs st stk xs os=true:=by
 obtain⟨_,h1,h2,h3⟩:=ak3.1 h
 simp only [pNd,hC,aR (show stk.length≤9223372036854775807 by omega),aR (show xs.length≤9223372036854775807 by omega),aR (show os.length≤9223372036854775807 by omega),Bool.and_self]
theorem aiM(i v o:Int)(bs:List TM)(st:List IN)(k:Int)(stk xs os:List Int)(ss:List BS3)(h:mcN bs stk xs os=true):
  oj i v o k bs st stk xs os ss=mcC i v o bs st k stk xs os ss∧rR i v o k bs st stk xs os ss=true:=by
 have e1:uX i v o k bs st stk xs os ss= []:=by simp only [uX,w9]
 obtain⟨c0,c4⟩:=app i v o bs st
 simp only [oj,rR,e1,c0,c4,allT]
 rcases afA i v o bs st k stk xs os ss with⟨h1,h2⟩ | ⟨h1,h3,h2⟩ | ⟨h1,h3,h2⟩
 ·simp only [h1,h2,Bool.not_false,Bool.true_or,cond_true,and_self]
 ·simp only [h1,h2,h3,agx h1 h,Bool.not_false,Bool.not_true,w8,cond_true,cond_false,and_self]
 ·simp only [h1,h2,h3,agx h1 h,Bool.not_true,w8,cond_true,cond_false,and_self]
theorem aoT(i v o:Int)(bs:List TM)(st:List IN)(k:Int)(stk xs os:List Int)(ss:List BS3)(h:mcN bs stk xs os=true):
  VJ i v o k bs st stk xs os ss=lfV i v o bs st k stk xs os ss∧VK i v o k bs st stk xs os ss=mcC i v o bs st k stk xs os ss∧VL i v o k bs st stk xs os ss=true:=by
 obtain⟨c0,c1⟩:=aiM i v o bs st k stk xs os ss h
 simp only [VJ,VK,VL,Sz,c0,c1,lfV,allT]
 rcases afA i v o bs st k stk xs os ss with⟨h1,h2⟩ | ⟨h1,h3,h2⟩ | ⟨h1,h3,h2⟩
 ·rw [h2];exact⟨rfl,rfl,rfl⟩
 ·rw [h2];exact⟨rfl,rfl,rfl⟩
 ·rw [h2]
  refine⟨?_,rfl,rfl⟩
  have hk:=(tE.1 (by simp only [IL,q9]at h3;exact h3.1))
  obtain⟨_,_,_,rb,rs⟩:=(afl h1).1
  show IntKind.i64.wrap (aq st - k)=_
  simp only [aq]
  exact aJ (by omega) (by omega)
theorem ao9(i v o:Int)(bs:List TM)(st:List IN)(k:Int)(stk xs os:List Int)(ss:List BS3)(h:mcN bs stk xs os=true):
  Wc i v o k bs st stk xs os ss=lfV i v o bs st k stk xs os ss∧Wd i v o k bs st stk xs os ss=mcC i v o bs st k stk xs os ss∧We i v o bs st stk xs os=true:=by
 have ht:=(ak3.1 h).1
 simp only [Wc,Wd,We,lfV,ht,allT]
 rcases afA i v o bs st k stk xs os ss with⟨h1,h2⟩ | ⟨h1,h3,h2⟩ | ⟨h1,h3,h2⟩
 ·rw [h1,h2];exact⟨rfl,rfl,rfl⟩
 ·rw [h1,h2,h3,agx h1 h];exact⟨rfl,rfl,rfl⟩
 ·rw [h1,h2,h3,agx h1 h]
  refine⟨?_,rfl,rfl⟩
  have hk:=(tE.1 (by simp only [IL,q9]at h3;exact h3.1))
  obtain⟨_,_,_,rb,rs⟩:=(afl h1).1
  exact aJ (by omega) (by omega)
def isM(i v o:Int)(bs:List TM)(st:List IN)(k:Int)(stk xs os:List Int)(ss:List BS3):Bool:=mcC i v o bs st k stk xs os ss==0
theorem aoS(i v o:Int)(bs:List TM)(st:List IN)(k:Int)(stk xs os:List Int)(ss:List BS3)(h:mcN bs stk xs os=true):
  Pl i v o k bs st stk xs os ss=isM i v o bs st k stk xs os ss∧Pm i v o k bs st stk xs os ss=true:=by
 obtain⟨c0,c1⟩:=aiM i v o bs st k stk xs os ss h
 simp only [Pl,Pm,c0,c1,isM,allT,cond_true,and_self]
theorem ao7(i v o:Int)(bs:List TM)(st:List IN)(k:Int)(stk xs os:List Int)(ss:List BS3)(h:mcN bs stk xs os=true):
  Pz i v o k bs st stk xs os ss=isM i v o bs st k stk xs os ss∧PA i v o bs st stk xs os=true:=by
 have ht:=(ak3.1 h).1
 simp only [Pz,PA,isM,ht,allT]
 rcases afA i v o bs st k stk xs os ss with⟨h1,h2⟩ | ⟨h1,h3,h2⟩ | ⟨h1,h3,h2⟩
 ·rw [h1,h2];exact⟨rfl,rfl⟩
 ·rw [h1,h2,h3,agx h1 h];exact⟨rfl,rfl⟩
 ·rw [h1,h2,h3,agx h1 h];exact⟨rfl,rfl⟩
def acR:List SV→List Entry→Option Out
 | [.one ⟨true,[.val (.int .i64 x0),.val (.int .i64 x1),.val (.int .i64 x2),.ref 0,.ref 1]⟩,.one ⟨true,[.val (.int .i64 x3),.ref 2,.ref 3,.ref 4,.ref 5]⟩],[.row false 122 (.pair (.int .i64) (.pair (.str) (.int .i64))) x4,.row false 83 (.pair (.int .i64) (.int .i64)) x5,.row false 2 (.int .i64) x6,.row false 2 (.int .i64) x7,.row false 2 (.int .i64) x8,.row false 109 (.pair (.int .i64) (.pair (.int .i64) (.int .i64))) x9]=>some ⟨.tup [⟨false,[.val (.int .i64 (lfV x0 x1 x2 x4 x5 x3 x6 x7 x8 x9))]⟩,⟨false,[.val (.int .i64 (mcC x0 x1 x2 x4 x5 x3 x6 x7 x8 x9))]⟩],[.row false 122 afs x4,.row false 83 ahF x5,.row false 2 akd x6,.row false 2 akd x7,.row false 2 akd x8,.row false 109 ac0 x9],[],[mcN x4 x6 x7 x8]⟩
 |_,_=>none
def FU:PF prog:=PF.alt ajN acR (by
 intro args es o h cf;unfold acR at h;split at h
 ·rename_i x0 x1 x2 x3 x4 x5 x6 x7 x8 x9
  cases h
  have cf:=iw cf
  have hh:=aoT x0 x1 x2 x4 x5 x3 x6 x7 x8 x9 cf
  obtain⟨e0,e1,en⟩:=hh
  exact mK rfl (gE en) (by simp only [e0,e1] <;> rfl) rfl rfl
 ·cases h)
def acU:List SV→List Entry→Option Out
 | [.one ⟨true,[.val (.int .i64 x0),.val (.int .i64 x1),.val (.int .i64 x2),.ref 0,.ref 1]⟩,.one ⟨true,[.val (.int .i64 x3),.ref 2,.ref 3,.ref 4,.ref 5]⟩],[.row false 122 (.pair (.int .i64) (.pair (.str) (.int .i64))) x4,.row false 83 (.pair (.int .i64) (.int .i64)) x5,.row false 2 (.int .i64) x6,.row false 2 (.int .i64) x7,.row false 2 (.int .i64) x8,.row false 109 (.pair (.int .i64) (.pair (.int .i64) (.int .i64))) x9]=>some ⟨.tup [⟨false,[.val (.int .i64 (lfV x0 x1 x2 x4 x5 x3 x6 x7 x8 x9))]⟩,⟨false,[.val (.int .i64 (mcC x0 x1 x2 x4 x5 x3 x6 x7 x8 x9))]⟩],[.row false 122 afs x4,.row false 83 ahF x5,.row false 2 akd x6,.row false 2 akd x7,.row false 2 akd x8,.row false 109 ac0 x9],[],[mcN x4 x6 x7 x8]⟩
 |_,_=>none
def FV:PF prog:=PF.alt ajS acU (by
 intro args es o h cf;unfold acU at h;split at h
 ·rename_i x0 x1 x2 x3 x4 x5 x6 x7 x8 x9
  cases h
  have cf:=iw cf
  have hh:=ao9 x0 x1 x2 x4 x5 x3 x6 x7 x8 x9 cf
  obtain⟨e0,e1,en⟩:=hh
  exact mK rfl (gE en) (by simp only [e0,e1] <;> rfl) rfl rfl
 ·cases h)
def WH:List SV→List Entry→Option Out
 | [.one ⟨true,[.val (.int .i64 x0),.val (.int .i64 x1),.val (.int .i64 x2),.ref 0,.ref 1]⟩,.one ⟨true,[.val (.int .i64 x3),.ref 2,.ref 3,.ref 4,.ref 5]⟩],[.row false 122 (.pair (.int .i64) (.pair (.str) (.int .i64))) x4,.row false 83 (.pair (.int .i64) (.int .i64)) x5,.row false 2 (.int .i64) x6,.row false 2 (.int .i64) x7,.row false 2 (.int .i64) x8,.row false 109 (.pair (.int .i64) (.pair (.int .i64) (.int .i64))) x9]=>some ⟨.one ⟨false,[.val (.bool (isM x0 x1 x2 x4 x5 x3 x6 x7 x8 x9))]⟩,[.row false 122 afs x4,.row false 83 ahF x5,.row false 2 akd x6,.row false 2 akd x7,.row false 2 akd x8,.row false 109 ac0 x9],[],[mcN x4 x6 x7 x8]⟩
 |_,_=>none
def zi:PF prog:=PF.alt agK WH (by
 intro args es o h cf;unfold WH at h;split at h
 ·rename_i x0 x1 x2 x3 x4 x5 x6 x7 x8 x9
  cases h
  have cf:=iw cf
  have hh:=aoS x0 x1 x2 x4 x5 x3 x6 x7 x8 x9 cf
  obtain⟨e0,en⟩:=hh
  exact mK rfl (gE en) (by simp only [e0] <;> rfl) rfl rfl
 ·cases h)
def WI:List SV→List Entry→Option Out
 | [.one ⟨true,[.val (.int .i64 x0),.val (.int .i64 x1),.val (.int .i64 x2),.ref 0,.ref 1]⟩,.one ⟨true,[.val (.int .i64 x3),.ref 2,.ref 3,.ref 4,.ref 5]⟩],[.row false 122 (.pair (.int .i64) (.pair (.str) (.int .i64))) x4,.row false 83 (.pair (.int .i64) (.int .i64)) x5,.row false 2 (.int .i64) x6,.row false 2 (.int .i64) x7,.row false 2 (.int .i64) x8,.row false 109 (.pair (.int .i64) (.pair (.int .i64) (.int .i64))) x9]=>some ⟨.one ⟨false,[.val (.bool (isM x0 x1 x2 x4 x5 x3 x6 x7 x8 x9))]⟩,[.row false 122 afs x4,.row false 83 ahF x5,.row false 2 akd x6,.row false 2 akd x7,.row false 2 akd x8,.row false 109 ac0 x9],[],[mcN x4 x6 x7 x8]⟩
 |_,_=>none
def zj:PF prog:=PF.alt agO WI (by
 intro args es o h cf;unfold WI at h;split at h
 ·rename_i x0 x1 x2 x3 x4 x5 x6 x7 x8 x9
  cases h
  have cf:=iw cf
  have hh:=ao7 x0 x1 x2 x4 x5 x3 x6 x7 x8 x9 cf
  obtain⟨e0,en⟩:=hh
  exact mK rfl (gE en) (by simp only [e0] <;> rfl) rfl rfl
 ·cases h)
def anv(k:Int)(stk xs os:List Int)(ss:List BS3)(k':Int)(stk' xs' os':List Int)(ss':List BS3):Bool:=k==k'&&(eqL stk stk'&&(eqL os os'&&lkM xs ss xs' ss'))
def lkN(stk xs os:List Int)(ss:List BS3):Bool:=leN stk.length 9223372036854775807&&(leN xs.length 9223372036854775807&&(leN os.length 9223372036854775807&&leN ss.length 9223372036854775807))
theorem aoW(k k':Int)(stk xs os:List Int)(ss:List BS3)(stk' xs' os':List Int)(ss':List BS3)(h:lkN stk xs os ss=true):
  HU k k' stk xs os ss stk' xs' os' ss'=anv k stk xs os ss k' stk' xs' os' ss'∧HV k k' stk xs os ss stk' os'=true:=by
 simp only [lkN,q9]at h
 obtain⟨h1,h2,h3,h4⟩:=h
 simp only [HU,HV,AD,h1,h2,h3,h4,anv,allT,w8,Bool.and_self,cond_true,and_true]
 cases k==k' <;> cases eqL stk stk' <;> cases eqL os os' <;> rfl
def QD:List SV→List Entry→Option Out
 | [.one ⟨true,[.val (.int .i64 x0),.ref 0,.ref 1,.ref 2,.ref 3]⟩,.one ⟨true,[.val (.int .i64 x1),.ref 4,.ref 5,.ref 6,.ref 7]⟩],[.row false 2 (.int .i64) x2,.row false 2 (.int .i64) x3,.row false 2 (.int .i64) x4,.row false 109 (.pair (.int .i64) (.pair (.int .i64) (.int .i64))) x5,.row false 2 (.int .i64) x6,.row false 2 (.int .i64) x7,.row false 2 (.int .i64) x8,.row false 109 (.pair (.int .i64) (.pair (.int .i64) (.int .i64))) x9]=>some ⟨.one ⟨false,[.val (.bool (anv x0 x2 x3 x4 x5 x1 x6 x7 x8 x9))]⟩,[.row false 2 akd x2,.row false 2 akd x3,.row false 2 akd x4,.row false 109 ac0 x5,.row false 2 akd x6,.row false 2 akd x7,.row false 2 akd x8,.row false 109 ac0 x9],[],[lkN x2 x3 x4 x5]⟩
 |_,_=>none
def sE:PF prog:=PF.alt abm QD (by
 intro args es o h cf;unfold QD at h;split at h
 ·rename_i x0 x1 x2 x3 x4 x5 x6 x7 x8 x9
  cases h
  have cf:=iw cf
  have hh:=aoW x0 x1 x2 x3 x4 x5 x6 x7 x8 x9 cf
  obtain⟨e0,en⟩:=hh
  exact mK rfl (gE en) (by simp only [e0] <;> rfl) rfl rfl
 ·cases h)
section
variable (x0 x1:Int)(x2:List Int)
def Br:Int:=xh (jm x0 x1 x2) (af x0 x1 x2) (nb x0 x1 x2) (oa x0 x1 x2) (bQ x0 x1 x2) (bY x0 x1 x2) (bZ x0 x1 x2) (br x0 x1 x2) x2
def Bs:Int:=xj (jm x0 x1 x2) (af x0 x1 x2) (nb x0 x1 x2) (oa x0 x1 x2) (bQ x0 x1 x2) (bY x0 x1 x2) (bZ x0 x1 x2) (br x0 x1 x2) x2
def jg:Int:=lS (jm x0 x1 x2) (af x0 x1 x2) (Br x0 x1 x2) (Bs x0 x1 x2) (bQ x0 x1 x2) (bY x0 x1 x2) (bZ x0 x1 x2) (br x0 x1 x2) x2
def La:Int:=nD (jm x0 x1 x2) (af x0 x1 x2) (Br x0 x1 x2) (Bs x0 x1 x2) (bQ x0 x1 x2) (bY x0 x1 x2) (bZ x0 x1 x2) (br x0 x1 x2) x2
def Ze:Int:=nxV 8 (jg x0 x1 x2) (La x0 x1 x2) x2
def cE:Bool:=Ze x0 x1 x2==0
def uR:List (Int×Int):=lU (jm x0 x1 x2) (af x0 x1 x2) (bQ x0 x1 x2) (bY x0 x1 x2) (bZ x0 x1 x2) (br x0 x1 x2)
def cM:Bool:=Ze x0 x1 x2==1
def oe:Int:=nxS 8 (jg x0 x1 x2) (La x0 x1 x2) x2
def Bt:Int:=IC (nxA 8 (jg x0 x1 x2) x2) (oe x0 x1 x2) x2
def Jf:Int:=ID (nxA 8 (jg x0 x1 x2) x2) (oe x0 x1 x2) x2
def dg:Bool:=nxV 2 (Bt x0 x1 x2) (Jf x0 x1 x2) x2==0
def Ew:Int:=IB (nxA 8 (jg x0 x1 x2) x2) (oe x0 x1 x2) x2
def Ey:Int:=En (nxA 8 (jg x0 x1 x2) x2) (oe x0 x1 x2) x2
def PT:Int:=Eo (nxA 8 (jg x0 x1 x2) x2) (oe x0 x1 x2) x2
def Xr:Int:=nxS 2 (Bt x0 x1 x2) (Jf x0 x1 x2) x2
def Jg:List (Int×alV×Int):=Ep (nxA 8 (jg x0 x1 x2) x2) (oe x0 x1 x2) x2
def PU:List (Int×Int):=IE (nxA 8 (jg x0 x1 x2) x2) (oe x0 x1 x2) x2
def Jh:List Int:=xk (jm x0 x1 x2) (af x0 x1 x2) (nb x0 x1 x2) (oa x0 x1 x2) (bQ x0 x1 x2) (bY x0 x1 x2) (bZ x0 x1 x2) (br x0 x1 x2) x2
def tj:Int:=Zz 0 (Ey x0 x1 x2) (Ey x0 x1 x2) 0
def Ji:List (Int×Int×Int):=xl (jm x0 x1 x2) (af x0 x1 x2) (nb x0 x1 x2) (oa x0 x1 x2) (bQ x0 x1 x2) (bY x0 x1 x2) (bZ x0 x1 x2) (br x0 x1 x2) x2
def qF:Int:=(↑(j9 (Jg x0 x1 x2)):Int)
def Jj:List Int:=sX (jm x0 x1 x2) (af x0 x1 x2) (Br x0 x1 x2) (Bs x0 x1 x2) (bQ x0 x1 x2) (bY x0 x1 x2) (bZ x0 x1 x2) (br x0 x1 x2) x2
def tn:Int:=Zz 0 (Ew x0 x1 x2) (Ew x0 x1 x2) 0
def PV:Bool:=prD (jm x0 x1 x2) (bQ x0 x1 x2) (bY x0 x1 x2) (bZ x0 x1 x2) (af x0 x1 x2) (br x0 x1 x2)
def dE:Int:=bif cE x0 x1 x2 then zR (cT (af x0 x1 x2) (bQ x0 x1 x2)) (cU (af x0 x1 x2) (bY x0 x1 x2)) (cV (af x0 x1 x2) (bZ x0 x1 x2)) (cW (af x0 x1 x2) (br x0 x1 x2)) (uR x0 x1 x2)else bif cM x0 x1 x2 then bif dg x0 x1 x2 then Ew x0 x1 x2 else Ew x0 x1 x2 else cT (af x0 x1 x2) (bQ x0 x1 x2)
def dM:Int:=bif cE x0 x1 x2 then zS (cT (af x0 x1 x2) (bQ x0 x1 x2)) (cU (af x0 x1 x2) (bY x0 x1 x2)) (cV (af x0 x1 x2) (bZ x0 x1 x2)) (cW (af x0 x1 x2) (br x0 x1 x2)) (uR x0 x1 x2)else bif cM x0 x1 x2 then bif dg x0 x1 x2 then Ey x0 x1 x2 else Ey x0 x1 x2 else cU (af x0 x1 x2) (bY x0 x1 x2)
def cp:Int:=bif cE x0 x1 x2 then zT (cT (af x0 x1 x2) (bQ x0 x1 x2)) (cU (af x0 x1 x2) (bY x0 x1 x2)) (cV (af x0 x1 x2) (bZ x0 x1 x2)) (cW (af x0 x1 x2) (br x0 x1 x2)) (uR x0 x1 x2)else bif cM x0 x1 x2 then bif dg x0 x1 x2 then PT x0 x1 x2 else PT x0 x1 x2 else cV (af x0 x1 x2) (bZ x0 x1 x2)
def ir:Int:=bif cE x0 x1 x2 then nxA 8 (jg x0 x1 x2) x2 else bif cM x0 x1 x2 then bif dg x0 x1 x2 then nxA 2 (Bt x0 x1 x2) x2 else nxA 2 (Bt x0 x1 x2) x2 else nxA 8 (jg x0 x1 x2) x2
def od:Int:=bif cE x0 x1 x2 then oe x0 x1 x2 else bif cM x0 x1 x2 then bif dg x0 x1 x2 then Xr x0 x1 x2 else Xr x0 x1 x2 else oe x0 x1 x2
def dc:List (Int×(alV×Int)):=bif cE x0 x1 x2 then zU (cT (af x0 x1 x2) (bQ x0 x1 x2)) (cU (af x0 x1 x2) (bY x0 x1 x2)) (cV (af x0 x1 x2) (bZ x0 x1 x2)) (cW (af x0 x1 x2) (br x0 x1 x2)) (uR x0 x1 x2)else bif cM x0 x1 x2 then bif dg x0 x1 x2 then Jg x0 x1 x2 else Jg x0 x1 x2 else cW (af x0 x1 x2) (br x0 x1 x2)
def dk:List (Int×Int):=bif cE x0 x1 x2 then zV (cT (af x0 x1 x2) (bQ x0 x1 x2)) (cU (af x0 x1 x2) (bY x0 x1 x2)) (cV (af x0 x1 x2) (bZ x0 x1 x2)) (cW (af x0 x1 x2) (br x0 x1 x2)) (uR x0 x1 x2)else bif cM x0 x1 x2 then bif dg x0 x1 x2 then PU x0 x1 x2 else PU x0 x1 x2 else uR x0 x1 x2
def eO:List Int:=bif cE x0 x1 x2 then Jh x0 x1 x2 else bif cM x0 x1 x2 then bif dg x0 x1 x2 then Jh x0 x1 x2 else v4 (j8 (tj x0 x1 x2)) (0:Int)else Jh x0 x1 x2
def eP:List (Int×(Int×Int)):=bif cE x0 x1 x2 then Ji x0 x1 x2 else bif cM x0 x1 x2 then bif dg x0 x1 x2 then Ji x0 x1 x2 else v4 (j8 (qF x0 x1 x2)) ((0:Int),(0:Int),(0:Int))else Ji x0 x1 x2
def ky:List Int:=bif cE x0 x1 x2 then Jj x0 x1 x2 else bif cM x0 x1 x2 then bif dg x0 x1 x2 then Jj x0 x1 x2 else v4 (j8 (tn x0 x1 x2)) (0:Int)else Jj x0 x1 x2
def Rs:Bool:=allT [aT x0 x1 x2,PV x0 x1 x2,aT (nb x0 x1 x2) (oa x0 x1 x2) x2&&PV x0 x1 x2,aT (Br x0 x1 x2) (Bs x0 x1 x2) x2&&leN (j9 (bQ x0 x1 x2)) 50,aT (jg x0 x1 x2) (La x0 x1 x2) x2,!cE x0 x1 x2||cdD (cT (af x0 x1 x2) (bQ x0 x1 x2)) (cU (af x0 x1 x2) (bY x0 x1 x2)) (cV (af x0 x1 x2) (bZ x0 x1 x2)) (cW (af x0 x1 x2) (br x0 x1 x2)) (uR x0 x1 x2),cE x0 x1 x2||(!cM x0 x1 x2||aT (nxA 8 (jg x0 x1 x2) x2) (oe x0 x1 x2) x2),cE x0 x1 x2||(!cM x0 x1 x2||aT (Bt x0 x1 x2) (Jf x0 x1 x2) x2),cE x0 x1 x2||(!cM x0 x1 x2||(dg x0 x1 x2||leI 0 (tj x0 x1 x2))),cE x0 x1 x2||(!cM x0 x1 x2||(dg x0 x1 x2||leI (tj x0 x1 x2) (tj x0 x1 x2))),cE x0 x1 x2||(!cM x0 x1 x2||(dg x0 x1 x2||leI ((↑(8:Nat):Int) * tj x0 x1 x2) 281474976710656)),cE x0 x1 x2||(!cM x0 x1 x2||(dg x0 x1 x2||leI (tj x0 x1 x2) 9223372036854775807)),cE x0 x1 x2||(!cM x0 x1 x2||(dg x0 x1 x2||leI 0 (qF x0 x1 x2))),cE x0 x1 x2||(!cM x0 x1 x2||(dg x0 x1 x2||leI (qF x0 x1 x2) (qF x0 x1 x2))),cE x0 x1 x2||(!cM x0 x1 x2||(dg x0 x1 x2||leI ((↑(24:Nat):Int) * qF x0 x1 x2) 281474976710656)),cE x0 x1 x2||(!cM x0 x1 x2||(dg x0 x1 x2||leI (qF x0 x1 x2) 9223372036854775807)),cE x0 x1 x2||(!cM x0 x1 x2||(dg x0 x1 x2||leI 0 (tn x0 x1 x2))),cE x0 x1 x2||(!cM x0 x1 x2||(dg x0 x1 x2||leI (tn x0 x1 x2) (tn x0 x1 x2))),cE x0 x1 x2||(!cM x0 x1 x2||(dg x0 x1 x2||leI ((↑(8:Nat):Int) * tn x0 x1 x2) 281474976710656)),cE x0 x1 x2||(!cM x0 x1 x2||(dg x0 x1 x2||leI (tn x0 x1 x2) 9223372036854775807))]
end
def aai:List SV→List Entry→Option Out
 | [.one ⟨false,[.ptr 0 0]⟩],[.box 113 [.ref 1,.val (.int .i64 x0),.val (.int .i64 x1)],.row false 5 (.int .u8) x2]=>some ⟨.tup [⟨true,[.val (.int .i64 (dE x0 x1 x2)),.val (.int .i64 (dM x0 x1 x2)),.val (.int .i64 (cp x0 x1 x2)),.ref 2,.ref 3]⟩,⟨true,[.ref 4,.ref 5]⟩,⟨false,[.ref 6]⟩],[.box 113 [.ref 1,.val (.int .i64 (ir x0 x1 x2)),.val (.int .i64 (od x0 x1 x2))],.row false 5 ake x2],[.row true 122 afs (dc x0 x1 x2),.row true 83 ahF (dk x0 x1 x2),.row true 2 akd (eO x0 x1 x2),.row true 109 ac0 (eP x0 x1 x2),.row true 2 akd (ky x0 x1 x2)],[Rs x0 x1 x2]⟩
 |_,_=>none
def ajd:PF prog:=PF.ofG prog (T3z [Ig,Ie,ao,SK,kv,fF,Lr]) [] bG 71 f71 func71 (fun c _=>LOk.nil c) aai (by
 intro vs es r h;unfold aai at h;split at h
 ·cases h;kernel_rfl
 ·cases h)
section
variable (x0 x1 x2:Int)(x3:List (Int×alV×Int))(x4:List (Int×Int))(x5:List Int)(x6:List (Int×Int×Int))
def JS:Int:=bif !eR x0 x1 x2 x3 x4 then(0:Int)else bif !vL x1 x3 x5 x6 then(0:Int)else(0:Int)
def CZ:Int:=bif !eR x0 x1 x2 x3 x4 then(1:Int)else bif !vL x1 x3 x5 x6 then(2:Int)else(0:Int)
def Da:List Int:=bif !eR x0 x1 x2 x3 x4 then []else bif !vL x1 x3 x5 x6 then []else Lb
def Db:List Int:=bif !eR x0 x1 x2 x3 x4 then []else bif !vL x1 x3 x5 x6 then []else x5
def Dc:List Int:=bif !eR x0 x1 x2 x3 x4 then []else bif !vL x1 x3 x5 x6 then []else Lc x2
def Dd:List (Int×(Int×Int)):=bif !eR x0 x1 x2 x3 x4 then []else bif !vL x1 x3 x5 x6 then []else x6
def De:Bool:=allT [ZM x3,!eR x0 x1 x2 x3 x4||leN x5.length (9223372036854775807:Nat)&&leN x3.length (9223372036854775807:Nat),!eR x0 x1 x2 x3 x4||(!vL x1 x3 x5 x6||Ld x2 x5 x6)]
end
def Rv:List SV→List Entry→Option Out
 | [.one ⟨true,[.val (.int .i64 x0),.val (.int .i64 x1),.val (.int .i64 x2),.ref 0,.ref 1]⟩,.one ⟨true,[.ref 2,.ref 3]⟩],[.row false 122 (.pair (.int .i64) (.pair (.str) (.int .i64))) x3,.row false 83 (.pair (.int .i64) (.int .i64)) x4,.row false 2 (.int .i64) x5,.row false 109 (.pair (.int .i64) (.pair (.int .i64) (.int .i64))) x6]=>some ⟨.tup [⟨true,[.val (.int .i64 (JS x0 x1 x2 x3 x4 x5 x6)),.ref 4,.ref 5,.ref 6,.ref 7]⟩,⟨false,[.val (.int .i64 (CZ x0 x1 x2 x3 x4 x5 x6))]⟩],[.row false 122 afs x3,.row false 83 ahF x4,.row false 2 akd x5,.row false 109 ac0 x6],[.row true 2 akd (Da x0 x1 x2 x3 x4 x5 x6),.row true 2 akd (Db x0 x1 x2 x3 x4 x5 x6),.row true 2 akd (Dc x0 x1 x2 x3 x4 x5 x6),.row true 109 ac0 (Dd x0 x1 x2 x3 x4 x5 x6)],[De x0 x1 x2 x3 x4 x5 x6]⟩
 |_,_=>none
def ux:PF prog:=PF.ofG prog (T3z [Bl,Rh,mg]) [] bG 34 f34 func34 (fun c _=>LOk.nil c) Rv (by
 intro vs es r h;unfold Rv at h;split at h
 ·cases h;kernel_rfl
 ·cases h)
 attribute [local irreducible] nxA nxS nxV pkA pkS pkV
theorem arM(z:Int)(h:z≤60):0≤Zz 0 z z 0∧Zz 0 z z 0≤60:=by
 by_cases hz:0 < z
 ·have:Zz 0 z z 0=z:=by simp only [Zz,if_pos hz]
  omega
 ·have:Zz 0 z z 0=0:=by simp only [Zz,if_neg hz]
  omega
theorem Vn(x0 x1:Int)(x2:List Int)(h:aT x0 x1 x2=true):
  Rs x0 x1 x2=true∧aT (ir x0 x1 x2) (od x0 x1 x2) x2=true∧cdD (dE x0 x1 x2) (dM x0 x1 x2) (cp x0 x1 x2) (dc x0 x1 x2) (dk x0 x1 x2)=true∧(eO x0 x1 x2).length≤60∧(eP x0 x1 x2).length≤10000∧(ky x0 x1 x2).length≤60:=by
 obtain⟨_,s0,⟨hp,_⟩,_⟩:=NB x0 x1 x2 h
 have p24:PV x0 x1 x2=true:=hp
 obtain⟨_,hcd,_⟩:=IA _ _ _ _ _ _ hp
 have i0:=(rT.1 (afM.1 hp).2.1).1
 obtain⟨_,s1,m2,m3⟩:=Mq _ _ _ _ _ _ _ _ x2 s0 hp
 have s1:aT (Br x0 x1 x2) (Bs x0 x1 x2) x2=true:=s1
 have m2:(Jh x0 x1 x2).length≤60:=m2
 have m3:(Ji x0 x1 x2).length≤2000:=m3
 obtain⟨_,s2,m8⟩:=DQ (jm x0 x1 x2) (af x0 x1 x2) (Br x0 x1 x2) (Bs x0 x1 x2) (bQ x0 x1 x2) (bY x0 x1 x2) (bZ x0 x1 x2) (br x0 x1 x2) x2 s1 i0
 have s2:aT (jg x0 x1 x2) (La x0 x1 x2) x2=true:=s2
 have m8:(Jj x0 x1 x2).length≤60:=m8
 have s3:aT (nxA 8 (jg x0 x1 x2) x2) (oe x0 x1 x2) x2=true:=kz s2
 obtain⟨_,s4,hc2⟩:=Ve _ _ x2 s3
 have s4:aT (Bt x0 x1 x2) (Jf x0 x1 x2) x2=true:=s4
 have hc2:cdD (Ew x0 x1 x2) (Ey x0 x1 x2) (PT x0 x1 x2) (Jg x0 x1 x2) (PU x0 x1 x2)=true:=hc2
 obtain⟨d0,d1,d2,⟨d3,_⟩,_⟩:=RM.1 hc2
 have hcd':cdD (cT (af x0 x1 x2) (bQ x0 x1 x2)) (cU (af x0 x1 x2) (bY x0 x1 x2)) (cV (af x0 x1 x2) (bZ x0 x1 x2)) (cW (af x0 x1 x2) (br x0 x1 x2)) (uR x0 x1 x2)=true:=hcd
 have hi:=(alX _ _ _ _ _ hcd').2
 have g19:0≤tj x0 x1 x2∧tj x0 x1 x2≤60:=arM _ d1.2
 have g23:0≤tn x0 x1 x2∧tn x0 x1 x2≤60:=arM _ d0.2
 have g21:0≤qF x0 x1 x2∧qF x0 x1 x2≤10000:=by simp only [qF];omega
 have mk: ∀ z:Int,0≤z→z≤10000→leI 0 z=true∧leI z z=true∧leI ((↑(8:Nat):Int) * z) 281474976710656=true∧leI ((↑(24:Nat):Int) * z) 281474976710656=true∧leI z 9223372036854775807=true:=fun z h0 h1=>⟨bu h0,bu (by omega),bu (by omega),bu (by omega),bu (by omega)⟩
 obtain⟨a1,a2,a3,a4,a5⟩:=mk _ g19.1 (by omega)
 obtain⟨b1,b2,b3,b4,b5⟩:=mk _ g23.1 (by omega)
 obtain⟨c1,c2,c3,c4,c5⟩:=mk _ g21.1 g21.2
 refine⟨?_,?_,?_,?_,?_,?_⟩
 ·simp only [Rs,h,p24,s0,s1,s2,s3,s4,hcd',aR i0,a1,a2,a3,a4,a5,b1,b2,b3,b4,b5,c1,c2,c3,c4,c5,allT,w8,Bool.and_self,cond_true]
 ·simp only [ir,od]
  exact pk s3 (pk (pk (kz s4) (kz s4)) s3)
 ·simp only [dE,dM,cp,dc,dk]
  cases cE x0 x1 x2 <;> simp only [cond_true,cond_false]
  ·cases cM x0 x1 x2 <;> simp only [cond_true,cond_false,w9]
   ·exact hcd
   ·exact hc2
  ·exact hi
 ·simp only [eO]
  exact fo m2 (fo (fo m2 (by rw [j7];omega)) m2)
 ·simp only [eP]
  exact fo (by omega) (fo (fo (by omega) (by rw [j7];omega)) (by omega))
 ·simp only [ky]
  exact fo m8 (fo (fo m8 (by rw [j7];omega)) m8)
def aaD:List SV→List Entry→Option Out
 | [.one ⟨false,[.ptr 0 0]⟩],[.box 113 [.ref 1,.val (.int .i64 x0),.val (.int .i64 x1)],.row false 5 (.int .u8) x2]=>some ⟨.tup [⟨true,[.val (.int .i64 (dE x0 x1 x2)),.val (.int .i64 (dM x0 x1 x2)),.val (.int .i64 (cp x0 x1 x2)),.ref 2,.ref 3]⟩,⟨true,[.ref 4,.ref 5]⟩,⟨false,[.ref 6]⟩],[.box 113 [.ref 1,.val (.int .i64 (ir x0 x1 x2)),.val (.int .i64 (od x0 x1 x2))],.row false 5 ake x2],[.row true 122 afs (dc x0 x1 x2),.row true 83 ahF (dk x0 x1 x2),.row true 2 akd (eO x0 x1 x2),.row true 109 ac0 (eP x0 x1 x2),.row true 2 akd (ky x0 x1 x2)],[aT x0 x1 x2]⟩
 |_,_=>none
def DB:PF prog:=PF.alt ajd aaD (by
 intro args es o h cf;unfold aaD at h;split at h
 ·rename_i x0 x1 x2
  cases h
  have cf:=iw cf
  have hh:=(Vn x0 x1 x2 cf).1
  have en:=hh
  exact mK rfl (gE en) rfl rfl rfl
 ·cases h)
end Go.SX
namespace Go.SX
open Go.Proofs Go.Proofs.Tryz
set_option maxRecDepth 100000
def WC:List SV→List Entry→Option Out
 | [.one ⟨false,[.ref 0]⟩,.one ⟨false,[.val (.int .i64 x0)]⟩],[.row true 2 (.int .i64) x1]=>some ⟨.one ⟨false,[.ref 1]⟩,[.gone],[.row true 2 akd (xx x0 x1)],[xy x0 x1]⟩
 |_,_=>none
def agR:PF prog:=PF.ofG prog [] [] bG 125 f125 func125 (fun c _=>LOk.nil c) WC (by
 intro vs es r h;unfold WC at h;split at h
 ·cases h;kernel_rfl
 ·cases h)
def WD:List SV→List Entry→Option Out
 | [.one ⟨true,[.val (.int .i64 _x0),.val (.int .i64 _x1),.val (.int .i64 _x2),.ref 0,.ref 1]⟩,.one ⟨true,[.val (.int .i64 x3),.ref 2,.ref 3,.ref 4,.ref 5]⟩,.one ⟨false,[.ref 6]⟩],[.row false 122 (.pair (.int .i64) (.pair (.str) (.int .i64))) x4,.row false 83 (.pair (.int .i64) (.int .i64)) x5,.row false 2 (.int .i64) x6,.row false 2 (.int .i64) x7,.row false 2 (.int .i64) x8,.row false 109 (.pair (.int .i64) (.pair (.int .i64) (.int .i64))) x9,.row false 2 (.int .i64) x10]=>some ⟨.one ⟨true,[.val (.int .i64 (Aw x3 x5)),.ref 7,.ref 8,.ref 9,.ref 10]⟩,[.row false 122 afs x4,.row false 83 ahF x5,.row false 2 akd x6,.row false 2 akd x7,.row false 2 akd x8,.row false 109 ac0 x9,.row false 2 akd x10],[.row true 2 akd (Ax x3 x4 x5 x6 x7 x9 x10),.row true 2 akd (Ez x3 x4 x5 x6 x7),.row true 2 akd (EA x3 x4 x5 x6 x7 x8 x10),.row true 109 ac0 (EB x3 x4 x5 x6 x9)],[jn x3 x4 x5 x6 x7 x8 x9 x10]⟩
 |_,_=>none
def agS:PF prog:=PF.ofG prog (T3z [mV,gj,agR,aE]) [] bG 77 f77 func77 (fun c _=>LOk.nil c) WD (by
 intro vs es r h;unfold WD at h;split at h
 ·cases h;kernel_rfl
 ·cases h)
def WL:List SV→List Entry→Option Out
 | [.one ⟨true,[.val (.int .i64 x0),.val (.int .i64 x1),.val (.int .i64 x2),.ref 0,.ref 1]⟩,.one ⟨true,[.val (.int .i64 x3),.ref 2,.ref 3,.ref 4,.ref 5]⟩,.one ⟨false,[.ref 6]⟩],[.row false 122 (.pair (.int .i64) (.pair (.str) (.int .i64))) x4,.row false 83 (.pair (.int .i64) (.int .i64)) x5,.row false 2 (.int .i64) x6,.row false 2 (.int .i64) x7,.row false 2 (.int .i64) x8,.row false 109 (.pair (.int .i64) (.pair (.int .i64) (.int .i64))) x9,.row false 2 (.int .i64) x10]=>some ⟨.one ⟨true,[.val (.int .i64 ((stM x4 x5 x10 x3 x6 x7 x8 x9).1)),.ref 7,.ref 8,.ref 9,.ref 10]⟩,[.row false 122 afs x4,.row false 83 ahF x5,.row false 2 akd x6,.row false 2 akd x7,.row false 2 akd x8,.row false 109 ac0 x9,.row false 2 akd x10],[.row true 2 akd ((stM x4 x5 x10 x3 x6 x7 x8 x9).2.1),.row true 2 akd ((stM x4 x5 x10 x3 x6 x7 x8 x9).2.2.1),.row true 2 akd ((stM x4 x5 x10 x3 x6 x7 x8 x9).2.2.2.1),.row true 109 ac0 ((stM x4 x5 x10 x3 x6 x7 x8 x9).2.2.2.2)],[ahX x0 x1 x2 x4 x5 x10 x3 x6 x7 x8 x9]⟩
 |_,_=>none
def zk:PF prog:=PF.alt agS WL (by
 intro args es o h cf;unfold WL at h;split at h
 ·rename_i x0 x1 x2 x3 x4 x5 x6 x7 x8 x9 x10
  cases h
  have cf:=iw cf
  have hh:=art x0 x1 x2 x4 x5 x10 x3 x6 x7 x8 x9 cf
  obtain⟨e0,e1,e2,e3,e4,en⟩:=hh
  exact mK rfl (gE en) (by simp only [e0] <;> rfl) rfl (by simp only [e1,e2,e3,e4] <;> rfl)
 ·cases h)
abbrev jB:=Int×Int×Int×Int×Int×List Int×List (Int×(alV×Int))×List (Int×Int)×List Int×List Int×List Int×List (Int×(Int×Int))
section
variable (y0 y1 y2 y3 y4:Int)(y5:List Int)(y6:List (Int×(alV×Int)))(y7:List (Int×Int))(y8 y9 y10:List Int)(y11:List (Int×(Int×Int)))
def CE:Bool:=ltI 0 y0
def KA:Bool:=ahX y1 y2 y3 y6 y7 y5 y4 y8 y9 y10 y11
def KB:Int:=v3 .i64 (y0 - (1:Int))
def KC:Int:=(stM y6 y7 y5 y4 y8 y9 y10 y11).1
def KD:List Int:=((stM y6 y7 y5 y4 y8 y9 y10 y11).2).1
def KE:List Int:=((stM y6 y7 y5 y4 y8 y9 y10 y11).2.2).1
def KF:List Int:=((stM y6 y7 y5 y4 y8 y9 y10 y11).2.2.2).1
def KG:List (Int×(Int×Int)):=(stM y6 y7 y5 y4 y8 y9 y10 y11).2.2.2.2
end
def Uc:jB→List (Nat×SV)
 |(y0,_,_,_,_,_,_,_,_,_,_,_)=> [(10,(.one ⟨false,[.val (.int .i64 y0)]⟩)),(5,(.one ⟨false,[.ptr 0 0]⟩)),(8,(.one ⟨false,[.ptr 1 0]⟩)),(7,(.one ⟨false,[.ref 2]⟩))]
def TZ:jB→List (Nat×Entry)
 |(_,y1,y2,y3,y4,y5,y6,y7,y8,y9,y10,y11)=> [(0,(.box 27 [.val (.int .i64 y1),.val (.int .i64 y2),.val (.int .i64 y3),.ref 3,.ref 4])),(1,(.box 31 [.val (.int .i64 y4),.ref 5,.ref 6,.ref 7,.ref 8])),(2,(.row true 2 akd y5)),(3,(.row true 122 afs y6)),(4,(.row true 83 ahF y7)),(5,(.row true 2 akd y8)),(6,(.row true 2 akd y9)),(7,(.row true 2 akd y10)),(8,(.row true 109 ac0 y11))]
def Ui:Nat→jB→List (Nat×SV)
 |_,(_,_,_,_,_,_,_,_,_,_,_,_)=> []
def Uf:Nat→jB→List (Nat×Entry)
 |_,(_,y1,y2,y3,y4,y5,y6,y7,y8,y9,y10,y11)=> [(0,(.box 27 [.val (.int .i64 y1),.val (.int .i64 y2),.val (.int .i64 y3),.ref 3,.ref 4])),(1,(.box 31 [.val (.int .i64 y4),.ref 5,.ref 6,.ref 7,.ref 8])),(2,(.row true 2 akd y5)),(3,(.row true 122 afs y6)),(4,(.row true 83 ahF y7)),(5,(.row true 2 akd y8)),(6,(.row true 2 akd y9)),(7,(.row true 2 akd y10)),(8,(.row true 109 ac0 y11))]
def Be:jB→LT jB
 |(y0,y1,y2,y3,y4,y5,y6,y7,y8,y9,y10,y11)=> .ite (CE y0) (.need [KA y1 y2 y3 y4 y5 y6 y7 y8 y9 y10 y11] (.nrm ((KB y0),y1,y2,y3,KC y4 y5 y6 y7 y8 y9 y10 y11,y5,y6,y7,KD y4 y5 y6 y7 y8 y9 y10 y11,KE y4 y5 y6 y7 y8 y9 y10 y11,KF y4 y5 y6 y7 y8 y9 y10 y11,(KG y4 y5 y6 y7 y8 y9 y10 y11)) [(0,0),(1,1),(2,2),(3,3),(4,4),(5,384),(6,385),(7,386),(8,387)])) (.ext 0 [(0,0),(1,1),(2,2),(3,3),(4,4),(5,5),(6,6),(7,7),(8,8)])
def Bh(s:St):Option jB:=
 (match s.look 10 with
 |some ⟨none,.one ⟨false,[.val (.int .i64 y0)]⟩⟩=>
 (match s.look 5 with
 |some ⟨none,.one ⟨false,[.ptr 768 0]⟩⟩=>
 (match s.look 8 with
 |some ⟨none,.one ⟨false,[.ptr 1472 0]⟩⟩=>
 (match s.look 7 with
 |some ⟨none,.one ⟨false,[.ref 452]⟩⟩=>
 (match s.ent 768 with
 |some (.box 27 [.val (.int .i64 y1),.val (.int .i64 y2),.val (.int .i64 y3),.ref 448,.ref 449])=>
 (match s.ent 1472 with
 |some (.box 31 [.val (.int .i64 y4),.ref 1216,.ref 1217,.ref 1218,.ref 1219])=>
 (match s.ent 452 with
 |some (.row true 2 (.int .i64) y5)=>
 (match s.ent 448 with
 |some (.row true 122 (.pair (.int .i64) (.pair .str (.int .i64))) y6)=>
 (match s.ent 449 with
 |some (.row true 83 (.pair (.int .i64) (.int .i64)) y7)=>
 (match s.ent 1216 with
 |some (.row true 2 (.int .i64) y8)=>
 (match s.ent 1217 with
 |some (.row true 2 (.int .i64) y9)=>
 (match s.ent 1218 with
 |some (.row true 2 (.int .i64) y10)=>
 (match s.ent 1219 with
 |some (.row true 109 (.pair (.int .i64) (.pair (.int .i64) (.int .i64))) y11)=>
 some (y0,y1,y2,y3,y4,y5,y6,y7,y8,y9,y10,y11)
 |_=>none)
 |_=>none)
 |_=>none)
 |_=>none)
 |_=>none)
 |_=>none)
 |_=>none)
 |_=>none)
 |_=>none)
 |_=>none)
 |_=>none)
 |_=>none)
 |_=>none)
def dY:Lp jB where
 h:=⟨[41,42,45,46,47,48,43,44,10],[0,1,2,3,4],[5,6,7,8],[]⟩
 JL:=Uc
 JE:=TZ
 XL:=Ui
 XE:=Uf
 q:=fun j=>match j with | _=> .exit 0
 tags:= [0]
 lt:=Be
 fuel:=fun(y0,y1,y2,y3,y4,y5,y6,y7,y8,y9,y10,y11)=>y0.natAbs + y1.natAbs + y2.natAbs + y3.natAbs + y4.natAbs + y5.length + y6.length + y7.length + y8.length + y9.length + y10.length + y11.length
 fix:=fun(_,y1,y2,y3,_,y5,y6,y7,_,_,_,_) (y0,_,_,_,y4,_,_,_,y8,y9,y10,y11)=>(y0,y1,y2,y3,y4,y5,y6,y7,y8,y9,y10,y11)
 σ:= [(0,768),(1,1472),(2,452),(3,448),(4,449),(5,1216),(6,1217),(7,1218),(8,1219)]
 rd:=Bh
theorem RT:LoopOk prog (fun k=>Nat.blt k Tryz.f41.ntmps) dY.F (bV f41 0):=by
 refine Lp.ok (tbl:= (T3z [ux,DB,cP,zk,ao,aE,aW])) (lf:= []) bG dY (by kernel_rfl) (LOk.nil _) (fun _=>rfl) (fun _ _=>rfl) ?_ ?_ ?_ ?_ (fun _=>rfl) ?_
 ·rintro⟨y0,y1,y2,y3,y4,y5,y6,y7,y8,y9,y10,y11⟩;kernel_rfl
 ·rintro⟨y0,y1,y2,y3,y4,y5,y6,y7,y8,y9,y10,y11⟩;kernel_rfl
 ·intro s x h
  have h:Bh s=some x:=h
  unfold Bh at h
  repeat' split at h
  all_goals cases h
  constructor<;>repeat(first|refine ab (by assumption) rfl ?_|refine aa rfl (by assumption) rfl ?_|exact rfl)
 ·rintro⟨y0,y1,y2,y3,y4,y5,y6,y7,y8,y9,y10,y11⟩;kernel_rfl
 ·rintro⟨y0,y1,y2,y3,y4,y5,y6,y7,y8,y9,y10,y11⟩ z;exact(And.intro rfl trivial)
section
variable (x0 x1:Int)(x2:List Int)
def qE:Bool:=CZ (dE x0 x1 x2) (dM x0 x1 x2) (cp x0 x1 x2) (dc x0 x1 x2) (dk x0 x1 x2) (eO x0 x1 x2) (eP x0 x1 x2)!=0
def aQ:Bool:=bif qE x0 x1 x2 then true else !bitsB (dE x0 x1 x2) (ky x0 x1 x2)
def dD:Int:=v3 .i64 ((↑(j9 (dk x0 x1 x2)):Int) + (1:Int))
def za:Int:=nxS (dD x0 x1 x2) (ir x0 x1 x2) (od x0 x1 x2) x2
def FA:Int:=nxV 20 (nxA (dD x0 x1 x2) (ir x0 x1 x2) x2) (za x0 x1 x2) x2
def bD:Bool:=FA x0 x1 x2==0
def bK:Bool:=FA x0 x1 x2==1
def zb:Int:=JS (dE x0 x1 x2) (dM x0 x1 x2) (cp x0 x1 x2) (dc x0 x1 x2) (dk x0 x1 x2) (eO x0 x1 x2) (eP x0 x1 x2)
def FB:Int:=v3 .i64 ((↑(j9 (dk x0 x1 x2)):Int) + (3:Int))
def eH:Int:=nxA 20 (nxA (dD x0 x1 x2) (ir x0 x1 x2) x2) x2
def gf:Int:=nxS 20 (nxA (dD x0 x1 x2) (ir x0 x1 x2) x2) (za x0 x1 x2) x2
def kX:List Int:=bif !qE x0 x1 x2&&true then ky x0 x1 x2 else ky x0 x1 x2
def tb:List Int:=Da (dE x0 x1 x2) (dM x0 x1 x2) (cp x0 x1 x2) (dc x0 x1 x2) (dk x0 x1 x2) (eO x0 x1 x2) (eP x0 x1 x2)
def tc:List Int:=Db (dE x0 x1 x2) (dM x0 x1 x2) (cp x0 x1 x2) (dc x0 x1 x2) (dk x0 x1 x2) (eO x0 x1 x2) (eP x0 x1 x2)
def td:List Int:=Dc (dE x0 x1 x2) (dM x0 x1 x2) (cp x0 x1 x2) (dc x0 x1 x2) (dk x0 x1 x2) (eO x0 x1 x2) (eP x0 x1 x2)
def te:List (Int×Int×Int):=Dd (dE x0 x1 x2) (dM x0 x1 x2) (cp x0 x1 x2) (dc x0 x1 x2) (dk x0 x1 x2) (eO x0 x1 x2) (eP x0 x1 x2)
def tf:Int×Int×Int×Int×Int×List Int×List (Int×alV×Int)×List (Int×Int)×List Int×List Int×List Int×List (Int×Int×Int):=(nxV (dD x0 x1 x2) (ir x0 x1 x2) (od x0 x1 x2) x2,dE x0 x1 x2,dM x0 x1 x2,cp x0 x1 x2,zb x0 x1 x2,kX x0 x1 x2,dc x0 x1 x2,dk x0 x1 x2,tb x0 x1 x2,tc x0 x1 x2,td x0 x1 x2,te x0 x1 x2)
def xO:Int×List Int×List (Int×alV×Int)×List (Int×Int)×List Int×List Int×List Int×List (Int×Int×Int):=(Lp.res dY (tf x0 x1 x2)).2.2.2.2.2
def MF:Int:=(xO x0 x1 x2).1
def nc:Bool:=FA x0 x1 x2==2
def py:List Int×List Int×List Int×List (Int×Int×Int):=(xO x0 x1 x2).2.2.2.2
def tg:List Int×List Int×List (Int×Int×Int):=(py x0 x1 x2).2
def xP:List Int×List (Int×Int×Int):=(tg x0 x1 x2).2
def iP:List Int:=(xP x0 x1 x2).1
def dG:Bool:=ltI 0 (↑(j9 (iP x0 x1 x2)):Int)
def kY:List Int:=(py x0 x1 x2).1
def th:List Int:=(tg x0 x1 x2).1
def ti:List (Int×Int×Int):=(xP x0 x1 x2).2
def vE:Int:=bif aQ x0 x1 x2 then dE x0 x1 x2 else bif bD x0 x1 x2 then dE x0 x1 x2 else bif bK x0 x1 x2 then dE x0 x1 x2 else dE x0 x1 x2
def vF:Int:=bif aQ x0 x1 x2 then dM x0 x1 x2 else bif bD x0 x1 x2 then dM x0 x1 x2 else bif bK x0 x1 x2 then dM x0 x1 x2 else dM x0 x1 x2
def vG:Int:=bif aQ x0 x1 x2 then cp x0 x1 x2 else bif bD x0 x1 x2 then cp x0 x1 x2 else bif bK x0 x1 x2 then cp x0 x1 x2 else cp x0 x1 x2
def Pf:Int:=bif aQ x0 x1 x2 then zb x0 x1 x2 else bif bD x0 x1 x2 then v3 .i64 (nxV (FB x0 x1 x2) (eH x0 x1 x2) (gf x0 x1 x2) x2 - (1:Int))else bif bK x0 x1 x2 then MF x0 x1 x2 else MF x0 x1 x2
def ZK:Int:=bif aQ x0 x1 x2 then ir x0 x1 x2 else bif bD x0 x1 x2 then nxA (FB x0 x1 x2) (eH x0 x1 x2) x2 else bif bK x0 x1 x2 then eH x0 x1 x2 else bif nc x0 x1 x2 then bif dG x0 x1 x2 then pkA (eH x0 x1 x2) [(-1:Int),(1:Int),(2:Int)] x2 else eH x0 x1 x2 else eH x0 x1 x2
def ZL:Int:=bif aQ x0 x1 x2 then od x0 x1 x2 else bif bD x0 x1 x2 then nxS (FB x0 x1 x2) (eH x0 x1 x2) (gf x0 x1 x2) x2 else bif bK x0 x1 x2 then gf x0 x1 x2 else bif nc x0 x1 x2 then bif dG x0 x1 x2 then pkS (eH x0 x1 x2) (gf x0 x1 x2) [(-1:Int),(1:Int),(2:Int)] x2 else gf x0 x1 x2 else gf x0 x1 x2
def vH:List (Int×(alV×Int)):=bif aQ x0 x1 x2 then dc x0 x1 x2 else bif bD x0 x1 x2 then dc x0 x1 x2 else bif bK x0 x1 x2 then dc x0 x1 x2 else dc x0 x1 x2
def vI:List (Int×Int):=bif aQ x0 x1 x2 then dk x0 x1 x2 else bif bD x0 x1 x2 then dk x0 x1 x2 else bif bK x0 x1 x2 then dk x0 x1 x2 else dk x0 x1 x2
def vJ:List Int:=bif aQ x0 x1 x2 then tb x0 x1 x2 else bif bD x0 x1 x2 then kY x0 x1 x2 else bif bK x0 x1 x2 then kY x0 x1 x2++ [(0:Int)]else kY x0 x1 x2
def vK:List Int:=bif aQ x0 x1 x2 then tc x0 x1 x2 else bif bD x0 x1 x2 then th x0 x1 x2 else bif bK x0 x1 x2 then th x0 x1 x2 else th x0 x1 x2
def um:List Int:=bif aQ x0 x1 x2 then td x0 x1 x2 else bif bD x0 x1 x2 then iP x0 x1 x2 else bif bK x0 x1 x2 then iP x0 x1 x2 else bif nc x0 x1 x2 then bif dG x0 x1 x2 then List.set (iP x0 x1 x2) (j8 0) (pkV (eH x0 x1 x2) (gf x0 x1 x2) [(-1:Int),(1:Int),(2:Int)] x2)else iP x0 x1 x2 else iP x0 x1 x2
def uo:List (Int×(Int×Int)):=bif aQ x0 x1 x2 then te x0 x1 x2 else bif bD x0 x1 x2 then ti x0 x1 x2 else bif bK x0 x1 x2 then ti x0 x1 x2 else ti x0 x1 x2
def uq:List Int:=bif aQ x0 x1 x2 then kX x0 x1 x2 else bif bD x0 x1 x2 then kX x0 x1 x2 else bif bK x0 x1 x2 then kX x0 x1 x2 else kX x0 x1 x2
def ur:Bool:=allT [aT x0 x1 x2,De (dE x0 x1 x2) (dM x0 x1 x2) (cp x0 x1 x2) (dc x0 x1 x2) (dk x0 x1 x2) (eO x0 x1 x2) (eP x0 x1 x2),!(!qE x0 x1 x2&&true)||leN (j9 (ky x0 x1 x2)) 9223372036854775807,aQ x0 x1 x2||aT (ir x0 x1 x2) (od x0 x1 x2) x2,aQ x0 x1 x2||Lp.fin dY (tf x0 x1 x2),aQ x0 x1 x2||aT (nxA (dD x0 x1 x2) (ir x0 x1 x2) x2) (za x0 x1 x2) x2,aQ x0 x1 x2||(!bD x0 x1 x2||aT (eH x0 x1 x2) (gf x0 x1 x2) x2),aQ x0 x1 x2||(bD x0 x1 x2||(!bK x0 x1 x2||leN (j9 (kY x0 x1 x2)) 1048576)),aQ x0 x1 x2||(bD x0 x1 x2||(!bK x0 x1 x2||leN (j9 (kY x0 x1 x2) + j9 [(0:Int)]) (9223372036854775807:Nat))),aQ x0 x1 x2||(bD x0 x1 x2||(!bK x0 x1 x2||leN ((j9 (kY x0 x1 x2) + j9 [(0:Int)]) * (8:Nat)) 140737488355328)),aQ x0 x1 x2||(bD x0 x1 x2||(bK x0 x1 x2||(!nc x0 x1 x2||(!dG x0 x1 x2||aT (eH x0 x1 x2) (gf x0 x1 x2) x2&&leN 1 (j9 [(-1:Int),(1:Int),(2:Int)]))))),aQ x0 x1 x2||(bD x0 x1 x2||(bK x0 x1 x2||(!nc x0 x1 x2||(!dG x0 x1 x2||leI 0 0)))),aQ x0 x1 x2||(bD x0 x1 x2||(bK x0 x1 x2||(!nc x0 x1 x2||(!dG x0 x1 x2||dG x0 x1 x2)))),aQ x0 x1 x2||(bD x0 x1 x2||(bK x0 x1 x2||(!nc x0 x1 x2||(!dG x0 x1 x2||ltN (j8 0) (j9 (iP x0 x1 x2))))))]
end
def Oz:List SV→List Entry→Option Out
 | [.one ⟨false,[.ptr 0 0]⟩],[.box 113 [.ref 1,.val (.int .i64 x0),.val (.int .i64 x1)],.row false 5 (.int .u8) x2]=>some ⟨.tup [⟨true,[.val (.int .i64 (vE x0 x1 x2)),.val (.int .i64 (vF x0 x1 x2)),.val (.int .i64 (vG x0 x1 x2)),.ref 2,.ref 3]⟩,⟨true,[.val (.int .i64 (Pf x0 x1 x2)),.ref 4,.ref 5,.ref 6,.ref 7]⟩,⟨false,[.ref 8]⟩],[.box 113 [.ref 1,.val (.int .i64 (ZK x0 x1 x2)),.val (.int .i64 (ZL x0 x1 x2))],.row false 5 ake x2],[.row true 122 afs (vH x0 x1 x2),.row true 83 ahF (vI x0 x1 x2),.row true 2 akd (vJ x0 x1 x2),.row true 2 akd (vK x0 x1 x2),.row true 2 akd (um x0 x1 x2),.row true 109 ac0 (uo x0 x1 x2),.row true 2 akd (uq x0 x1 x2)],[ur x0 x1 x2]⟩
 |_,_=>none
def Gk:PF prog:=PF.ofG prog (T3z [ux,DB,cP,zk,ao,aE,aW]) [dY.F] bG 41 f41 func41 (LOk.fnT (l:= [bV f41 0]) (by kernel_rfl) (.cons RT (.nil _))) Oz (by
 intro vs es r h;unfold Oz at h;split at h
 ·cases h;kernel_rfl
 ·cases h)
section
variable (x0:List Int)
def bx:Int:=vE 0 (frS x0) x0
def bz:Int:=vF 0 (frS x0) x0
def bA:Int:=vG 0 (frS x0) x0
def bX:Int:=Pf 0 (frS x0) x0
def aK:List (Int×(alV×Int)):=vH 0 (frS x0) x0
def bB:List (Int×Int):=vI 0 (frS x0) x0
def aZ:List Int:=vJ 0 (frS x0) x0
def ba:List Int:=vK 0 (frS x0) x0
def bc:List Int:=um 0 (frS x0) x0
def bC:List (Int×(Int×Int)):=uo 0 (frS x0) x0
def bE:List Int:=uq 0 (frS x0) x0
def Bi:Bool:=allT [aT 0 0 x0,ur 0 (frS x0) x0]
end
def Ka:List SV→List Entry→Option Out
 | [.one ⟨false,[.ref 0]⟩],[.row false 5 (.int .u8) x0]=>some ⟨.tup [⟨true,[.val (.int .i64 (bx x0)),.val (.int .i64 (bz x0)),.val (.int .i64 (bA x0)),.ref 1,.ref 2]⟩,⟨true,[.val (.int .i64 (bX x0)),.ref 3,.ref 4,.ref 5,.ref 6]⟩,⟨false,[.ref 7]⟩],[.row false 5 ake x0],[.row true 122 afs (aK x0),.row true 83 ahF (bB x0),.row true 2 akd (aZ x0),.row true 2 akd (ba x0),.row true 2 akd (bc x0),.row true 109 ac0 (bC x0),.row true 2 akd (bE x0)],[Bi x0]⟩
 |_,_=>none
def VY:PF prog:=PF.ofG prog (T3z [Gk,SJ]) [] bG 7 f7 func7 (fun c _=>LOk.nil c) Ka (by
 intro vs es r h;unfold Ka at h;split at h
 ·cases h;kernel_rfl
 ·cases h)
 attribute [local irreducible] nxA nxS nxV pkA pkS pkV
theorem arv{i v o:Int}{bs:List TM}{st:List IN}{xs:List Int}{ss:List BS3}(hC:eR i v o bs st=true)(hs:vL v bs xs ss=true):
  OkS i v o bs st (0,[],xs,v4 o.toNat 0,ss):=by
 have hC':=hC
 simp only [eR,q9]at hC'
 obtain⟨ri,rv,ro,rb,rs⟩:=FL.1 hC'.1
 have e:hAt i v o bs st 0=0:=rfl
 have ho:bitsB o (v4 o.toNat 0)=true:=cO.2 ⟨fun x hx=> .inl (List.eq_of_mem_replicate hx),by rw [j7];omega⟩
 have e0:bitsB 0 []=true:=rfl
 have hr:inR 0 0 (st.length:Int)=true:=tE.2 (by omega)
 exact agy hC (by simp only [IL,e,e0,ho,hs,hr,Bool.and_self])
theorem apv{i v o:Int}{bs:List TM}{st:List IN}{inp:List Int}(hC:eR i v o bs st=true)(tu:bitsB i inp=true): ∀ (n:Nat) (m:MS),OkS i v o bs st m→m.1 + n≤st.length→
  ∃ m':MS,OkS i v o bs st m'∧JP dY.lt (n + 1) ((n:Int),i,v,o,m.1,inp,bs,st,m.2.1,m.2.2.1,m.2.2.2.1,m.2.2.2.2)=
   some (0,((0:Int),i,v,o,m'.1,inp,bs,st,m'.2.1,m'.2.2.1,m'.2.2.2.1,m'.2.2.2.2))
 |0,m,hm,_=>⟨m,hm,FM _ (by
   have e0:ltI (0:Int) ((0:Nat):Int)=false:=rfl
   simp only [dY,Be,LT.out,CE,e0,cond_false])⟩
 |n + 1,m,hm,hl=>by
  have h0:=hm.lo
  have eQ:m.1 < st.length:=by omega
  have hs:=(aeQ hC tu hm eQ).1
  have he:(Uk bs st inp m).1=m.1 + 1:=rfl
  obtain⟨m',h1,h2⟩:=apv hC tu n _ hs (by rw [he];omega)
  refine⟨m',h1,?_⟩
  obtain⟨k,stk,xs,os,ss⟩:=m
  have hlt':k < st.length:=eQ
  have q0:ltI 0 ((n + 1:Nat):Int)=true:=cS (by omega)
  have hmc:IL i v o bs st k stk xs os ss=true:=anA hC hm
  have q1:ahX i v o bs st inp k stk xs os ss=true:=by
   simp only [ahX,SW,hC,tu,hmc,cS hlt',Bool.and_self]
  have q2:v3 .i64 (((n + 1:Nat):Int) - 1)=(n:Int):=by
   have:=hm.hi
   rw [aJ (by omega) (by have hb:=(FL.1 (by simp only [eR,q9]at hC;exact hC.1)).2.2.2.2;omega)];omega
  rw [Px (y:=((n:Int),i,v,o,(Uk bs st inp (k,stk,xs,os,ss)).1,inp,bs,st,(Uk bs st inp (k,stk,xs,os,ss)).2.1,(Uk bs st inp (k,stk,xs,os,ss)).2.2.1,(Uk bs st inp (k,stk,xs,os,ss)).2.2.2.1,(Uk bs st inp (k,stk,xs,os,ss)).2.2.2.2)) _ (by
   simp only [dY,Be,LT.out,CE,KA,KB,KC,KD,KE,KF,KG,q0,q1,q2,allT,cond_true,stM])]
  exact h2
theorem Kz(x0 x1:Int)(x2:List Int)(h:aT x0 x1 x2=true):
  ur x0 x1 x2=true∧cdD (vE x0 x1 x2) (vF x0 x1 x2) (vG x0 x1 x2) (vH x0 x1 x2) (vI x0 x1 x2)=true∧
  (vJ x0 x1 x2).length≤10000∧(vK x0 x1 x2).length≤10000∧(um x0 x1 x2).length≤10000∧(uo x0 x1 x2).length≤10000∧(uq x0 x1 x2).length≤60:=by
 obtain⟨_,s1,d2,d3,d4,d5⟩:=Vn x0 x1 x2 h
 obtain⟨c0,c1,c2,⟨c3,c4⟩,c5⟩:=RM.1 d2
 have hts:ZM (dc x0 x1 x2)=true:=af2.2 ⟨by omega,fun t ht=>by have:=c4 t ht;omega⟩
 have z0:vE x0 x1 x2=dE x0 x1 x2:=by simp only [vE,w9]
 have z1:vF x0 x1 x2=dM x0 x1 x2:=by simp only [vF,w9]
 have z2:vG x0 x1 x2=cp x0 x1 x2:=by simp only [vG,w9]
 have z6:vH x0 x1 x2=dc x0 x1 x2:=by simp only [vH,w9]
 have z7:vI x0 x1 x2=dk x0 x1 x2:=by simp only [vI,w9]
 have z12:uq x0 x1 x2=ky x0 x1 x2:=by simp only [uq,kX,w9]
 rw [z0,z1,z2,z6,z7,z12]
 have l9:leN (ky x0 x1 x2).length 9223372036854775807=true:=aR (by omega)
 have l7:leN (eO x0 x1 x2).length 9223372036854775807=true:=aR (by omega)
 have l5:leN (dc x0 x1 x2).length 9223372036854775807=true:=aR (by omega)
 have hst:Ld (cp x0 x1 x2) (eO x0 x1 x2) (eP x0 x1 x2)=true:=by
  have q1:leN (eO x0 x1 x2).length 1048576=true:=aR (by omega)
  have q2:leI 0 (cp x0 x1 x2)=true:=bu (by omega)
  have q3:leI (cp x0 x1 x2) (cp x0 x1 x2)=true:=bu (by omega)
  have q4:leI ((↑(8:Nat):Int) * (cp x0 x1 x2)) 281474976710656=true:=bu (by omega)
  have q5:leI (cp x0 x1 x2) 9223372036854775807=true:=bu (by omega)
  have q6:leN (0 + (eP x0 x1 x2).length) 9223372036854775807=true:=aR (by omega)
  have q7:leN ((0 + (eP x0 x1 x2).length) * 24) 140737488355328=true:=aR (by omega)
  simp only [Ld,q1,q2,q3,q4,q5,q6,q7,allT,cond_true]
 have h6:De (dE x0 x1 x2) (dM x0 x1 x2) (cp x0 x1 x2) (dc x0 x1 x2) (dk x0 x1 x2) (eO x0 x1 x2) (eP x0 x1 x2)=true:=by
  simp only [De,hts,l7,l5,hst,allT,w8,Bool.and_self,cond_true]
 cases hA:aQ x0 x1 x2 with
 |true=>
  refine⟨?_,d2,?_,?_,?_,?_,d5⟩
  ·simp only [ur,h,h6,hA,l9,allT,w8,Bool.true_or,cond_true]
  ·simp only [vJ,hA,cond_true,tb,Da,Lb,w9];simp
  ·simp only [vK,hA,cond_true,tc,Db]
   exact fo (by simp) (fo (by simp) (by omega))
  ·simp only [um,hA,cond_true,td,Dc,Lc]
   exact fo (by simp) (fo (by simp) (by rw [j7];omega))
  ·simp only [uo,hA,cond_true,te,Dd]
   exact fo (by simp) (fo (by simp) (by omega))
 |false=>
  have EP:eR (dE x0 x1 x2) (dM x0 x1 x2) (cp x0 x1 x2) (dc x0 x1 x2) (dk x0 x1 x2)=true∧vL (dM x0 x1 x2) (dc x0 x1 x2) (eO x0 x1 x2) (eP x0 x1 x2)=true∧bitsB (dE x0 x1 x2) (ky x0 x1 x2)=true:=by
   have h1:=hA
   simp only [aQ,qE,CZ]at h1
   cases q1:eR (dE x0 x1 x2) (dM x0 x1 x2) (cp x0 x1 x2) (dc x0 x1 x2) (dk x0 x1 x2) <;> cases q2:vL (dM x0 x1 x2) (dc x0 x1 x2) (eO x0 x1 x2) (eP x0 x1 x2) <;> cases q3:bitsB (dE x0 x1 x2) (ky x0 x1 x2) <;> rw [q1,q2,q3]at h1 <;> first | exact⟨rfl,rfl,rfl⟩ | (exact absurd h1 (by decide))
  obtain⟨hC,hS,hB⟩:=EP
  have hC':=hC
  simp only [eR,q9]at hC'
  obtain⟨ri,rv,ro,rb,rs⟩:=FL.1 hC'.1
  have a0:qE x0 x1 x2=false:=by simp only [qE,CZ,hC,hS];rfl
  have a2:dD x0 x1 x2=((dk x0 x1 x2).length:Int) + 1:=by simp only [dD];exact aJ (by omega) (by omega)
  have a7:zb x0 x1 x2=0:=by simp only [zb,JS,w9]
  have a11:kX x0 x1 x2=ky x0 x1 x2:=by simp only [kX,w9]
  have a12:tb x0 x1 x2= []:=by simp only [tb,Da,Lb,w9]
  have a13:tc x0 x1 x2=eO x0 x1 x2:=by simp only [tc,Db,hC,hS];rfl
  have a14:td x0 x1 x2=v4 (cp x0 x1 x2).toNat 0:=by simp only [td,Dc,hC,hS,Lc];rfl
  have a15:te x0 x1 x2=eP x0 x1 x2:=by simp only [te,Dd,hC,hS];rfl
  have hn:=OB (n:=dD x0 x1 x2) s1 (by rw [a2];omega)
  have s2:aT (nxA (dD x0 x1 x2) (ir x0 x1 x2) x2) (za x0 x1 x2) x2=true:=kz s1
  have s3:aT (eH x0 x1 x2) (gf x0 x1 x2) x2=true:=kz s2
  obtain⟨m',hm',hr⟩:=apv hC hB (nxV (dD x0 x1 x2) (ir x0 x1 x2) (od x0 x1 x2) x2).toNat (0,[],eO x0 x1 x2,v4 (cp x0 x1 x2).toNat 0,eP x0 x1 x2) (arv hC hS) (by
   have:=hn.2;rw [a2]at this ⊢;simp only;omega)
  have e16:(((nxV (dD x0 x1 x2) (ir x0 x1 x2) (od x0 x1 x2) x2).toNat:Nat):Int)=nxV (dD x0 x1 x2) (ir x0 x1 x2) (od x0 x1 x2) x2:=by omega
  obtain⟨f1,f2⟩:=dY.run hr (ad4 (by simp only [dY];omega))
  rw [e16]at f1 f2
  have g16:tf x0 x1 x2=(nxV (dD x0 x1 x2) (ir x0 x1 x2) (od x0 x1 x2) x2,dE x0 x1 x2,dM x0 x1 x2,cp x0 x1 x2,0,ky x0 x1 x2,dc x0 x1 x2,dk x0 x1 x2,[],eO x0 x1 x2,v4 (cp x0 x1 x2).toNat 0,eP x0 x1 x2):=by
   simp only [tf,a7,a11,a12,a13,a14,a15]
  have ff:Lp.fin dY (tf x0 x1 x2)=true:=by rw [g16];exact f1
  have a17:xO x0 x1 x2=(m'.1,ky x0 x1 x2,dc x0 x1 x2,dk x0 x1 x2,m'.2.1,m'.2.2.1,m'.2.2.2.1,m'.2.2.2.2):=by simp only [xO,g16];rw [f2]
  have a25:kY x0 x1 x2=m'.2.1:=by simp only [kY,py,a17]
  have a26:th x0 x1 x2=m'.2.2.1:=by simp only [th,tg,py,a17]
  have a23:iP x0 x1 x2=m'.2.2.2.1:=by simp only [iP,xP,tg,py,a17]
  have a27:ti x0 x1 x2=m'.2.2.2.2:=by simp only [ti,xP,tg,py,a17]
  obtain⟨k1,k2,k3,k4⟩:=anz hC hm'
  refine⟨?_,d2,?_,?_,?_,?_,d5⟩
  ·have j1:leN m'.2.1.length 1048576=true:=aR (by omega)
   have j2:leN (m'.2.1.length + [(0:Int)].length) 9223372036854775807=true:=aR (by simp only [List.length_cons,List.length_nil];omega)
   have j3:leN ((m'.2.1.length + [(0:Int)].length) * 8) 140737488355328=true:=aR (by simp only [List.length_cons,List.length_nil];omega)
   have j4:leI 0 0=true:=rfl
   have j5:(!dG x0 x1 x2||dG x0 x1 x2)=true:=by cases dG x0 x1 x2 <;> rfl
   have j6:(!dG x0 x1 x2||ltN (j8 0) m'.2.2.2.1.length)=true:=by
    simp only [dG,a23]
    cases q:ltI 0 (m'.2.2.2.1.length:Int)with
    |false=>rfl
    |true=>exact dI (by have:=GX.1 q;simp;omega)
   simp only [ur,h,h6,a0,hA,l9,s1,s2,s3,ff,a25,a23,j1,j2,j3,j4,j5,j6,aea,allT,w8,Bool.true_or,Bool.and_self,cond_true]
  ·simp only [vJ,hA,cond_false,a25]
   exact fo (by omega) (fo (by simp only [w7,List.length_cons,List.length_nil];omega) (by omega))
  ·simp only [vK,hA,cond_false,a26]
   exact fo (by omega) (fo (by omega) (by omega))
  ·simp only [um,hA,cond_false,a23]
   exact fo (by omega) (fo (by omega) (fo (fo (by rw [List.length_set];omega) (by omega)) (by omega)))
  ·simp only [uo,hA,cond_false,a27]
   exact fo (by omega) (fo (by omega) (by omega))
theorem aq9(c:List Int)(h:aT 0 0 c=true):Bi c=true:=by
 have h1:=(akQ c h).2
 have h2:=(Kz 0 (frS c) c h1).1
 simp only [Bi,h,h1,h2,allT,cond_true]
def Kb:List SV→List Entry→Option Out
 | [.one ⟨false,[.ref 0]⟩],[.row false 5 (.int .u8) x0]=>some ⟨.tup [⟨true,[.val (.int .i64 (bx x0)),.val (.int .i64 (bz x0)),.val (.int .i64 (bA x0)),.ref 1,.ref 2]⟩,⟨true,[.val (.int .i64 (bX x0)),.ref 3,.ref 4,.ref 5,.ref 6]⟩,⟨false,[.ref 7]⟩],[.row false 5 ake x0],[.row true 122 afs (aK x0),.row true 83 ahF (bB x0),.row true 2 akd (aZ x0),.row true 2 akd (ba x0),.row true 2 akd (bc x0),.row true 109 ac0 (bC x0),.row true 2 akd (bE x0)],[aT 0 0 x0]⟩
 |_,_=>none
def om:PF prog:=PF.alt VY Kb (by
 intro args es o h cf;unfold Kb at h;split at h
 ·rename_i x0
  cases h
  have cf:=iw cf
  have hh:=aq9 x0 cf
  have en:=hh
  exact mK rfl (gE en) rfl rfl rfl
 ·cases h)
end Go.SX
namespace Go.SX
open Go.Proofs Go.Proofs.Tryz
set_option maxRecDepth 100000
abbrev gR:=Int×Int×Int×Int×Int×Int×List Int×List (Int×(alV×Int))×List (Int×Int)×List Int×List Int×List Int×List (Int×(Int×Int))
section
variable (y0 y1 y2 y3 y4 y5:Int)(y6:List Int)(y7:List (Int×(alV×Int)))(y8:List (Int×Int))(y9 y10 y11:List Int)(y12:List (Int×(Int×Int)))
def Ba:Bool:=GV y2 y3 y4 y7 y8 y5 y9 y10 y11 y12 y6 !=0
def nE:Bool:= !Ba y2 y3 y4 y5 y6 y7 y8 y9 y10 y11 y12&&true
def qI:List Int:=((ssM y2 y3 y4 y7 y8 y5 y9 y10 y11 y12 y6).2).1
def qJ:List Int:=((ssM y2 y3 y4 y7 y8 y5 y9 y10 y11 y12 y6).2.2).1
def qK:List Int:=((ssM y2 y3 y4 y7 y8 y5 y9 y10 y11 y12 y6).2.2.2).1
def Bb:Int:=(ssM y2 y3 y4 y7 y8 y5 y9 y10 y11 y12 y6).1
def Cn:Bool:=ltI y0 y1
def Kd:Bool:=abd y7 y9 y10 y11 [y6]&&leN y12.length (1048576:Nat)
def Ke:Bool:= !nE y2 y3 y4 y5 y6 y7 y8 y9 y10 y11 y12||mcN y7 (qI y2 y3 y4 y5 y6 y7 y8 y9 y10 y11 y12) (qJ y2 y3 y4 y5 y6 y7 y8 y9 y10 y11 y12) (qK y2 y3 y4 y5 y6 y7 y8 y9 y10 y11 y12)
def Kf:Bool:=bif Ba y2 y3 y4 y5 y6 y7 y8 y9 y10 y11 y12 then true else !isM y2 y3 y4 y7 y8 (Bb y2 y3 y4 y5 y6 y7 y8 y9 y10 y11 y12) (qI y2 y3 y4 y5 y6 y7 y8 y9 y10 y11 y12) (qJ y2 y3 y4 y5 y6 y7 y8 y9 y10 y11 y12) (qK y2 y3 y4 y5 y6 y7 y8 y9 y10 y11 y12) ((ssM y2 y3 y4 y7 y8 y5 y9 y10 y11 y12 y6).2.2.2.2)
def Kg:Int:=v3 .i64 (y0 + (1:Int))
def Kh:Int:=Bb y2 y3 y4 y5 y6 y7 y8 y9 y10 y11 y12
def Ki:List Int:=bif nE y2 y3 y4 y5 y6 y7 y8 y9 y10 y11 y12 then qI y2 y3 y4 y5 y6 y7 y8 y9 y10 y11 y12 else qI y2 y3 y4 y5 y6 y7 y8 y9 y10 y11 y12
def Kj:List Int:=bif nE y2 y3 y4 y5 y6 y7 y8 y9 y10 y11 y12 then qJ y2 y3 y4 y5 y6 y7 y8 y9 y10 y11 y12 else qJ y2 y3 y4 y5 y6 y7 y8 y9 y10 y11 y12
def Kk:List Int:=bif nE y2 y3 y4 y5 y6 y7 y8 y9 y10 y11 y12 then qK y2 y3 y4 y5 y6 y7 y8 y9 y10 y11 y12 else qK y2 y3 y4 y5 y6 y7 y8 y9 y10 y11 y12
def Kl:List (Int×(Int×Int)):=bif nE y2 y3 y4 y5 y6 y7 y8 y9 y10 y11 y12 then (ssM y2 y3 y4 y7 y8 y5 y9 y10 y11 y12 y6).2.2.2.2else (ssM y2 y3 y4 y7 y8 y5 y9 y10 y11 y12 y6).2.2.2.2
end
def Ua:gR→List (Nat×SV)
 |(y0,y1,_,_,_,_,_,_,_,_,_,_,_)=> [(15,(.one ⟨false,[.val (.int .i64 y0)]⟩)),(12,(.one ⟨false,[.val (.int .i64 y1)]⟩)),(3,(.one ⟨false,[.ptr 0 0]⟩)),(14,(.one ⟨false,[.ptr 1 0]⟩)),(5,(.one ⟨false,[.ref 2]⟩))]
def TX:gR→List (Nat×Entry)
 |(_,_,y2,y3,y4,y5,y6,y7,y8,y9,y10,y11,y12)=> [(0,(.box 27 [.val (.int .i64 y2),.val (.int .i64 y3),.val (.int .i64 y4),.ref 3,.ref 4])),(1,(.box 31 [.val (.int .i64 y5),.ref 5,.ref 6,.ref 7,.ref 8])),(2,(.row false 2 akd y6)),(3,(.row false 122 afs y7)),(4,(.row false 83 ahF y8)),(5,(.row false 2 akd y9)),(6,(.row false 2 akd y10)),(7,(.row false 2 akd y11)),(8,(.row false 109 ac0 y12))]
def Ug:Nat→gR→List (Nat×SV)
 |0,(_,_,_,_,_,_,_,_,_,_,_,_,_)=> [(2,(.one ⟨false,[.val (.bool false)]⟩))]
 |_,(_,_,_,_,_,_,_,_,_,_,_,_,_)=> []
def Ud:Nat→gR→List (Nat×Entry)
 |0,(_,_,y2,y3,y4,y5,y6,y7,y8,y9,y10,y11,y12)=> [(0,(.box 27 [.val (.int .i64 y2),.val (.int .i64 y3),.val (.int .i64 y4),.ref 3,.ref 4])),(1,(.box 31 [.val (.int .i64 y5),.ref 5,.ref 6,.ref 7,.ref 8])),(2,(.row false 2 akd y6)),(3,(.row false 122 afs y7)),(4,(.row false 83 ahF y8)),(5,(.row false 2 akd y9)),(6,(.row false 2 akd y10)),(7,(.row false 2 akd y11)),(8,(.row false 109 ac0 y12))]
 |_,(_,_,y2,y3,y4,y5,y6,y7,y8,y9,y10,y11,y12)=> [(0,(.box 27 [.val (.int .i64 y2),.val (.int .i64 y3),.val (.int .i64 y4),.ref 3,.ref 4])),(1,(.box 31 [.val (.int .i64 y5),.ref 5,.ref 6,.ref 7,.ref 8])),(2,(.row false 2 akd y6)),(3,(.row false 122 afs y7)),(4,(.row false 83 ahF y8)),(5,(.row false 2 akd y9)),(6,(.row false 2 akd y10)),(7,(.row false 2 akd y11)),(8,(.row false 109 ac0 y12))]
def Bc:gR→LT gR
 |(y0,y1,y2,y3,y4,y5,y6,y7,y8,y9,y10,y11,y12)=> .ite (Cn y0 y1) (.need [Kd y6 y7 y9 y10 y11 y12] (.need [Ke y2 y3 y4 y5 y6 y7 y8 y9 y10 y11 y12] (.ite (Kf y2 y3 y4 y5 y6 y7 y8 y9 y10 y11 y12) (.ext 0 [(0,0),(1,1),(2,2),(3,3),(4,4),(5,5),(6,6),(7,7),(8,8)]) (.nrm ((Kg y0),y1,y2,y3,y4,Kh y2 y3 y4 y5 y6 y7 y8 y9 y10 y11 y12,y6,y7,y8,Ki y2 y3 y4 y5 y6 y7 y8 y9 y10 y11 y12,Kj y2 y3 y4 y5 y6 y7 y8 y9 y10 y11 y12,Kk y2 y3 y4 y5 y6 y7 y8 y9 y10 y11 y12,(Kl y2 y3 y4 y5 y6 y7 y8 y9 y10 y11 y12)) [(0,0),(1,1),(2,2),(3,3),(4,4),(5,448),(6,449),(7,450),(8,451)])))) (.ext 1 [(0,0),(1,1),(2,2),(3,3),(4,4),(5,5),(6,6),(7,7),(8,8)])
def Bf(s:St):Option gR:=
 (match s.look 15 with
 |some ⟨none,.one ⟨false,[.val (.int .i64 y0)]⟩⟩=>
 (match s.look 12 with
 |some ⟨none,.one ⟨false,[.val (.int .i64 y1)]⟩⟩=>
 (match s.look 3 with
 |some ⟨none,.one ⟨false,[.ptr 704 0]⟩⟩=>
 (match s.look 14 with
 |some ⟨none,.one ⟨false,[.ptr 5312 0]⟩⟩=>
 (match s.look 5 with
 |some ⟨none,.one ⟨false,[.ref 390]⟩⟩=>
 (match s.ent 704 with
 |some (.box 27 [.val (.int .i64 y2),.val (.int .i64 y3),.val (.int .i64 y4),.ref 384,.ref 385])=>
 (match s.ent 5312 with
 |some (.box 31 [.val (.int .i64 y5),.ref 6080,.ref 6720,.ref 7360,.ref 8000])=>
 (match s.ent 390 with
 |some (.row false 2 (.int .i64) y6)=>
 (match s.ent 384 with
 |some (.row false 122 (.pair (.int .i64) (.pair .str (.int .i64))) y7)=>
 (match s.ent 385 with
 |some (.row false 83 (.pair (.int .i64) (.int .i64)) y8)=>
 (match s.ent 6080 with
 |some (.row false 2 (.int .i64) y9)=>
 (match s.ent 6720 with
 |some (.row false 2 (.int .i64) y10)=>
 (match s.ent 7360 with
 |some (.row false 2 (.int .i64) y11)=>
 (match s.ent 8000 with
 |some (.row false 109 (.pair (.int .i64) (.pair (.int .i64) (.int .i64))) y12)=>
 some (y0,y1,y2,y3,y4,y5,y6,y7,y8,y9,y10,y11,y12)
 |_=>none)
 |_=>none)
 |_=>none)
 |_=>none)
 |_=>none)
 |_=>none)
 |_=>none)
 |_=>none)
 |_=>none)
 |_=>none)
 |_=>none)
 |_=>none)
 |_=>none)
 |_=>none)
def cG:Lp gR where
 h:=⟨[85,86,87,91,92,93,94,90,95,96,16,17,97,98,99,100,101,102,103,104,2,105,88,89,15],[0,1,2,3,4],[5,6,7,8],[]⟩
 JL:=Ua
 JE:=TX
 XL:=Ug
 XE:=Ud
 q:=fun j=>match j with | 0=> .ret | _=> .exit 0
 tags:= [0,1]
 lt:=Bc
 fuel:=fun(y0,y1,y2,y3,y4,y5,y6,y7,y8,y9,y10,y11,y12)=>y0.natAbs + y1.natAbs + y2.natAbs + y3.natAbs + y4.natAbs + y5.natAbs + y6.length + y7.length + y8.length + y9.length + y10.length + y11.length + y12.length
 fix:=fun(_,y1,y2,y3,y4,_,y6,y7,y8,_,_,_,_) (y0,_,_,_,_,y5,_,_,_,y9,y10,y11,y12)=>(y0,y1,y2,y3,y4,y5,y6,y7,y8,y9,y10,y11,y12)
 σ:= [(0,704),(1,5312),(2,390),(3,384),(4,385),(5,6080),(6,6720),(7,7360),(8,8000)]
 rd:=Bf
 fz:= [1]
theorem RR:LoopOk prog (fun k=>Nat.blt k Tryz.f3.ntmps) cG.F (bV f3 0):=by
 refine Lp.ok (tbl:= (T3z [FU,FV,sE,zi,zj,vS,Pr,om,sD,sF])) (lf:= []) bG cG (by kernel_rfl) (LOk.nil _) (fun _=>rfl) (fun j _=>by unfold cG;match j with | 0=>rfl | _ + 1=>rfl) ?_ ?_ ?_ ?_ (fun _=>rfl) ?_
 ·rintro⟨y0,y1,y2,y3,y4,y5,y6,y7,y8,y9,y10,y11,y12⟩;kernel_rfl
 ·rintro⟨y0,y1,y2,y3,y4,y5,y6,y7,y8,y9,y10,y11,y12⟩;kernel_rfl
 ·intro s x h
  have h:Bf s=some x:=h
  unfold Bf at h
  repeat' split at h
  all_goals cases h
  constructor<;>repeat(first|refine ab (by assumption) rfl ?_|refine aa rfl (by assumption) rfl ?_|exact rfl)
 ·rintro⟨y0,y1,y2,y3,y4,y5,y6,y7,y8,y9,y10,y11,y12⟩;kernel_rfl
 ·rintro⟨y0,y1,y2,y3,y4,y5,y6,y7,y8,y9,y10,y11,y12⟩ z;exact(And.intro (And.intro trivial rfl) trivial)
section
variable (x0:List Int)
def ch:Int:=tv (bx x0) (bz x0) (bA x0) (aK x0) (bB x0) (bX x0) (aZ x0) (ba x0) (bc x0) (bC x0) [bE x0]
def tH:Int:=(sfM (bx x0) (bz x0) (bA x0) (aK x0) (bB x0) (bX x0) (aZ x0) (ba x0) (bc x0) (bC x0) (bE x0)).1
def nI:List Int:=((sfM (bx x0) (bz x0) (bA x0) (aK x0) (bB x0) (bX x0) (aZ x0) (ba x0) (bc x0) (bC x0) (bE x0)).2).1
def nJ:List Int:=((sfM (bx x0) (bz x0) (bA x0) (aK x0) (bB x0) (bX x0) (aZ x0) (ba x0) (bc x0) (bC x0) (bE x0)).2.2).1
def nL:List Int:=((sfM (bx x0) (bz x0) (bA x0) (aK x0) (bB x0) (bX x0) (aZ x0) (ba x0) (bc x0) (bC x0) (bE x0)).2.2.2).1
def yN:Int:=mcC (bx x0) (bz x0) (bA x0) (aK x0) (bB x0) (bX x0) (aZ x0) (ba x0) (bc x0) (bC x0)
def pV:Int:=lfV (bx x0) (bz x0) (bA x0) (aK x0) (bB x0) (bX x0) (aZ x0) (ba x0) (bc x0) (bC x0)
def yO:Bool:=bif bif bif ch x0 !=ch x0 then true else !anv (tH x0) (nI x0) (nJ x0) (nL x0) ((sfM (bx x0) (bz x0) (bA x0) (aK x0) (bB x0) (bX x0) (aZ x0) (ba x0) (bc x0) (bC x0) (bE x0)).2.2.2.2) (tH x0) (nI x0) (nJ x0) (nL x0) ((sfM (bx x0) (bz x0) (bA x0) (aK x0) (bB x0) (bX x0) (aZ x0) (ba x0) (bc x0) (bC x0) (bE x0)).2.2.2.2)then true else yN x0 !=yN x0 then true else pV x0 !=pV x0
def yP:Bool:=isM (bx x0) (bz x0) (bA x0) (aK x0) (bB x0) (bX x0) (aZ x0) (ba x0) (bc x0) (bC x0)
def pW:Bool:=bif yO x0 then true else !yP x0==yP x0
def kP:Int×Int×Int×Int×Int×Int×List Int×List (Int×alV×Int)×List (Int×Int)×List Int×List Int×List Int×List (Int×Int×Int):=((0:Int),pV x0,bx x0,bz x0,bA x0,bX x0,bE x0,aK x0,bB x0,aZ x0,ba x0,bc x0,bC x0)
def sz:Bool:=Nat.beq ((Lp.res cG (kP x0)).1) 0
def xD:Int×List Int×List (Int×alV×Int)×List (Int×Int)×List Int×List Int×List Int×List (Int×Int×Int):=(Lp.res cG (kP x0)).2.2.2.2.2.2
def xE:Int:=(xD x0).1
def sA:List Int×List Int×List Int×List (Int×Int×Int):=(xD x0).2.2.2.2
def pp:List Int:=(sA x0).1
def xF:List Int×List Int×List (Int×Int×Int):=(sA x0).2
def pq:List Int:=(xF x0).1
def ge:List Int×List (Int×Int×Int):=(xF x0).2
def DA:Bool:=abd (aK x0) (aZ x0) (ba x0) (bc x0) [bE x0]
def xG:Bool:=tI x0||(!(!yO x0&&true)||mcN (aK x0) (aZ x0) (ba x0) (bc x0))
def vb:Bool:=bif tI x0 then true else bif pW x0 then false else bif ch x0 !=0 then true else bif sz x0 then false else bif anv (xE x0) (pp x0) (pq x0) ((ge x0).1) ((ge x0).2) (tH x0) (bif !ch x0 !=ch x0&&true then nI x0 else nI x0) (bif !ch x0 !=ch x0&&true then nJ x0 else nJ x0) (bif !ch x0 !=ch x0&&true then nL x0 else nL x0) (bif !ch x0 !=ch x0&&true then (sfM (bx x0) (bz x0) (bA x0) (aK x0) (bB x0) (bX x0) (aZ x0) (ba x0) (bc x0) (bC x0) (bE x0)).2.2.2.2else (sfM (bx x0) (bz x0) (bA x0) (aK x0) (bB x0) (bX x0) (aZ x0) (ba x0) (bc x0) (bC x0) (bE x0)).2.2.2.2)then GV (bx x0) (bz x0) (bA x0) (aK x0) (bB x0) (xE x0) (pp x0) (pq x0) ((ge x0).1) ((ge x0).2) (bE x0)==5 else false
def vc:Bool:=allT [tI x0||aT 0 0 x0,tI x0||DA x0&&leN (j9 (bC x0)) 1048576,tI x0||DA x0,tI x0||mcN (aK x0) (aZ x0) (ba x0) (bc x0),tI x0||mcN (aK x0) (aZ x0) (ba x0) (bc x0),tI x0||(!(!ch x0 !=ch x0&&true)||lkN (nI x0) (nJ x0) (nL x0) ((sfM (bx x0) (bz x0) (bA x0) (aK x0) (bB x0) (bX x0) (aZ x0) (ba x0) (bc x0) (bC x0) (bE x0)).2.2.2.2)),xG x0,xG x0,tI x0||(pW x0||(ch x0 !=0||Lp.fin cG (kP x0))),tI x0||(pW x0||(ch x0 !=0||(sz x0||abd (aK x0) (pp x0) (pq x0) ((ge x0).1) [bE x0]&&leN (j9 ((ge x0).2)) 1048576))),tI x0||(pW x0||(ch x0 !=0||(sz x0||lkN (pp x0) (pq x0) ((ge x0).1) ((ge x0).2))))]
end
def Oy:List SV→List Entry→Option Out
 | [.one ⟨false,[.ref 0]⟩],[.row false 5 (.int .u8) x0]=>some ⟨.one ⟨false,[.val (.bool (vb x0))]⟩,[.row false 5 ake x0],[],[vc x0]⟩
 |_,_=>none
def ZI:PF prog:=PF.ofG prog (T3z [FU,FV,sE,zi,zj,vS,Pr,om,sD,sF]) [(fun s=>cG.F (aaL [(5312,1),(5312,2),(5312,3),(5312,4)] s))] bG 3 f3 func3 (LOk.fnT (l:= [bV f3 0]) (by kernel_rfl) (.cons (RR.alias [(5312,1),(5312,2),(5312,3),(5312,4)]) (.nil _))) Oy (by
 intro vs es r h;unfold Oy at h;split at h
 ·cases h;kernel_rfl
 ·cases h)
theorem aoz{i v o:Int}{bs:List TM}{st:List IN}{inp:List Int}{m:MS}(hC:eR i v o bs st=true)(tu:bitsB i inp=true)(hm:OkS i v o bs st m):
  tv i v o bs st m.1 m.2.1 m.2.2.1 m.2.2.2.1 m.2.2.2.2 [inp]=0:=by
 have h:=anA hC hm
 simp only [tv,hC,h,tu,List.all_cons,List.all_nil,Bool.and_self,Bool.not_true,cond_false]
theorem anB{i v o:Int}{bs:List TM}{st:List IN}{inp:List Int}{m:MS}(hC:eR i v o bs st=true)(ht:ZM bs=true)(tu:bitsB i inp=true)(hm:OkS i v o bs st m):
  abd bs m.2.1 m.2.2.1 m.2.2.2.1 [inp]=true∧mcN bs m.2.1 m.2.2.1 m.2.2.2.1=true∧leN m.2.2.2.2.length 1048576=true∧lkN m.2.1 m.2.2.1 m.2.2.2.1 m.2.2.2.2=true:=by
 obtain⟨k1,k2,k3,k4⟩:=anz hC hm
 have hC':=hC
 simp only [eR,q9]at hC'
 obtain⟨ri,_⟩:=FL.1 hC'.1
 have hi:=(cO.1 tu).2
 have l1: ∀ (b:Nat) (l:List Int),l.length≤b→leN l.length b=true:=fun b l h=>aR h
 have hL:ags [inp]=true:=by
  simp only [ags,List.all_cons,List.all_nil,Bool.and_true,q9]
  exact⟨aR (by simp),aR (by omega)⟩
 refine⟨?_,?_,aR (by omega),?_⟩
 ·simp only [abd,ht,hL,l1 1048576 _ (show m.2.1.length≤1048576 by omega),l1 1048576 _ (show m.2.2.1.length≤1048576 by omega),l1 1048576 _ (show m.2.2.2.1.length≤1048576 by omega),Bool.and_self]
 ·simp only [mcN,ht,l1 1048576 _ (show m.2.1.length≤1048576 by omega),l1 1048576 _ (show m.2.2.1.length≤1048576 by omega),l1 1048576 _ (show m.2.2.2.1.length≤1048576 by omega),Bool.and_self]
 ·simp only [lkN,l1 9223372036854775807 _ (show m.2.1.length≤9223372036854775807 by omega),l1 9223372036854775807 _ (show m.2.2.1.length≤9223372036854775807 by omega),l1 9223372036854775807 _ (show m.2.2.2.1.length≤9223372036854775807 by omega),aR (show m.2.2.2.2.length≤9223372036854775807 by omega),Bool.and_self]
def msX(i v o:Int)(bs:List TM)(st:List IN)(inp:List Int)(j l:Int)(m:MS):gR:=(j,l,i,v,o,m.1,inp,bs,st,m.2.1,m.2.2.1,m.2.2.2.1,m.2.2.2.2)
theorem apR{i v o:Int}{bs:List TM}{st:List IN}{inp:List Int}(hC:eR i v o bs st=true)(ht:ZM bs=true)(tu:bitsB i inp=true)(l:Int)(hl:l≤100000000): ∀ (n:Nat) (m:MS) (j:Int),OkS i v o bs st m→m.1 + n=st.length→j + n=l→0≤j→
  OkS i v o bs st (ago bs st inp n m)∧JP cG.lt (n + 1) (msX i v o bs st inp j l m)=some (1,msX i v o bs st inp l l (ago bs st inp n m))
 |0,m,j,hm,_,hj,_=>⟨hm,by
   have ej:j=l:=by omega
   subst ej
   exact FM _ (by
    have e0:ltI j j=false:=wO (by omega)
    simp only [cG,Bc,msX,LT.out,Cn,e0,cond_false])⟩
 |n + 1,m,j,hm,hk,hj,h0j=>by
  have h0:=hm.lo
  have eQ:m.1 < st.length:=by omega
  have hs:=(aeQ hC tu hm eQ).1
  have he:(Uk bs st inp m).1=m.1 + 1:=rfl
  obtain⟨h1,h2⟩:=apR hC ht tu l hl n _ (j + 1) hs (by rw [he];omega) (by omega) (by omega)
  refine⟨h1,?_⟩
  have q0:ltI j l=true:=cS (by omega)
  have q2:v3 .i64 (j + 1)=j + 1:=aJ (by omega) (by omega)
  have c0:=aoz hC tu hm
  have ne:(m.1==(st.length:Int))=false:=beq_eq_false_iff_ne.2 (by omega)
  have c1:GV i v o bs st m.1 m.2.1 m.2.2.1 m.2.2.2.1 m.2.2.2.2 inp=0:=by simp only [GV,c0,ne,Bool.and_false,cond_false]
  have c2:ssM i v o bs st m.1 m.2.1 m.2.2.1 m.2.2.2.1 m.2.2.2.2 inp=Uk bs st inp m:=by rw [ssM,c1];rfl
  obtain⟨n1,n2,n3,_⟩:=anB hC ht tu hm
  obtain⟨_,n5,_,_⟩:=anB hC ht tu hs
  have hi:isM i v o bs st (Uk bs st inp m).1 (Uk bs st inp m).2.1 (Uk bs st inp m).2.2.1 (Uk bs st inp m).2.2.2.1 (Uk bs st inp m).2.2.2.2=true:=by
   simp only [isM,mcC,hC,anA hC hs];rfl
  have b0:((0:Int)!=0)=false:=rfl
  rw [Px (y:=msX i v o bs st inp (j + 1) l (Uk bs st inp m)) _ (by
   simp only [cG,Bc,msX,LT.out,Cn,Kd,Ke,Kf,Kg,Kh,Ki,Kj,Kk,Kl,
    Ba,nE,qI,qJ,qK,Bb,c1,c2,b0,q0,q2,n1,n3,n5,hi,allT,cond_true,cond_false,Bool.not_false,Bool.not_true,Bool.and_self,w8])]
  exact h2
theorem aru{c:List Int}(hb: ∀ (i:Nat) (x:Int),c[i]? =some x→0≤x∧x≤255)(h:tI c=false):aT 0 0 c=true:=by
 have:=UA.1 h
 refine ab1.2 ⟨by omega,by omega,by omega,fun x hx=> ?_⟩
 obtain⟨i,hi⟩:=List.getElem?_of_mem hx
 exact hb i x hi
theorem agt(k:Int)(stk xs os:List Int)(ss:List BS3):anv k stk xs os ss k stk xs os ss=true:=by
 simp only [anv,alO,apM,beq_self_eq_true,Bool.and_self]
theorem agr(c:List Int)(w:wfD (.sl 5 (.int .u8)) c):vb c=true∧vc c=true:=by
 have hb: ∀ (i:Nat) (x:Int),c[i]? =some x→0≤x∧x≤255:=fun i x hx=>arQ (w.2 x (List.mem_of_getElem? hx))
 cases hbig:tI c with
 |true=>simp [vb,vc,allT,hbig,xG]
 |false=>
  have hsrc:=aru hb hbig
  have hD:cdD (bx c) (bz c) (bA c) (aK c) (bB c)=true∧
    (aZ c).length≤10000∧(ba c).length≤10000∧(bc c).length≤10000∧(bC c).length≤10000∧(bE c).length≤60:=
   (Kz 0 (frS c) c (akQ c hsrc).2).2
  have r0:=Eq.refl (vb c)
  have r1:=Eq.refl (vc c)
  have r10:=Eq.refl (kP c)
  conv at r0=>rhs;simp only [vb,ch,tH,nI,nJ,nL,yN,pV,yO,yP,pW,agt,S0z,allT,hbig]
  conv at r1=>rhs;simp only [vc,ch,tH,nI,nJ,nL,yN,pV,yO,yP,pW,DA,xG,agt,S0z,allT,hbig,hsrc]
  conv at r10=>rhs;simp only [kP,pV]
  rw [r0,r1]
  generalize u0:bx c=i at *
  generalize u1:bz c=v at *
  generalize u2:bA c=o at *
  generalize u3:bX c=k at *
  generalize u4:aK c=bs at *
  generalize u5:bB c=st at *
  generalize u6:aZ c=stk at *
  generalize u7:ba c=xs at *
  generalize u8:bc c=os at *
  generalize u9:bC c=ss at *
  generalize u10:bE c=inp at *
  obtain⟨hD,d1,d2,d3,d4,d5⟩:=hD
  obtain⟨_,_,_,⟨c3,c4⟩,c5⟩:=RM.1 hD
  have hts:ZM bs=true:=af2.2 ⟨by omega,fun t ht=>by have:=c4 t ht;omega⟩
  have hL:ags [inp]=true:=by
   simp only [ags,List.all_cons,List.all_nil,Bool.and_true,q9]
   exact⟨aR (by simp),aR (by omega)⟩
  have e1:leN stk.length 1048576=true:=aR (by omega)
  have e2:leN xs.length 1048576=true:=aR (by omega)
  have e3:leN os.length 1048576=true:=aR (by omega)
  have e4:leN ss.length 1048576=true:=aR (by omega)
  have n19:abd bs stk xs os [inp]=true:=by simp only [abd,hts,hL,e1,e2,e3,Bool.and_self]
  have nC:mcN bs stk xs os=true:=by simp only [mcN,hts,e1,e2,e3,Bool.and_self]
  cases hm:tv i v o bs st k stk xs os ss [inp]!=0 with
  |true=>
   have q:(tv i v o bs st k stk xs os ss [inp]==0)=false:=by
    cases h:tv i v o bs st k stk xs os ss [inp]==0 with
    |false=>rfl
    |true=>rw [bne,h]at hm;exact absurd hm (by decide)
   have nK:lkN m0.2.1 m0.2.2.1 m0.2.2.2.1 m0.2.2.2.2=true:=rfl
   refine⟨?_,?_⟩ <;> simp only [hm,sfM,q,nK,n19,nC,e4,S0z,allT]
  |false=>
   have q:(tv i v o bs st k stk xs os ss [inp]==0)=true:=by
    cases h:tv i v o bs st k stk xs os ss [inp]==0 with
    |true=>rfl
    |false=>rw [bne,h]at hm;exact absurd hm (by decide)
   have EP:eR i v o bs st=true∧IL i v o bs st k stk xs os ss=true∧bitsB i inp=true:=by
    have h1:=q
    simp only [tv,List.all_cons,List.all_nil,Bool.and_true]at h1
    cases q1:eR i v o bs st <;> cases q2:IL i v o bs st k stk xs os ss <;> cases q3:bitsB i inp <;> rw [q1,q2,q3]at h1 <;> first | exact⟨rfl,rfl,rfl⟩ | (exact absurd h1 (by decide))
   obtain⟨hC,hmc,tu⟩:=EP
   have fl:OkS i v o bs st (k,stk,xs,os,ss):=agy hC hmc
   have k0:=fl.lo
   have k1:=fl.hi
   simp only at k0 k1
   have hmz:mcC i v o bs st k stk xs os ss=0:=by simp only [mcC,hC,hmc];rfl
   have hlf:lfV i v o bs st k stk xs os ss=(st.length:Int) - k:=by rw [lfV,hmz];rfl
   obtain⟨f1,f2⟩:=an7 hC tu _ (k,stk,xs,os,ss) fl rfl
   obtain⟨_,g2⟩:=apR hC hts tu ((st.length:Int) - k) (by omega) (st.length - k.toNat) (k,stk,xs,os,ss) 0 fl (by simp only;omega) (by omega) (by omega)
   simp only at f1 f2
   obtain⟨p1,p2⟩:=cG.run g2 (ad4 (by simp only [cG,msX];omega))
   have hsf:sfM i v o bs st k stk xs os ss inp=ago bs st inp (st.length - k.toNat) (k,stk,xs,os,ss):=by rw [sfM,q];rfl
   have s10:kP c=msX i v o bs st inp 0 ((st.length:Int) - k) (k,stk,xs,os,ss):=by rw [r10,hlf];rfl
   have pf:cG.fin (kP c)=true:=by rw [s10];exact p1
   have pr:cG.res (kP c)=(1,msX i v o bs st inp ((st.length:Int) - k) ((st.length:Int) - k) (ago bs st inp (st.length - k.toNat) (k,stk,xs,os,ss))):=by rw [s10];exact p2
   generalize hM:ago bs st inp (st.length - k.toNat) (k,stk,xs,os,ss)=m' at *
   have a11:sz c=false:=by simp only [sz,pr];rfl
   have a12:xD c=(m'.1,inp,bs,st,m'.2.1,m'.2.2.1,m'.2.2.2.1,m'.2.2.2.2):=by simp only [xD,pr,msX]
   have a13:xE c=m'.1:=by simp only [xE,a12]
   have a15:pp c=m'.2.1:=by simp only [pp,sA,a12]
   have a17:pq c=m'.2.2.1:=by simp only [pq,xF,sA,a12]
   have a18:ge c=(m'.2.2.2.1,m'.2.2.2.2):=by simp only [ge,xF,sA,a12]
   obtain⟨n1,n2,n3,n4⟩:=anB hC hts tu f1
   have z:=aoz hC tu f1
   have z5:GV i v o bs st m'.1 m'.2.1 m'.2.2.1 m'.2.2.2.1 m'.2.2.2.2 inp=5:=by
    have e:(m'.1==(st.length:Int))=true:=beq_iff_eq.2 f2
    simp only [GV,z,e,beq_self_eq_true,Bool.and_self,cond_true]
   refine⟨?_,?_⟩ <;> simp only [hm,hsf,a11,a13,a15,a17,a18,agt,z5,n1,n2,n3,n4,n19,nC,e4,pf,S0z,allT]
end Go.SX
