/- What functions of the program come to, and what that says in plain words: part 2. -/
import Derived.Test.YtbbfgoobcjlooaaGreatDoorMa
import Derived.Test.YtbbfgoobcjlooaaGreatDoorTXh
import Derived.Test.YtbbfgoobcjlooaaGreatDoorProg
set_option linter.unusedSimpArgs false
set_option linter.unusedVariables false
namespace Go.SX
open Go.Proofs Go.Proofs.Tryz
set_option maxRecDepth 100000
def nmV(ins vs:List ByteArray)(inp xs:List Int)(s:ByteArray):Int:=bif ma ins s then atZ inp (QQ ins s)else atZ xs (QQ vs s)
def tmV(ins vs:List ByteArray)(inp xs:List Int)(t:TM)(ar:List Int)(b:BS3):Int:=bif t.1==1 then nmV ins vs inp xs t.2.1 else bif t.1==2 then 1 else bif t.1==3 then 0 else bif t.1==4 then 1 - atZ ar 0 else bif t.1==5 then an3 (atZ ar 0) (atZ ar 1)else bif t.1==6 then orI (atZ ar 0) (atZ ar 1)else apt t.1 t.2.2 ar b
def ltk(t:TM)(stk:List Int):Nat:=stk.length - (takesK t.1).toNat
abbrev LS:=List Int×List BS3×Nat
def lnS(ins vs:List ByteArray)(inp xs:List Int)(t:TM)(a:LS):LS:=(a.1.take (ltk t a.1)++ [tmV ins vs inp xs t (a.1.drop (ltk t a.1)) (stAt a.2.1 a.2.2)],bif leI 7 t.1 then a.2.1.set a.2.2 (Xg t.1 t.2.2 (a.1.drop (ltk t a.1)) (stAt a.2.1 a.2.2))else a.2.1,bif leI 7 t.1 then a.2.2 + 1 else a.2.2)
def ac4(ins vs:List ByteArray)(inp xs:List Int):List TM→LS→LS
 | [],a=>a
 |t::r,a=>ac4 ins vs inp xs r (lnS ins vs inp xs t a)
theorem PW(k:Int):0≤takesK k∧takesK k≤2:=by
 simp only [takesK,lY]
 refine⟨?_,?_⟩ <;> simp only [Bool.cond_eq_ite] <;> (repeat' split) <;> decide
structure LnOk (bl:List TM) (n:Int) (k:Nat) (a:LS):Prop where
 hb: ∀ z∈a.1,z=0∨z=1
 hl:(a.1.length:Int)=n
 sl:a.2.1.length=bl.length
 sp: ∀ j,j < bl.length→possAt bl a.2.1 j=true
 hk:a.2.2=k
theorem aoz{ins vs:List ByteArray}{inp xs:List Int}(hi:bitsB ins.length inp=true)(hx:bitsB vs.length xs=true)(s:ByteArray):nmV ins vs inp xs s=0∨nmV ins vs inp xs s=1:=by
 simp only [nmV]
 cases ma ins s with
 |true=>exact Rs (fa.1 hi).1 _
 |false=>exact Rs (fa.1 hx).1 _
theorem an4{a b:Int}(hb:b=0∨b=1):an3 a b=0∨an3 a b=1:=by simp only [an3];cases a==1 <;> simp [hb]
theorem apc{a b:Int}(hb:b=0∨b=1):orI a b=0∨orI a b=1:=by simp only [orI];cases a==1 <;> simp [hb]
theorem aoB{a:Int}(ha:a=0∨a=1):1 - a=0∨1 - a=1:=by rcases ha with rfl | rfl <;> simp
theorem ai4{t:TM}{stk:List Int}(hb: ∀ z∈stk,z=0∨z=1)(ht:takesK t.1≤stk.length):bitsB (takesK t.1) (stk.drop (ltk t stk))=true:=by
 have h0:=(PW t.1).1
 refine fa.2 ⟨fun z hz=>hb z (List.mem_of_mem_drop hz),?_⟩
 simp only [ltk,List.length_drop]
 omega
theorem SN{t:TM}(hT:termB t.1 t.2.1 t.2.2=true)(h7:leI 7 t.1=true):TH t.1 t.2.1 t.2.2=true:=by simp only [TH,hT,h7];rfl
theorem afY{t:TM}(hT:termB t.1 t.2.1 t.2.2=true):1≤t.1∧t.1≤12:=by
 simp only [termB,Bool.and_eq_true,EG]at hT;exact hT.1
theorem ap8{ins vs:List ByteArray}{inp xs:List Int}{bl:List TM}{n:Int}{k:Nat}{a:LS}{t:TM}(hi:bitsB ins.length inp=true)(hx:bitsB vs.length xs=true)
  (hT:termB t.1 t.2.1 t.2.2=true) (ht:takesK t.1≤n) (hblk:leI 7 t.1=true→k < bl.length∧OO bl k=t) (h:LnOk bl n k a):
  (tmV ins vs inp xs t (a.1.drop (ltk t a.1)) (stAt a.2.1 a.2.2)=0∨tmV ins vs inp xs t (a.1.drop (ltk t a.1)) (stAt a.2.1 a.2.2)=1)∧
  LnOk bl (n - takesK t.1 + 1) (bif leI 7 t.1 then k + 1 else k) (lnS ins vs inp xs t a):=by
 have hl:=h.hl
 have hdb:=ai4 (t:=t) h.hb (by omega)
 have hd:=(fa.1 hdb).1
 have d0:=Rs hd 0
 have d1:=Rs hd 1
 have h0:=PW t.1
 have hv:leI 7 t.1=true→(tmV ins vs inp xs t (a.1.drop (ltk t a.1)) (stAt a.2.1 a.2.2)=apt t.1 t.2.2 (a.1.drop (ltk t a.1)) (stAt a.2.1 a.2.2)):=by
  intro h7
  have h7:=DR.1 h7
  simp only [tmV]
  rw [show (t.1==1)=false by simp;omega,show (t.1==2)=false by simp;omega,show (t.1==3)=false by simp;omega,show (t.1==4)=false by simp;omega,show (t.1==5)=false by simp;omega,show (t.1==6)=false by simp;omega]
  rfl
 have hvb:tmV ins vs inp xs t (a.1.drop (ltk t a.1)) (stAt a.2.1 a.2.2)=0∨tmV ins vs inp xs t (a.1.drop (ltk t a.1)) (stAt a.2.1 a.2.2)=1:=by
  cases h7:leI 7 t.1 with
  |true=>
   obtain⟨hk,hbt⟩:=hblk h7
   rw [hv h7]
   have hp:=h.sp k hk
   simp only [possAt,hbt]at hp
   rw [h.hk]
   exact apu (SN hT h7) hp hdb
  |false=>
   have hkk:=afY hT
   have h7': ¬ (7≤t.1):=fun hc=>by rw [bv hc]at h7;cases h7
   have hc:t.1=1∨t.1=2∨t.1=3∨t.1=4∨t.1=5∨t.1=6:=by omega
   rcases hc with e | e | e | e | e | e <;> simp only [tmV,e] <;> simp
   ·exact aoz hi hx _
   ·exact aoB d0
   ·exact an4 d1
   ·exact apc d1
 refine⟨hvb,⟨?_,?_,?_,?_,?_⟩⟩
 ·intro z hz
  simp only [lnS,List.mem_append,List.mem_singleton]at hz
  rcases hz with hz | rfl
  ·exact h.hb z (List.mem_of_mem_take hz)
  ·exact hvb
 ·simp only [lnS,List.length_append,List.length_take,List.length_singleton,ltk]
  omega
 ·simp only [lnS]
  cases leI 7 t.1 with
  |true=>simp only [cond_true,List.length_set];exact h.sl
  |false=>exact h.sl
 ·intro j hj
  simp only [lnS]
  cases h7:leI 7 t.1 with
  |false=>exact h.sp j hj
  |true=>
   obtain⟨hk,hbt⟩:=hblk h7
   simp only [cond_true]
   rw [h.hk]
   by_cases hjk:j=k
   ·subst hjk
    have hp:=h.sp j hj
    simp only [possAt,hbt]at hp ⊢
    have hs:stAt (a.2.1.set j (Xg t.1 t.2.2 (a.1.drop (ltk t a.1)) (stAt a.2.1 j))) j=Xg t.1 t.2.2 (a.1.drop (ltk t a.1)) (stAt a.2.1 j):=by
     simp only [stAt]
     rw [List.getElem?_set_self (by rw [h.sl];exact hj)];rfl
    rw [hs]
    exact(aoA (SN hT h7) hp hdb).2
   ·have hs:stAt (a.2.1.set k (Xg t.1 t.2.2 (a.1.drop (ltk t a.1)) (stAt a.2.1 k))) j=stAt a.2.1 j:=by
     simp only [stAt]
     rw [List.getElem?_set_ne (fun h=>hjk h.symm)]
    simp only [possAt,hs]
    exact h.sp j hj
 ·simp only [lnS]
  rw [h.hk]
def blT(ts:List TM):List TM:=ts.filter fun t=>leI 7 t.1
def blL(ls:List LN):List TM:=ls.flatMap fun l=>blT l.2
theorem acW: ∀ (l1 l2:List TM) (n:Int),htT (l1++l2) n=match htT l1 n with | some m=>htT l2 m | none=>none
 | [],l2,n=>rfl
 |t::r,l2,n=>by
  simp only [List.cons_append,htT]
  cases (termB t.1 t.2.1 t.2.2&&leI (takesK t.1) n)with
  |false=>rfl
  |true=>simp only [cond_true];exact acW r l2 _
theorem am7: ∀ (l:List TM) (n m:Int),0≤n→htT l n=some m→0≤m∧m≤n + l.length
 | [],n,m,hn,h=>by simp only [htT,Option.some.injEq]at h;simp;omega
 |t::r,n,m,hn,h=>by
  simp only [htT]at h
  have hg:=PW t.1
  cases hc:(termB t.1 t.2.1 t.2.2&&leI (takesK t.1) n)with
  |false=>rw [hc]at h;cases h
  |true=>
   rw [hc,cond_true]at h
   simp only [Bool.and_eq_true,DR]at hc
   have:=am7 r _ m (by omega) h
   simp only [List.length_cons]
   omega
theorem apM{ts:List TM}{e:Int}(lr:htT ts 0=some e){i:Nat}{t:TM}(ht:ts[i]? =some t):
  ∃ n,htT (ts.take i) 0=some n∧(0≤n∧n≤i)∧termB t.1 t.2.1 t.2.2=true∧takesK t.1≤n∧htT (ts.take (i + 1)) 0=some (n - takesK t.1 + 1):=by
 obtain⟨hi,rfl⟩:=List.getElem?_eq_some_iff.1 ht
 have hs:ts=ts.take i++ts[i]::ts.drop (i + 1):=by rw [List.getElem_cons_drop,List.take_append_drop]
 have h1:=acW (ts.take i) (ts[i]::ts.drop (i + 1)) 0
 rw [← hs,lr]at h1
 cases hp:htT (ts.take i) 0 with
 |none=>rw [hp]at h1;cases h1
 |some n=>
  rw [hp]at h1
  simp only [htT]at h1
  cases hc:(termB ts[i].1 ts[i].2.1 ts[i].2.2&&leI (takesK ts[i].1) n)with
  |false=>rw [hc]at h1;cases h1
  |true=>
   have h2:=acW (ts.take i) [ts[i]] 0
   rw [hp]at h2
   simp only [htT,hc,cond_true]at h2
   simp only [Bool.and_eq_true,DR]at hc
   have hb:=am7 _ _ _ (Int.le_refl 0) hp
   rw [List.length_take]at hb
   exact⟨n,rfl,by omega,hc.1,hc.2,by rw [← h2,List.take_succ_eq_append_getElem hi]⟩
theorem agh{ins vs:List ByteArray}{inp xs:List Int}: ∀ (l1 l2:List TM) (a:LS),ac4 ins vs inp xs (l1++l2) a=ac4 ins vs inp xs l2 (ac4 ins vs inp xs l1 a)
 | [],l2,a=>rfl
 |t::r,l2,a=>agh r l2 _
theorem VN(a b:List TM):blT (a++b)=blT a++blT b:=List.filter_append ..
theorem aho(a b:List LN):blL (a++b)=blL a++blL b:=List.flatMap_append
theorem alU{pre post ts:List TM}{i:Nat}{t:TM}(ht:ts[i]? =some t)(h7:leI 7 t.1=true):
  pre.length + (blT (ts.take i)).length < (pre++blT ts++post).length∧OO (pre++blT ts++post) (pre.length + (blT (ts.take i)).length)=t∧(blT (ts.take (i + 1))).length=(blT (ts.take i)).length + 1:=by
 obtain⟨hi,rfl⟩:=List.getElem?_eq_some_iff.1 ht
 have hs:ts=ts.take i++ts[i]::ts.drop (i + 1):=by rw [List.getElem_cons_drop,List.take_append_drop]
 have hb:blT ts=blT (ts.take i)++ts[i]::blT (ts.drop (i + 1)):=by
  conv=>lhs;rw [hs,VN]
  congr 1
  simp only [blT,List.filter_cons,h7,if_true]
 have hb2:blT (ts.take (i + 1))=blT (ts.take i)++ [ts[i]]:=by
  rw [List.take_succ_eq_append_getElem hi,VN]
  congr 1
  simp only [blT,List.filter_cons,h7,if_true,List.filter_nil]
 refine⟨?_,?_,by rw [hb2];simp⟩
 ·rw [hb];simp
 ·simp only [OO]
  rw [List.append_assoc,List.getElem?_append_right (by omega),Nat.add_sub_cancel_left,hb,List.append_assoc,List.getElem?_append_right (by omega),Nat.sub_self]
  rfl
theorem aoT{ts:List TM}{i:Nat}{t:TM}(ht:ts[i]? =some t)(h7:leI 7 t.1=false):(blT (ts.take (i + 1))).length=(blT (ts.take i)).length:=by
 obtain⟨hi,rfl⟩:=List.getElem?_eq_some_iff.1 ht
 rw [List.take_succ_eq_append_getElem hi,VN]
 simp [blT,List.filter_cons,h7]
def ahf(pre post ts:List TM)(i:Nat)(a:LS):Prop:= ∃ n,htT (ts.take i) 0=some n∧LnOk (pre++blT ts++post) n (pre.length + (blT (ts.take i)).length) a
theorem ajh{ins vs:List ByteArray}{inp xs:List Int}{pre post ts:List TM}{e:Int}{i:Nat}{a:LS}{t:TM}(hi:bitsB ins.length inp=true)(hx:bitsB vs.length xs=true)
  (lr:htT ts 0=some e) (ht:ts[i]? =some t) (h:ahf pre post ts i a):
  (0≤takesK t.1∧takesK t.1≤a.1.length)∧a.1.length≤i∧termB t.1 t.2.1 t.2.2=true∧bitsB (takesK t.1) (a.1.drop (ltk t a.1))=true∧a.2.1.length=(pre++blT ts++post).length∧
  (leI 7 t.1=true→a.2.2 < (pre++blT ts++post).length∧possB t.1 t.2.2 (stAt a.2.1 a.2.2).1 (stAt a.2.1 a.2.2).2.1 (stAt a.2.1 a.2.2).2.2=true)∧
  a.2.2≤(pre++blT ts++post).length∧(∀ z∈a.1,z=0∨z=1)∧
  ahf pre post ts (i + 1) (lnS ins vs inp xs t a):=by
 obtain⟨n,h1,h2⟩:=h
 obtain⟨n',g1,g2,g3,g4,g5⟩:=apM lr ht
 rw [h1]at g1;cases g1
 have hl:=h2.hl
 have h0:=PW t.1
 have hblk:leI 7 t.1=true→pre.length + (blT (ts.take i)).length < (pre++blT ts++post).length∧OO (pre++blT ts++post) (pre.length + (blT (ts.take i)).length)=t:=
  fun h7=>⟨(alU ht h7).1,(alU ht h7).2.1⟩
 obtain⟨_,k2⟩:=ap8 (ins:=ins) (vs:=vs) hi hx g3 g4 hblk h2
 have hkle:a.2.2≤(pre++blT ts++post).length:=by
  rw [h2.hk]
  have:(blT (ts.take i)).length≤(blT ts).length:=by
   conv=>rhs;rw [← List.take_append_drop i ts,VN]
   simp
  simp;omega
 refine⟨by omega,by omega,g3,ai4 h2.hb (by omega),h2.sl,fun h7=> ?_,hkle,h2.hb,⟨_,g5,?_⟩⟩
 ·obtain⟨q1,q2⟩:=hblk h7
  rw [h2.hk]
  have:=h2.sp _ q1
  simp only [possAt,q2]at this
  exact⟨q1,this⟩
 ·have:(bif leI 7 t.1 then pre.length + (blT (ts.take i)).length + 1 else pre.length + (blT (ts.take i)).length)=pre.length + (blT (ts.take (i + 1))).length:=by
   cases h7:leI 7 t.1 with
   |true=>rw [(alU (pre:=pre) (post:=post) ht h7).2.2];rfl
   |false=>rw [aoT ht h7];rfl
  rw [← this];exact k2
theorem ana{ins vs:List ByteArray}{inp xs:List Int}{pre post ts:List TM}{e:Int}{a:LS}(hi:bitsB ins.length inp=true)(hx:bitsB vs.length xs=true)(lr:htT ts 0=some e)(h:ahf pre post ts 0 a):
  ∀ i,i≤ts.length→ahf pre post ts i (ac4 ins vs inp xs (ts.take i) a)
 |0,_=>h
 |i + 1,eB=>by
  have h1:=ana hi hx lr h i (by omega)
  rw [List.take_succ_eq_append_getElem (by omega),agh]
  exact(ajh hi hx lr (List.getElem?_eq_getElem (by omega)) h1).2.2.2.2.2.2.2.2
theorem PV{v:Int}{bs:List TM}{xs:List Int}{ss:List BS3}:Ga v bs xs ss=true↔ss.length=bs.length∧bitsB v xs=true∧ ∀ k,k < bs.length→possAt bs ss k=true:=by
 simp only [Ga,Bool.and_eq_true,beq_iff_eq,List.all_eq_true,List.mem_range]
 constructor
 ·rintro⟨h1,h2,h3⟩;exact⟨by omega,h2,h3⟩
 ·rintro⟨h1,h2,h3⟩;exact⟨by omega,h2,h3⟩
abbrev SS4:=List Int×List Int×List BS3×Nat
def lnV(ins vs:List ByteArray)(inp:List Int)(l:LN)(a:SS4):LS:=ac4 ins vs inp a.1 l.2 ([],a.2.2.1,a.2.2.2)
def scS(ins vs os:List ByteArray)(inp:List Int)(l:LN)(a:SS4):SS4:=(bif ma vs l.1 then a.1.set (QQ vs l.1) (atZ (lnV ins vs inp l a).1 0)else a.1,bif ma vs l.1 then a.2.1 else a.2.1.set (QQ os l.1) (atZ (lnV ins vs inp l a).1 0),(lnV ins vs inp l a).2.1,(lnV ins vs inp l a).2.2)
def amE(ins vs os:List ByteArray)(inp:List Int):List LN→SS4→SS4
 | [],a=>a
 |l::r,a=>amE ins vs os inp r (scS ins vs os inp l a)
theorem agu{ins vs os:List ByteArray}{inp:List Int}: ∀ (l1 l2:List LN) (a:SS4),amE ins vs os inp (l1++l2) a=amE ins vs os inp l2 (amE ins vs os inp l1 a)
 | [],l2,a=>rfl
 |t::r,l2,a=>agu r l2 _
structure ScAt (vs os:List ByteArray) (ls:List LN) (i:Nat) (a:SS4):Prop where
 hx:bitsB vs.length a.1=true
 ho:bitsB os.length a.2.1=true
 sl:a.2.2.1.length=(blL ls).length
 sp: ∀ j,j < (blL ls).length→possAt (blL ls) a.2.2.1 j=true
 hk:a.2.2.2=(blL (ls.take i)).length
theorem aad{ls:List LN}{i:Nat}{l:LN}(hl:ls[i]? =some l):blL ls=blL (ls.take i)++blT l.2++blL (ls.drop (i + 1))∧(blL (ls.take (i + 1))).length=(blL (ls.take i)).length + (blT l.2).length:=by
 obtain⟨hi,rfl⟩:=List.getElem?_eq_some_iff.1 hl
 have hs:ls=ls.take i++ls[i]::ls.drop (i + 1):=by rw [List.getElem_cons_drop,List.take_append_drop]
 refine⟨?_,?_⟩
 ·conv=>lhs;rw [hs,aho]
  rw [List.append_assoc]
  rfl
 ·rw [List.take_succ_eq_append_getElem hi,aho]
  simp [blL]
theorem aan{x:LN}(h:lineB x=true):mt x.1=true∧x.2.length≤40∧htT x.2 0=some 1:=by
 simp only [lineB,aej,Bool.and_eq_true,io]at h
 obtain⟨h1,h2,h3⟩:=h
 refine⟨h1,h2,?_⟩
 split at h3
 ·rename_i n hn;rw [hn];congr 1;exact eq_of_beq h3
 ·cases h3
theorem afU{vs os:List ByteArray}{ls:List LN}{i:Nat}{a:SS4}{l:LN}(hl:ls[i]? =some l)(h:ScAt vs os ls i a):
  ahf (blL (ls.take i)) (blL (ls.drop (i + 1))) l.2 0 ([],a.2.2.1,a.2.2.2):=by
 have hs:=(aad hl).1
 refine⟨0,by simp [htT],⟨fun z hz=>(List.not_mem_nil hz).elim,rfl,?_,?_,?_⟩⟩
 ·rw [← hs];exact h.sl
 ·rw [← hs];exact h.sp
 ·simp [blT,h.hk]
theorem Vj{ins vs os:List ByteArray}{inp:List Int}{ls:List LN}{i:Nat}{a:SS4}{l:LN}(hi:bitsB ins.length inp=true)(hL:lineB l=true)(hl:ls[i]? =some l)
  (h:ScAt vs os ls i a):(lnV ins vs inp l a).1.length=1∧(atZ (lnV ins vs inp l a).1 0=0∨atZ (lnV ins vs inp l a).1 0=1)∧ScAt vs os ls (i + 1) (scS ins vs os inp l a):=by
 obtain⟨hn,nQ,hht⟩:=aan hL
 obtain⟨hs,hs2⟩:=aad hl
 have h0:=ana (ins:=ins) (vs:=vs) hi h.hx hht (afU hl h) l.2.length (Nat.le_refl _)
 rw [List.take_length]at h0
 obtain⟨n,g1,g2⟩:=h0
 rw [List.take_length,hht]at g1;cases g1
 have hlen1:(lnV ins vs inp l a).1.length=1:=by have:=g2.hl;simp only [lnV];omega
 have hbit:atZ (lnV ins vs inp l a).1 0=0∨atZ (lnV ins vs inp l a).1 0=1:=Rs g2.hb 0
 refine⟨hlen1,hbit,⟨?_,?_,?_,?_,?_⟩⟩
 ·simp only [scS]
  cases ma vs l.1 with
  |true=>exact akz h.hx _ hbit
  |false=>exact h.hx
 ·simp only [scS]
  cases ma vs l.1 with
  |true=>exact h.ho
  |false=>exact akz h.ho _ hbit
 ·simp only [scS,lnV];rw [hs];exact g2.sl
 ·simp only [scS,lnV];rw [hs];exact g2.sp
 ·simp only [scS,lnV]
  rw [g2.hk,hs2,List.take_length]
theorem ani{ins vs os:List ByteArray}{inp:List Int}{ls:List LN}{a:SS4}(hi:bitsB ins.length inp=true)(hL:ls.all lineB=true)(h:ScAt vs os ls 0 a):
  ∀ i,i≤ls.length→ScAt vs os ls i (amE ins vs os inp (ls.take i) a)
 |0,_=>h
 |i + 1,eB=>by
  have h1:=ani hi hL h i (by omega)
  rw [List.take_succ_eq_append_getElem (by omega),agu]
  exact(Vj hi (List.all_eq_true.1 hL _ (List.getElem_mem (by omega))) (List.getElem?_eq_getElem (by omega)) h1).2.2
def scE(ins vs os:List ByteArray)(ls:List LN)(inp xs:List Int)(ss:List BS3):SS4:=amE ins vs os inp ls (xs,List.replicate os.length 0,ss,0)
def scO(ins vs os:List ByteArray)(g:ByteArray)(ls:List LN)(inp xs:List Int)(ss:List BS3):List Int:=bif !(g.toList== [])&&nmV ins vs inp (scE ins vs os ls inp xs ss).1 g==0 then List.replicate os.length 0 else(scE ins vs os ls inp xs ss).2.1
def scV(ins vs os:List ByteArray)(ls:List LN)(inp xs:List Int)(ss:List BS3):List Int:=(scE ins vs os ls inp xs ss).1
def scB(ins vs os:List ByteArray)(ls:List LN)(inp xs:List Int)(ss:List BS3):List BS3:=(scE ins vs os ls inp xs ss).2.2.1
theorem amD{ins vs os:List ByteArray}{inp xs:List Int}{ss:List BS3}{ls:List LN}(hi:bitsB ins.length inp=true)(hL:ls.all lineB=true)(hs:Ga vs.length (blL ls) xs ss=true):
  ScAt vs os ls ls.length (scE ins vs os ls inp xs ss):=by
 obtain⟨h1,h2,h3⟩:=PV.1 hs
 have h0:ScAt vs os ls 0 (xs,List.replicate os.length 0,ss,0):=⟨h2,fa.2 ⟨fun z hz=> .inl (List.eq_of_mem_replicate hz),by simp⟩,h1,h3,by simp [blL]⟩
 have:=ani hi hL h0 ls.length (Nat.le_refl _)
 rw [List.take_length]at this
 exact this
theorem apk{ins vs os:List ByteArray}{g:ByteArray}{inp xs:List Int}{ss:List BS3}{ls:List LN}(hi:bitsB ins.length inp=true)(hL:ls.all lineB=true)(hs:Ga vs.length (blL ls) xs ss=true):
  Ga vs.length (blL ls) (scV ins vs os ls inp xs ss) (scB ins vs os ls inp xs ss)=true∧bitsB os.length (scO ins vs os g ls inp xs ss)=true:=by
 have h:=amD (os:=os) hi hL hs
 refine⟨PV.2 ⟨h.sl,h.hx,h.sp⟩,?_⟩
 simp only [scO]
 cases (!(g.toList== [])&&nmV ins vs inp (scE ins vs os ls inp xs ss).1 g==0)with
 |true=>exact fa.2 ⟨fun z hz=> .inl (List.eq_of_mem_replicate hz),by simp⟩
 |false=>exact h.ho
theorem TB{A B:Type}{f g:B→A→Nat ⊕ A}{e:Nat}: ∀ {l:List B} {i:Nat} {a:A},(∀ b∈l,∀ a,f b a=g b a)→af f e l i a=af g e l i a
 | [],_,_,_=>rfl
 |b::r,i,a,h=>by
  simp only [af,h b (by simp) a]
  cases g b a with
  |inl j=>rfl
  |inr a'=>exact TB fun x hx=>h x (by simp [hx])
def Bc(y1 b:ByteArray):(Unit)→Nat ⊕ (Unit)
 |_=>(bif(ByteArray.toList (b)==ByteArray.toList y1)then(.inl 0)else(.inr ()))
def pJ(y1:ByteArray)(y2:List ByteArray)(i:Nat):(Unit)→mB
 |_=>((i:Int),y1,y2)
def KX:mB→Unit
 |(_,_,_)=>()
theorem adT(y1:ByteArray)(y2:List ByteArray) (hn:y2.length≤9223372036854775807):
  dS.fin ((0:Int),y1,y2)=true∧dS.res ((0:Int),y1,y2)=((af (Bc y1) 1 y2 0 ()).1,(pJ y1 y2) (af (Bc y1) 1 y2 0 ()).2.1 (af (Bc y1) 1 y2 0 ()).2.2):=by
 have iY:=dS.along (pJ y1 y2) KX (Bc y1) 1 (fun _ _=>True) y2 () (by trivial) (by simp only [dS,pJ];omega) (fun i b a hb hI=> ?_) (fun a hI=> ?_)
 ·exact iY
 ·obtain⟨⟩:=a
  have eB:=(List.getElem?_eq_some_iff.1 hb).1
  have gZ: ∀ d,Option.getD y2[i]? d=b:=fun d=>by rw [hb];rfl
  have hw:=sX eB hn
  have bW:ltI (i:Int) (y2.length:Int)=true:=et (by omega)
  have vL:leI (0:Int) (i:Int)=true:=bv (by omega)
  have im:ltN i y2.length=true:=gu eB
  refine⟨?_,?_,?_,?_⟩
  ·simp [wY,Cs,Ct,Cu,Cv,At,dS,LT.nds,allT,pJ,bW,vL,im,gZ]
  ·simp [wY,Cs,Ct,Cu,Cv,At,dS,LT.each,pJ,KX,hw]
  ·simp only [wY,Cs,Ct,Cu,Cv,At,dS,LT.fn,pJ,KX,Bc,Int.toNat_natCast,bW,vL,im,gZ,cond_true,Bool.cond_self]
  ·exact fun _ _=>trivial
 ·obtain⟨⟩:=a
  simp [wY,Cs,Ct,Cu,Cv,At,dS,LT.out,pJ]
theorem adh(s:ByteArray)(l:List ByteArray)(h:leN l.length 9223372036854775807=true):Hv s l=iF l s∧Me s l=true:=by
 obtain⟨w1,w2⟩:=adT s l (io.1 h)
 rw [iQ (P:=fun k=>k.toList==s.toList) (j:=0) (fun k=>rfl)]at w2
 simp only [Hv,Me,KH,w1,w2,allT,pJ,iF,ma,QQ]
 cases l.any fun k=>k.toList==s.toList <;> simp [Nat.beq]
theorem ahG(s:ByteArray)(l:List ByteArray)(h:leN l.length 9223372036854775807=true):pd s l=iF l s∧pe s l=true:=by
 obtain⟨w1,w2⟩:=Ew s l (io.1 h)
 rw [iQ (P:=fun k=>s.toList==k.toList) (j:=0) (fun k=>rfl)]at w2
 have e1:(fun k:ByteArray=>s.toList==k.toList)=fun k=>k.toList==s.toList:=funext fun k=>BEq.comm
 have e2:(fun k:ByteArray=> !(s.toList==k.toList))=fun k=> !(k.toList==s.toList):=funext fun k=>by rw [BEq.comm]
 rw [e1,e2]at w2
 simp only [pd,pe,ow,w1,w2,allT,di,iF,ma,QQ]
 cases l.any fun k=>k.toList==s.toList <;> simp [Nat.beq]
theorem Qy(l:List ByteArray)(s:ByteArray):leI 0 (iF l s)=ma l s:=by
 simp only [iF]
 cases ma l s with
 |true=>exact bv (by simp)
 |false=>rfl
def WZ:List SV→List Entry→Option Out
 | [.one ⟨false,[.ref 0]⟩,.one ⟨false,[.val (.string x0)]⟩],[.row false 9 (.str) x1]=>some ⟨.one ⟨false,[.val (.int .i64 (iF x1 x0))]⟩,[.row false 9 ahF x1],[],[leN x1.length 9223372036854775807]⟩
 |_,_=>none
def bS:PF prog:=PF.alt zp WZ (by
 intro args es o h cE;unfold WZ at h;split at h
 ·rename_i x0 x1
  cases h
  have cE:=mH cE
  have hh:=adh x0 x1 cE
  obtain⟨e0,en⟩:=hh
  exact rV rfl (md en) (by simp only [e0] <;> rfl) rfl rfl
 ·cases h)
def Hm:List SV→List Entry→Option Out
 | [.one ⟨false,[.ref 0]⟩,.one ⟨false,[.val (.string x0)]⟩],[.row false 9 (.str) x1]=>some ⟨.one ⟨false,[.val (.int .i64 (iF x1 x0))]⟩,[.row false 9 ahF x1],[],[leN x1.length 9223372036854775807]⟩
 |_,_=>none
def sY:PF prog:=PF.alt sZ Hm (by
 intro args es o h cE;unfold Hm at h;split at h
 ·rename_i x0 x1
  cases h
  have cE:=mH cE
  have hh:=ahG x0 x1 cE
  obtain⟨e0,en⟩:=hh
  exact rV rfl (md en) (by simp only [e0] <;> rfl) rfl rfl
 ·cases h)
theorem amc(s:ByteArray)(l:List ByteArray)(h:leN l.length 9223372036854775807=true):gY s l=ma l s∧jU s l=true:=by
 obtain⟨e1,e2⟩:=ahG s l h
 simp only [gY,jU,e1,e2,Qy,allT,and_self,cond_true]
def Eu:List SV→List Entry→Option Out
 | [.one ⟨false,[.ref 0]⟩,.one ⟨false,[.val (.string x0)]⟩],[.row false 9 (.str) x1]=>some ⟨.one ⟨false,[.val (.bool (ma x1 x0))]⟩,[.row false 9 ahF x1],[],[leN x1.length 9223372036854775807]⟩
 |_,_=>none
def aD:PF prog:=PF.alt cP Eu (by
 intro args es o h cE;unfold Eu at h;split at h
 ·rename_i x0 x1
  cases h
  have cE:=mH cE
  have hh:=amc x0 x1 cE
  obtain⟨e0,en⟩:=hh
  exact rV rfl (md en) (by simp only [e0] <;> rfl) rfl rfl
 ·cases h)
theorem apC(a b c:List ByteArray)(h:leN (a.length + b.length + c.length) 2000000=true):ab4 a b c=a++b++c∧Ug a b c=true:=by
 have h:=io.1 h
 refine⟨rfl,?_⟩
 simp [Ug,OC,allT]
 omega
def abL:List SV→List Entry→Option Out
 | [.one ⟨true,[.val (.string _x0),.ref 0,.ref 1,.ref 2,.val (.string _x1),.ref 3]⟩],[.row false 9 (.str) x2,.row false 9 (.str) x3,.row false 9 (.str) x4,.row false 204 (.pair (.str) (.sl 178 (.pair (.int .i64) (.pair (.str) (.int .i64))))) x5]=>some ⟨.one ⟨false,[.ref 4]⟩,[.row false 9 ahF x2,.row false 9 ahF x3,.row false 9 ahF x4,.row false 204 (CTy.pair CTy.str (CTy.sl (178:TypeId) afk)) x5],[.row true 9 ahF (x2++x3++x4)],[leN (x2.length + x3.length + x4.length) 2000000]⟩
 |_,_=>none
def rm:PF prog:=PF.alt aiS abL (by
 intro args es o h cE;unfold abL at h;split at h
 ·rename_i _x0 _x1 x2 x3 x4 x5
  cases h
  have cE:=mH cE
  have hh:=apC x2 x3 x4 cE
  obtain⟨e0,en⟩:=hh
  exact rV rfl (md en) rfl rfl (by simp only [e0] <;> rfl)
 ·cases h)
theorem Nw(s:ByteArray)(h:s.size≤9223372036854775807):mm s=mt s∧sW s=true:=by
 obtain⟨e1,e2⟩:=aii s
 have hl:leN s.size 9223372036854775807=true:=dm h
 refine⟨?_,?_⟩
 ·simp only [mm,e1,mt];cases Rp s <;> rfl
 ·simp only [sW,e2,hl,allT,Bool.or_true,cond_true]
theorem Tn(s:ByteArray):lC s=mt s:=by simp only [lC,mt];cases Rp s <;> rfl
def Pf(l:List ByteArray):Bool:=leN l.length 9223372036854775807&&l.all fun s=>leN s.size 9223372036854775807
def te(b:ByteArray):(Unit)→Nat ⊕ (Unit)
 |_=>(bif(!mm b)then(.inl 0)else(.inr ()))
def sn(y1:List ByteArray)(i:Nat):(Unit)→mz
 |_=>((i:Int),y1)
def KV:mz→Unit
 |(_,_)=>()
theorem adR(y1:List ByteArray) (hn:y1.length≤9223372036854775807) (hA: ∀ x∈y1,x.size≤9223372036854775807):
  eY.fin ((0:Int),y1)=true∧eY.res ((0:Int),y1)=((af (te) 1 y1 0 ()).1,(sn y1) (af (te) 1 y1 0 ()).2.1 (af (te) 1 y1 0 ()).2.2):=by
 have iY:=eY.along (sn y1) KV (te) 1 (fun _ _=>True) y1 () (by trivial) (by simp only [eY,sn];omega) (fun i b a hb hI=> ?_) (fun a hI=> ?_)
 ·exact iY
 ·obtain⟨⟩:=a
  have eB:=(List.getElem?_eq_some_iff.1 hb).1
  have gZ: ∀ d,Option.getD y1[i]? d=b:=fun d=>by rw [hb];rfl
  have hw:=sX eB hn
  have bW:ltI (i:Int) (y1.length:Int)=true:=et (by omega)
  have vL:leI (0:Int) (i:Int)=true:=bv (by omega)
  have im:ltN i y1.length=true:=gu eB
  refine⟨?_,?_,?_,?_⟩
  ·have hg2:pF (i:Int) y1=b:=by simp only [pF,Int.toNat_natCast];exact gZ _
   have h6:=(Nw b (hA b (List.mem_of_getElem? hb))).2
   simp [wV,GZ,Ha,Hb,Ci,Hc,Aq,eY,LT.nds,allT,sn,bW,vL,im,hg2,h6]
  ·simp [pF,wV,GZ,Ha,Hb,Ci,Hc,Aq,eY,LT.each,sn,KV,hw]
  ·have hg2:pF (i:Int) y1=b:=by simp only [pF,Int.toNat_natCast];exact gZ _
   simp only [wV,Ci,Aq,eY,LT.fn,sn,KV,te,Int.toNat_natCast,bW,hg2,cond_true]
  ·exact fun _ _=>trivial
 ·obtain⟨⟩:=a
  simp [pF,wV,GZ,Ha,Hb,Ci,Hc,Aq,eY,LT.out,sn]
theorem akh(lo:Int)(l:List ByteArray)(h:Pf l=true):QT lo l=(l.all mt&&inR (l.length:Int) lo 20)∧QU l=true:=by
 simp only [Pf,Bool.and_eq_true,io,List.all_eq_true]at h
 obtain⟨w1,w2⟩:=adR l h.1 h.2
 have e0:(af te 1 l 0 ())=(af (fun(k:ByteArray) (_:Unit)=>bif !mt k then(.inl 0:Nat ⊕ Unit)else .inr ()) 1 l 0 ()):=by
  refine TB fun b hb a=> ?_
  simp only [te,(Nw b (h.2 b hb)).1]
 rw [e0,iQ (P:=fun k=> !mt k) (j:=0) (fun k=>rfl)]at w2
 have e5:(l.any fun k=> !mt k)= !l.all mt:=by simp [List.all_eq_not_any_not]
 rw [e5]at w2
 simp only [QT,QU,w1,w2,allT,bt,TT]
 cases l.all mt <;> simp [Nat.beq]
def dG(b:ByteArray):(Unit)→Nat ⊕ (Unit)
 |_=>(bif(yS b)then(.inl 0)else(.inr ()))
def bY(y2:List ByteArray)(i:Nat):(Unit)→bi
 |_=>((i:Int),(↑y2.length:Int),y2)
def oK:bi→Unit
 |(_,_,_)=>()
theorem Hy(y2:List ByteArray) (hn:y2.length≤9223372036854775807):
  ag.fin ((0:Int),(↑y2.length:Int),y2)=true∧ag.res ((0:Int),(↑y2.length:Int),y2)=((af (dG) 1 y2 0 ()).1,(bY y2) (af (dG) 1 y2 0 ()).2.1 (af (dG) 1 y2 0 ()).2.2):=by
 have iY:=ag.along (bY y2) oK (dG) 1 (fun _ _=>True) y2 () (by trivial) (by simp only [ag,bY];omega) (fun i b a hb hI=> ?_) (fun a hI=> ?_)
 ·exact iY
 ·obtain⟨⟩:=a
  have eB:=(List.getElem?_eq_some_iff.1 hb).1
  have gZ: ∀ d,Option.getD y2[i]? d=b:=fun d=>by rw [hb];rfl
  have hw:=sX eB hn
  have bW:ltI (i:Int) (y2.length:Int)=true:=et (by omega)
  have vL:leI (0:Int) (i:Int)=true:=bv (by omega)
  have im:ltN i y2.length=true:=gu eB
  refine⟨?_,?_,?_,?_⟩
  ·simp [gH,gI,gJ,gK,gL,gM,gv,ag,LT.nds,allT,bY,bW,vL,im,gZ]
  ·simp [gH,gI,gJ,gK,gL,gM,gv,ag,LT.each,bY,oK,hw]
  ·simp only [gH,gI,gJ,gK,gL,gM,gv,ag,LT.fn,bY,oK,dG,Int.toNat_natCast,bW,vL,im,gZ,cond_true,Bool.cond_self]
  ·exact fun _ _=>trivial
 ·obtain⟨⟩:=a
  simp [gH,gI,gJ,gK,gL,gM,gv,ag,LT.out,bY]
theorem akx(l:List ByteArray)(h:leN l.length 9223372036854775807=true):QA l=l.all mt∧QB l=true:=by
 obtain⟨w1,w2⟩:=Hy l (io.1 h)
 rw [iQ (P:=fun k=> !mt k) (j:=0) (fun k=>by simp only [dG,yS,Tn])]at w2
 have e5:(l.any fun k=> !mt k)= !l.all mt:=by simp [List.all_eq_not_any_not]
 rw [e5]at w2
 have q: ∀ m:Nat,leI 0 (m:Int)=true:=fun m=>bv (by omega)
 have q2:leI 0 (-1)=false:=rfl
 simp only [QA,QB,pb,pc,qT,qU,lO,w1,w2,allT,bY]
 cases (l.all mt) <;> simp [Nat.beq,q,q2]
def WY:List SV→List Entry→Option Out
 | [.one ⟨false,[.ref 0]⟩,.one ⟨false,[.val (.int .i64 x0)]⟩],[.row false 9 (.str) x1]=>some ⟨.one ⟨false,[.val (.bool (x1.all mt&&inR (x1.length:Int) x0 20))]⟩,[.row false 9 ahF x1],[],[Pf x1]⟩
 |_,_=>none
def CU:PF prog:=PF.alt agY WY (by
 intro args es o h cE;unfold WY at h;split at h
 ·rename_i x0 x1
  cases h
  have cE:=mH cE
  have hh:=akh x0 x1 cE
  obtain⟨e0,en⟩:=hh
  exact rV rfl (md en) (by simp only [e0] <;> rfl) rfl rfl
 ·cases h)
def WQ:List SV→List Entry→Option Out
 | [.one ⟨false,[.ref 0]⟩],[.row false 9 (.str) x0]=>some ⟨.one ⟨false,[.val (.bool (x0.all mt))]⟩,[.row false 9 ahF x0],[],[leN x0.length 9223372036854775807]⟩
 |_,_=>none
def QL:PF prog:=PF.alt agP WQ (by
 intro args es o h cE;unfold WQ at h;split at h
 ·rename_i x0
  cases h
  have cE:=mH cE
  have hh:=akx x0 cE
  obtain⟨e0,en⟩:=hh
  exact rV rfl (md en) (by simp only [e0] <;> rfl) rfl rfl
 ·cases h)
theorem aiB(l:List ByteArray):(List.range l.length).any (fun b=>ma (List.take b l) (Option.getD l[b]? ByteArray.empty))=rl l:=rfl
def wI(y1:List ByteArray)(b:Nat):(Unit)→Nat ⊕ (Unit)
 |_=>(bif(leI (0:Int) (Hv (Option.getD y1[b]? ByteArray.empty) (List.drop (Int.toNat (0:Int)) (List.take b y1))))then(.inl 0)else(.inr ()))
def sq(y1:List ByteArray)(i:Nat):(Unit)→mC
 |_=>((i:Int),y1)
def KY:mC→Unit
 |(_,_)=>()
theorem adU(y1:List ByteArray) (hn:y1.length≤9223372036854775807):
  eZ.fin ((0:Int),y1)=true∧eZ.res ((0:Int),y1)=((af (wI y1) 1 (List.range y1.length) 0 ()).1,(sq y1) (af (wI y1) 1 (List.range y1.length) 0 ()).2.1 (af (wI y1) 1 (List.range y1.length) 0 ()).2.2):=by
 have iY:=eZ.along (sq y1) KY (wI y1) 1 (fun _ _=>True) (List.range y1.length) () (by trivial) (by simp only [eZ,sq,List.length_range];omega) (fun i b a hb hI=> ?_) (fun a hI=> ?_)
 ·exact iY
 ·obtain⟨⟩:=a
  obtain⟨rfl,eB⟩:=oC hb
  have hw:IntKind.i64.wrap ((b:Int) + 1)=((b + 1:Nat):Int):=by rw [bc (by omega) (by omega)];omega
  have bW:ltI (b:Int) (y1.length:Int)=true:=et (by omega)
  have vL:leI (0:Int) (b:Int)=true:=bv (by omega)
  have im:ltN b y1.length=true:=gu (by omega)
  refine⟨?_,?_,?_,?_⟩
  ·have nQ:(List.take b y1).length≤9223372036854775807:=by rw [List.length_take];omega
   have e:sj (b:Int) y1=List.take b y1:=by simp [sj]
   have h5:xc (b:Int) y1=true:=by simp only [xc,e];exact(adh _ _ (dm nQ)).2
   have h3:Cy (b:Int) y1=true:=bv (by omega)
   have h1:Cx=true:=rfl
   simp only [Au,eZ,LT.nds,allT,sq,wZ,xa,Cz,h1,h3,h5,bW,vL,im,Int.toNat_natCast,cond_true,Bool.and_self,List.all_nil,List.all_cons]
   cases CA (b:Int) y1 <;> simp [LT.nds]
  ·simp [AC,sj,wZ,Cx,xa,Cy,Cz,xc,CA,He,Au,eZ,LT.each,sq,KY,hw]
  ·simp only [AC,sj,wZ,Cx,xa,Cy,Cz,xc,CA,He,Au,eZ,LT.fn,sq,KY,wI,Int.toNat_natCast,bW,cond_true]
  ·exact fun _ _=>trivial
 ·obtain⟨⟩:=a
  simp [AC,sj,wZ,Cx,xa,Cy,Cz,xc,CA,He,Au,eZ,LT.out,sq,List.length_range]
theorem akj(l:List ByteArray)(h:leN l.length 9223372036854775807=true):QW l=rl l∧QX l=true:=by
 have hn:=io.1 h
 obtain⟨w1,w2⟩:=adU l hn
 have hi: ∀ b:Nat,(List.take b l).length≤9223372036854775807:=fun b=>by rw [List.length_take];omega
 rw [iQ (P:=fun b=>ma (List.take b l) (Option.getD l[b]? ByteArray.empty)) (j:=0) (fun b=>by
  simp only [wI,Int.toNat_zero,List.drop_zero,(adh _ _ (dm (hi b))).1,Qy]),aiB]at w2
 simp only [QW,QX,w1,w2,allT]
 cases rl l <;> simp [Nat.beq]
theorem JY{A B:Type}{f:B→A→Nat ⊕ A}{g:A→B→A}{e:Nat}(hf: ∀ b a,f b a= .inr (g a b)): ∀ (l:List B) (i:Nat) (a:A),af f e l i a=(e,i + l.length,l.foldl g a)
 | [],i,a=>rfl
 |b::r,i,a=>by
  simp only [af,hf,List.foldl_cons]
  rw [JY hf r]
  simp [Nat.add_assoc,Nat.add_comm 1]
def wH(y2:List ByteArray)(b:Nat):(Unit)→Nat ⊕ (Unit)
 |_=>(bif(gY (Option.getD y2[b]? ByteArray.empty) (List.drop (Int.toNat (0:Int)) (List.take b y2)))then(.inl 0)else(.inr ()))
def sk(y2:List ByteArray)(i:Nat):(Unit)→mu
 |_=>((i:Int),(↑y2.length:Int),y2)
def KR:mu→Unit
 |(_,_,_)=>()
theorem adN(y2:List ByteArray) (hn:y2.length≤9223372036854775807):
  eW.fin ((0:Int),(↑y2.length:Int),y2)=true∧eW.res ((0:Int),(↑y2.length:Int),y2)=((af (wH y2) 1 (List.range y2.length) 0 ()).1,(sk y2) (af (wH y2) 1 (List.range y2.length) 0 ()).2.1 (af (wH y2) 1 (List.range y2.length) 0 ()).2.2):=by
 have iY:=eW.along (sk y2) KR (wH y2) 1 (fun _ _=>True) (List.range y2.length) () (by trivial) (by simp only [eW,sk,List.length_range];omega) (fun i b a hb hI=> ?_) (fun a hI=> ?_)
 ·exact iY
 ·obtain⟨⟩:=a
  obtain⟨rfl,eB⟩:=oC hb
  have hw:IntKind.i64.wrap ((b:Int) + 1)=((b + 1:Nat):Int):=by rw [bc (by omega) (by omega)];omega
  have bW:ltI (b:Int) (y2.length:Int)=true:=et (by omega)
  have vL:leI (0:Int) (b:Int)=true:=bv (by omega)
  have im:ltN b y2.length=true:=gu (by omega)
  refine⟨?_,?_,?_,?_⟩
  ·have nQ:(List.take b y2).length≤9223372036854775807:=by rw [List.length_take];omega
   have e:sb (b:Int) y2=List.take b y2:=by simp [sb]
   have h5:wL (b:Int) y2=true:=by simp only [wL,e];exact(amc _ _ (dm nQ)).2
   have h3:Bh (b:Int) y2=true:=bv (by omega)
   have h1:Bg=true:=rfl
   simp only [Am,eW,LT.nds,allT,sk,Bd,wK,Be,Bf,h1,h3,h5,bW,vL,im,Int.toNat_natCast,cond_true,Bool.and_self,List.all_nil,List.all_cons]
   cases Bi (b:Int) y2 <;> simp [LT.nds]
  ·simp [zu,sb,Bd,wK,Be,Bf,Bg,Bh,wL,Bi,GH,Am,eW,LT.each,sk,KR,hw]
  ·simp only [zu,sb,Bd,wK,Be,Bf,Bg,Bh,wL,Bi,GH,Am,eW,LT.fn,sk,KR,wH,Int.toNat_natCast,bW,cond_true]
  ·exact fun _ _=>trivial
 ·obtain⟨⟩:=a
  simp [zu,sb,Bd,wK,Be,Bf,Bg,Bh,wL,Bi,GH,Am,eW,LT.out,sk,List.length_range]
theorem aj1(l:List ByteArray)(h:leN l.length 9223372036854775807=true):QC l=rl l∧QD l=true:=by
 have hn:=io.1 h
 obtain⟨w1,w2⟩:=adN l hn
 have hi: ∀ b:Nat,(List.take b l).length≤9223372036854775807:=fun b=>by rw [List.length_take];omega
 rw [iQ (P:=fun b=>ma (List.take b l) (Option.getD l[b]? ByteArray.empty)) (j:=0) (fun b=>by
  simp only [wH,Int.toNat_zero,List.drop_zero,(amc _ _ (dm (hi b))).1]),aiB]at w2
 simp only [QC,QD,Pk,w1,w2,allT]
 cases rl l <;> simp [Nat.beq]
def Xa:List SV→List Entry→Option Out
 | [.one ⟨false,[.ref 0]⟩],[.row false 9 (.str) x0]=>some ⟨.one ⟨false,[.val (.bool (rl x0))]⟩,[.row false 9 ahF x0],[],[leN x0.length 9223372036854775807]⟩
 |_,_=>none
def nA:PF prog:=PF.alt agZ Xa (by
 intro args es o h cE;unfold Xa at h;split at h
 ·rename_i x0
  cases h
  have cE:=mH cE
  have hh:=akj x0 cE
  obtain⟨e0,en⟩:=hh
  exact rV rfl (md en) (by simp only [e0] <;> rfl) rfl rfl
 ·cases h)
def WR:List SV→List Entry→Option Out
 | [.one ⟨false,[.ref 0]⟩],[.row false 9 (.str) x0]=>some ⟨.one ⟨false,[.val (.bool (rl x0))]⟩,[.row false 9 ahF x0],[],[leN x0.length 9223372036854775807]⟩
 |_,_=>none
def CP:PF prog:=PF.alt agQ WR (by
 intro args es o h cE;unfold WR at h;split at h
 ·rename_i x0
  cases h
  have cE:=mH cE
  have hh:=aj1 x0 cE
  obtain⟨e0,en⟩:=hh
  exact rV rfl (md en) (by simp only [e0] <;> rfl) rfl rfl
 ·cases h)
theorem amX(k:Int):rq k=takesK k:=rfl
theorem anl(n k:Int)(h0:0≤n)(h1:n≤9223372036854775000):IntKind.i64.wrap (IntKind.i64.wrap (n - takesK k) + 1)=n - takesK k + 1∧IntKind.i64.wrap (n + IntKind.i64.wrap (1 - takesK k))=n - takesK k + 1:=by
 have:=PW k
 refine⟨?_,?_⟩
 ·rw [bc (x:=n - takesK k) (by omega) (by omega),bc (by omega) (by omega)]
 ·rw [bc (x:=1 - takesK k) (by omega) (by omega),bc (by omega) (by omega)];omega
theorem To(a b:Int):ltI a b= !leI b a:=by
 cases h:leI b a with
 |true=>have:=DR.1 h;exact Pa (by omega)
 |false=>rw [ao2]at h;exact et (by omega)
def Rn(ts:List TM):Bool:=leN ts.length 1048576&&ts.all fun t=>leN t.2.1.size 9223372036854775807
def Xf(ls:List LN):Bool:=leN ls.length 1048576&&ls.all fun l=>leN l.1.size 9223372036854775807&&Rn l.2
theorem Nx{ts:List TM}:Rn ts=true↔ts.length≤1048576∧ ∀ t∈ts,t.2.1.size≤9223372036854775807:=by
 simp only [Rn,Bool.and_eq_true,io,List.all_eq_true]
theorem Nr{ls:List LN}:Xf ls=true↔ls.length≤1048576∧ ∀ l∈ls,l.1.size≤9223372036854775807∧Rn l.2=true:=by
 simp only [Xf,Bool.and_eq_true,io,List.all_eq_true]
def pj(b:Int×(ByteArray×Int)):(Int×Int)→Nat ⊕ (Int×Int)
 |(y2,y3)=>(bif(bif !Lu b.1 (b.2.1) b.2.2then true else ltI y2 (rq b.1))then(.inl 0)else(.inr ((IntKind.wrap .i64 (y2 + IntKind.wrap .i64 ((1:Int) - rq b.1))),(afl y3 (IntKind.wrap .i64 (y2 + IntKind.wrap .i64 ((1:Int) - rq b.1))) (IntKind.wrap .i64 (y2 + IntKind.wrap .i64 ((1:Int) - rq b.1))) y3))))
def sE(y4:List (Int×(ByteArray×Int)))(i:Nat):(Int×Int)→pf
 |(y2,y3)=>((i:Int),(↑y4.length:Int),y2,y3,y4)
def Ol:pf→Int×Int
 |(_,_,y2,y3,_)=>(y2,y3)
theorem afZ(y4:List (Int×(ByteArray×Int)))(y2 y3:Int)(hn:y4.length≤9223372036854775807):
  gn.fin ((0:Int),(↑y4.length:Int),y2,y3,y4)=true∧gn.res ((0:Int),(↑y4.length:Int),y2,y3,y4)=((af (pj) 1 y4 0 (y2,y3)).1,(sE y4) (af (pj) 1 y4 0 (y2,y3)).2.1 (af (pj) 1 y4 0 (y2,y3)).2.2):=by
 have iY:=gn.along (sE y4) Ol (pj) 1 (fun _ _=>True) y4 (y2,y3) (by trivial) (by simp only [gn,sE];omega) (fun i b a hb hI=> ?_) (fun a hI=> ?_)
 ·exact iY
 ·obtain⟨y2,y3⟩:=a
  have eB:=(List.getElem?_eq_some_iff.1 hb).1
  have gZ: ∀ d,Option.getD y4[i]? d=b:=fun d=>by rw [hb];rfl
  have hw:=sX eB hn
  have bW:ltI (i:Int) (y4.length:Int)=true:=et (by omega)
  have vL:leI (0:Int) (i:Int)=true:=bv (by omega)
  have im:ltN i y4.length=true:=gu eB
  refine⟨?_,?_,?_,?_⟩
  ·simp [pW,uJ,Fo,Fp,Fq,Fr,Fs,Ft,Fu,Fv,DT,gn,LT.nds,allT,sE,bW,vL,im,gZ]
  ·simp [pW,uJ,Fo,Fp,Fq,Fr,Fs,Ft,Fu,Fv,DT,gn,LT.each,sE,Ol,hw]
  ·simp only [pW,uJ,Fo,Fp,Fq,Fr,Fs,Ft,Fu,Fv,DT,gn,LT.fn,sE,Ol,pj,Int.toNat_natCast,bW,vL,im,gZ,cond_true,Bool.cond_self]
  ·exact fun _ _=>trivial
 ·obtain⟨y2,y3⟩:=a
  simp [pW,uJ,Fo,Fp,Fq,Fr,Fs,Ft,Fu,Fv,DT,gn,LT.out,sE]
theorem agE: ∀ (ts:List TM) (i:Nat) (n m:Int),0≤n→n + ts.length≤9223372036854775000→
  match htT ts n with
  |some k=>(af pj 1 ts i (n,m)).1=1∧(af pj 1 ts i (n,m)).2.2.1=k
  |none=>(af pj 1 ts i (n,m)).1=0
 | [],i,n,m,_,_=>⟨rfl,rfl⟩
 |t::r,i,n,m,h0,h1=>by
  rw [List.length_cons]at h1
  have hw:=(anl n t.1 h0 (by omega)).2
  have ht:=PW t.1
  have hf:pj t (n,m)=(bif termB t.1 t.2.1 t.2.2&&leI (takesK t.1) n then .inr (n - takesK t.1 + 1,afl m (n - takesK t.1 + 1) (n - takesK t.1 + 1) m)else .inl 0):=by
   simp only [pj,akZ,amX,hw,To]
   cases termB t.1 t.2.1 t.2.2 <;> cases leI (takesK t.1) n <;> rfl
  simp only [af,hf,htT]
  cases hc:termB t.1 t.2.1 t.2.2&&leI (takesK t.1) n with
  |false=>rfl
  |true=>
   simp only [Bool.and_eq_true,DR]at hc
   simp only [cond_true]
   exact agE r (i + 1) _ _ (by omega) (by omega)
theorem akX(ts:List TM)(h:Rn ts=true):EE ts=aej ts∧EF ts=true:=by
 obtain⟨hn,_⟩:=Nx.1 h
 obtain⟨w1,w2⟩:=afZ ts 0 0 (by omega)
 have hh:=agE ts 0 0 0 (by omega) (by omega)
 have Lo:leI (ts.length:Int) 40=leN ts.length 40:=by
  rw [Bool.eq_iff_iff,DR,io];omega
 simp only [EE,EF,TK,TL,NU,RS,RT,w1,w2,allT,aej,Lo,cond_true,sE]
 cases hq:htT ts 0 with
 |none=>
  rw [hq]at hh
  simp only at hh
  rw [hh];simp [Nat.beq]
 |some k=>
  rw [hq]at hh
  simp only at hh
  rw [hh.1,hh.2]
  dsimp only
  generalize (k==1)=q
  cases q <;> cases leN ts.length 40 <;> simp [Nat.beq]
def iR(b:Int×(ByteArray×Int)):(Int×List Int)→Nat ⊕ (Int×List Int)
 |(y1,y3)=>(bif(bif(!JV b.1 (b.2.1) b.2.2)then true else ltI y1 (lY b.1))then(.inl 0)else(.inr ((IntKind.wrap .i64 (IntKind.wrap .i64 (y1 - lY b.1) + (1:Int))),(y3++ [IntKind.wrap .i64 (IntKind.wrap .i64 (y1 - lY b.1) + (1:Int))]))))
def nu(y2:List (Int×(ByteArray×Int)))(i:Nat):(Int×List Int)→ke
 |(y1,y3)=>((i:Int),y1,y2,y3)
def HY:ke→Int×List Int
 |(_,y1,_,y3)=>(y1,y3)
theorem aai(y2:List (Int×(ByteArray×Int)))(y1:Int)(y3:List Int)(hn:y2.length≤9223372036854775807)(hT:y2.length≤1048576)(hA: ∀ x∈y2,x.2.1.size≤9223372036854775807)(h3:y3.length=0):
  de.fin ((0:Int),y1,y2,y3)=true∧de.res ((0:Int),y1,y2,y3)=((af (iR) 1 y2 0 (y1,y3)).1,(nu y2) (af (iR) 1 y2 0 (y1,y3)).2.1 (af (iR) 1 y2 0 (y1,y3)).2.2):=by
 have iY:=de.along (nu y2) HY (iR) 1 (fun i a=>a.2.length=i) y2 (y1,y3) h3 (by simp only [de,nu];omega) (fun i b a hb hI=> ?_) (fun a hI=> ?_)
 ·exact iY
 ·obtain⟨y1,y3⟩:=a
  have eB:=(List.getElem?_eq_some_iff.1 hb).1
  have gZ: ∀ d,Option.getD y2[i]? d=b:=fun d=>by rw [hb];rfl
  have hw:=sX eB hn
  have bW:ltI (i:Int) (y2.length:Int)=true:=et (by omega)
  have vL:leI (0:Int) (i:Int)=true:=bv (by omega)
  have im:ltN i y2.length=true:=gu eB
  refine⟨?_,?_,?_,?_⟩
  ·have hg2:dy (i:Int) y2=b:=by simp only [dy,Int.toNat_natCast];exact gZ _
   have h6:JW b.1 b.2.1 b.2.2=true:=(agv b.1 b.2.1 b.2.2 (dm (hA b (List.mem_of_getElem? hb)))).2
   simp only at hI
   have h8:leN (y3.length + 1) 9223372036854775807=true:=dm (by omega)
   have h9:leN ((y3.length + 1) * 8) 140737488355328=true:=dm (by omega)
   simp [ra,uh,ui,yy,yz,yA,yB,yC,yD,yE,wy,wz,wA,wu,de,LT.nds,allT,nu,bW,vL,im,hg2,h6,h8,h9]
  ·simp [dy,pT,pU,ra,uh,ui,yy,yz,yA,yB,yC,yD,yE,wy,wz,wA,wu,de,LT.each,nu,HY,hw]
  ·have hg2:dy (i:Int) y2=b:=by simp only [dy,Int.toNat_natCast];exact gZ _
   simp only [ra,uh,ui,yy,yz,yA,yB,yC,yD,yE,wy,wz,wA,wu,de,pT,pU,LT.fn,nu,HY,iR,Int.toNat_natCast,bW,hg2,cond_true]
  ·intro a' hf
   simp only at hI
   simp only [iR]at hf
   revert hf
   generalize (bif _ then true else _)=c
   cases c with
   |true=>intro hf;cases hf
   |false=>intro hf;simp only [cond_false,Sum.inr.injEq]at hf;subst hf;simp [hI]
 ·obtain⟨y1,y3⟩:=a
  simp [dy,pT,pU,ra,uh,ui,yy,yz,yA,yB,yC,yD,yE,wy,wz,wA,wu,de,LT.out,nu]
theorem ae3: ∀ (ts:List TM) (i:Nat) (n:Int) (L:List Int),(∀ x∈ts,x.2.1.size≤9223372036854775807)→0≤n→n + ts.length≤9223372036854775000→
  match htT ts n with
  |some k=>(af iR 1 ts i (n,L)).1=1∧(af iR 1 ts i (n,L)).2.2.1=k
  |none=>(af iR 1 ts i (n,L)).1=0
 | [],i,n,m,_,_,_=>⟨rfl,rfl⟩
 |t::r,i,n,m,hs,h0,h1=>by
  rw [List.length_cons]at h1
  have hw:=(anl n t.1 h0 (by omega)).1
  have ht:=PW t.1
  have hf:iR t (n,m)=(bif termB t.1 t.2.1 t.2.2&&leI (takesK t.1) n then .inr (n - takesK t.1 + 1,m++ [n - takesK t.1 + 1])else .inl 0):=by
   simp only [iR,(agv t.1 t.2.1 t.2.2 (dm (hs t (by simp)))).1,show lY t.1=takesK t.1 from rfl,hw,To]
   cases termB t.1 t.2.1 t.2.2 <;> cases leI (takesK t.1) n <;> rfl
  simp only [af,hf,htT]
  cases hc:termB t.1 t.2.1 t.2.2&&leI (takesK t.1) n with
  |false=>rfl
  |true=>
   simp only [Bool.and_eq_true,DR]at hc
   simp only [cond_true]
   exact ae3 r (i + 1) _ _ (fun x hx=>hs x (by simp [hx])) (by omega) (by omega)
theorem alz(ts:List TM)(h:Rn ts=true):Lj ts=aej ts∧Lk ts=true:=by
 obtain⟨hn,hs⟩:=Nx.1 h
 obtain⟨w1,w2⟩:=aai ts 0 [] (by omega) hn hs rfl
 have hh:=ae3 ts 0 0 [] hs (by omega) (by omega)
 have Lo:leI (ts.length:Int) 40=leN ts.length 40:=by
  rw [Bool.eq_iff_iff,DR,io];omega
 simp only [Lj,Lk,OA,OB,GY,MQ,MR,w1,w2,allT,aej,Lo,cond_true,nu]
 cases hq:htT ts 0 with
 |none=>
  rw [hq]at hh
  simp only at hh
  rw [hh];simp [Nat.beq]
 |some k=>
  rw [hq]at hh
  simp only at hh
  rw [hh.1,hh.2]
  dsimp only
  generalize (k==1)=q
  cases q <;> cases leN ts.length 40 <;> simp [Nat.beq]
theorem anH(s:ByteArray)(ts:List TM)(h:Rn ts=true):TN s ts=lineB (s,ts)∧TO s ts=true:=by
 obtain⟨e1,e2⟩:=akX ts h
 simp only [TN,TO,e1,e2,Tn,lineB,allT,Bool.or_true,cond_true]
 cases mt s <;> simp
def Re:List SV→List Entry→Option Out
 | [.one ⟨false,[.ref 0]⟩],[.row false 178 (.pair (.int .i64) (.pair (.str) (.int .i64))) x0]=>some ⟨.one ⟨false,[.val (.bool (aej x0))]⟩,[.row false 178 afk x0],[],[Rn x0]⟩
 |_,_=>none
def vJ:PF prog:=PF.alt abi Re (by
 intro args es o h cE;unfold Re at h;split at h
 ·rename_i x0
  cases h
  have cE:=mH cE
  have hh:=alz x0 cE
  obtain⟨e0,en⟩:=hh
  exact rV rfl (md en) (by simp only [e0] <;> rfl) rfl rfl
 ·cases h)
def abI:List SV→List Entry→Option Out
 | [.one ⟨true,[.val (.string x0),.ref 0]⟩],[.row false 178 (.pair (.int .i64) (.pair (.str) (.int .i64))) x1]=>some ⟨.one ⟨false,[.val (.bool (lineB (x0,x1)))]⟩,[.row false 178 afk x1],[],[Rn x1]⟩
 |_,_=>none
def HE:PF prog:=PF.alt aiP abI (by
 intro args es o h cE;unfold abI at h;split at h
 ·rename_i x0 x1
  cases h
  have cE:=mH cE
  have hh:=anH x0 x1 cE
  obtain⟨e0,en⟩:=hh
  exact rV rfl (md en) (by simp only [e0] <;> rfl) rfl rfl
 ·cases h)
theorem Lp.along2{X A B:Type}(p:Lp X)(st:Nat→A→X)(pr:X→A)(f:B→A→Nat ⊕ A)(e:Nat)(Inv:Nat→A→Prop)(xs:List B)(a:A)
  (h0:Inv 0 a) (hf:xs.length≤100000000000)
  (hs: ∀ i b a,xs[i]? =some b→Inv i a→(p.lt (st i a)).nds=true∧(p.lt (st i a)).each (fun y=>y=st (i + 1) (pr y))∧(p.lt (st i a)).fn pr=f b a∧ ∀ a',f b a= .inr a'→Inv (i + 1) a')
  (he: ∀ a,Inv xs.length a→(p.lt (st xs.length a)).out=some (.inl e)):
  p.fin (st 0 a)=true∧p.res (st 0 a)=((af f e xs 0 a).1,st (af f e xs 0 a).2.1 (af f e xs 0 a).2.2):=by
 have hs': ∀ i b a,xs[i]? =some b→Inv i a→(p.lt (st i a)).out=some (match f b a with | .inl j=> .inl j | .inr a'=> .inr (st (i + 1) a'))∧ ∀ a',f b a= .inr a'→Inv (i + 1) a':=by
  intro i b a hb hI
  obtain⟨h1,h2,h3,h4⟩:=hs i b a hb hI
  refine⟨?_,h4⟩
  rw [LT.out_of h1 h2,h3]
  cases f b a <;> rfl
 refine p.run (afS st f e Inv xs hs' he xs 0 a rfl (by omega) h0) ?_
 rw [an5]
 have:1000 ^ 4≤(p.fuel (st 0 a) + 1000) ^ 4:=Nat.pow_le_pow_left (by omega) 4
 omega
def ahq(a:List TM)(b:TM):List TM:=bif leI 7 b.1 then a++ [b]else a
theorem ahD: ∀ (ts acc:List TM),ts.foldl ahq acc=acc++blT ts
 | [],acc=>by simp [blT]
 |t::r,acc=>by
  rw [List.foldl_cons,ahD r]
  simp only [ahq,blT,List.filter_cons]
  cases leI 7 t.1 <;> simp
theorem ai8: ∀ (ls:List LN) (acc:List TM),ls.foldl (fun a l=>a++blT l.2) acc=acc++blL ls
 | [],acc=>by simp [blL]
 |l::r,acc=>by
  rw [List.foldl_cons,ai8 r]
  simp [blL]
theorem ajJ(ts:List TM):(blT ts).length≤ts.length:=List.length_filter_le _ _
theorem akA(a:List TM)(b:TM):(ahq a b).length≤a.length + 1:=by
 simp only [ahq];cases leI 7 b.1 <;> simp
def br(b:Int×(ByteArray×Int)):(List (Int×(ByteArray×Int)))→Nat ⊕ (List (Int×(ByteArray×Int)))
 |y3=>(bif(leI (7:Int) b.1)then(.inr (y3++([(b.1,b.2.1,b.2.2)])))else(.inr y3))
def bR(y2:List (Int×(ByteArray×Int)))(i:Nat):(List (Int×(ByteArray×Int)))→aQ
 |y3=>((i:Int),(↑y2.length:Int),y2,y3)
def lW:aQ→List (Int×(ByteArray×Int))
 |(_,_,_,y3)=>y3
theorem Ek(y2 y3:List (Int×(ByteArray×Int)))(hn:y2.length≤9223372036854775807)(hc:y3.length + y2.length≤4000000000000):
  ae.fin ((0:Int),(↑y2.length:Int),y2,y3)=true∧ae.res ((0:Int),(↑y2.length:Int),y2,y3)=((af (br) 0 y2 0 y3).1,(bR y2) (af (br) 0 y2 0 y3).2.1 (af (br) 0 y2 0 y3).2.2):=by
 have iY:=ae.along (bR y2) lW (br) 0 (fun i a=>a.length≤y3.length + i) y2 y3 (Nat.le_refl _) (by simp only [ae,bR];omega) (fun i b a hb hI=> ?_) (fun a hI=> ?_)
 ·exact iY
 ·obtain y3:=a
  have eB:=(List.getElem?_eq_some_iff.1 hb).1
  have gZ: ∀ d,Option.getD y2[i]? d=b:=fun d=>by rw [hb];rfl
  have hw:=sX eB hn
  have bW:ltI (i:Int) (y2.length:Int)=true:=et (by omega)
  have vL:leI (0:Int) (i:Int)=true:=bv (by omega)
  have im:ltN i y2.length=true:=gu eB
  refine⟨?_,?_,?_,?_⟩
  ·have hg2:aM (i:Int) y2=b:=by simp only [aM,Int.toNat_natCast];exact gZ _
   have h8: ∀ z:TM,leN (a.length + List.length [z]) 9223372036854775807=true:=fun z=>dm (by rw [List.length_singleton];omega)
   have h9: ∀ z:TM,leN ((a.length + List.length [z]) * 32) 140737488355328=true:=fun z=>dm (by rw [List.length_singleton];omega)
   simp only [dV,dW,dX,dY,dZ,ea,ec,cS,ed,dF,ae,bL,bM,LT.nds,allT,bR,bW,vL,im,hg2,h8,h9,Int.toNat_natCast,cond_true,Bool.or_true]
   cases leI 7 b.1 <;> simp [LT.nds]
  ·simp [aM,bL,bM,dV,dW,dX,dY,dZ,ea,ec,cS,ed,dF,ae,LT.each,bR,lW,hw]
  ·have hg2:aM (i:Int) y2=b:=by simp only [aM,Int.toNat_natCast];exact gZ _
   simp only [dV,dW,dX,dY,dZ,ea,ec,cS,ed,dF,ae,bL,bM,LT.fn,bR,lW,br,Int.toNat_natCast,bW,hg2,cond_true]
  ·intro a' hf
   have hf2:br b a= .inr (ahq a b):=by
    simp only [br,ahq];cases leI 7 b.1 <;> rfl
   rw [hf2]at hf
   simp only [Sum.inr.injEq]at hf
   subst hf
   have:=akA a b
   omega
 ·obtain y3:=a
  simp [aM,bL,bM,dV,dW,dX,dY,dZ,ea,ec,cS,ed,dF,ae,LT.out,bR]
theorem acO(ts acc:List TM)(hn:ts.length≤9223372036854775807)(hc:acc.length + ts.length≤4000000000000):
  ae.fin ((0:Int),(ts.length:Int),ts,acc)=true∧(ae.res ((0:Int),(ts.length:Int),ts,acc)).2.2.2.2=acc++blT ts:=by
 obtain⟨w1,w2⟩:=Ek ts acc hn hc
 rw [JY (g:=ahq) (fun b a=>by simp only [br,ahq];cases leI 7 b.1 <;> rfl)]at w2
 exact⟨w1,by rw [w2];exact ahD ts acc⟩
def bE(b:ByteArray×(List (Int×(ByteArray×Int)))):(List (Int×(ByteArray×Int)))→Nat ⊕ (List (Int×(ByteArray×Int)))
 |y3=>(.inr ((Lp.res ae ((0:Int),(↑(List.length b.2):Int),b.2,y3)).2.2.2.2))
def bz(y2:List (ByteArray×(List (Int×(ByteArray×Int)))))(i:Nat):(List (Int×(ByteArray×Int)))→aT
 |y3=>((i:Int),(↑y2.length:Int),y2,y3)
def nk:aT→List (Int×(ByteArray×Int))
 |(_,_,_,y3)=>y3
theorem Gb(y2:List (ByteArray×(List (Int×(ByteArray×Int)))))(y3:List (Int×(ByteArray×Int)))(hn:y2.length≤9223372036854775807)(hN:y2.length≤1048576)(hL: ∀ l∈y2,l.2.length≤1048576)(h3:y3.length=0):
  au.fin ((0:Int),(↑y2.length:Int),y2,y3)=true∧au.res ((0:Int),(↑y2.length:Int),y2,y3)=((af (bE) 0 y2 0 y3).1,(bz y2) (af (bE) 0 y2 0 y3).2.1 (af (bE) 0 y2 0 y3).2.2):=by
 have iY:=au.along (bz y2) nk (bE) 0 (fun i a=>a.length≤i * 1048576) y2 y3 (by omega) (by simp only [au,bz];omega) (fun i b a hb hI=> ?_) (fun a hI=> ?_)
 ·exact iY
 ·obtain y3:=a
  have eB:=(List.getElem?_eq_some_iff.1 hb).1
  have gZ: ∀ d,Option.getD y2[i]? d=b:=fun d=>by rw [hb];rfl
  have hw:=sX eB hn
  have bW:ltI (i:Int) (y2.length:Int)=true:=et (by omega)
  have vL:leI (0:Int) (i:Int)=true:=bv (by omega)
  have im:ltN i y2.length=true:=gu eB
  refine⟨?_,?_,?_,?_⟩
  ·have hg2:bx (i:Int) y2=b.2:=by simp only [bx,Int.toNat_natCast];exact congrArg Prod.snd (gZ _)
   have hbl:=hL b (List.mem_of_getElem? hb)
   have h4:fe (i:Int) y2 a=true:=by
    simp only [fe,dg,hg2]
    exact(acO b.2 a (by omega) (by omega)).1
   simp only [au,eT,fc,je,jf,jg,LT.nds,allT,bz,bW,vL,im,h4,Int.toNat_natCast,cond_true,Bool.and_self]
  ·simp [bx,dg,fc,je,jf,jg,fe,nD,jh,eT,au,LT.each,bz,nk,hw]
  ·have hg2:bx (i:Int) y2=b.2:=by simp only [bx,Int.toNat_natCast];exact congrArg Prod.snd (gZ _)
   simp only [au,eT,fc,jh,dg,LT.fn,bz,nk,bE,bW,hg2,cond_true]
  ·intro a' hf
   have hbl:=hL b (List.mem_of_getElem? hb)
   have h5:=ajJ b.2
   simp only [bE,Sum.inr.injEq,(acO b.2 a (by omega) (by omega)).2]at hf
   subst hf
   rw [List.length_append]
   omega
 ·obtain y3:=a
  simp [bx,dg,fc,je,jf,jg,fe,nD,jh,eT,au,LT.out,bz]
theorem am5{f:LN→List TM→Nat ⊕ List TM}{e:Nat}: ∀ (ls:List LN) (i:Nat) (acc:List TM) (c:Nat),(∀ l∈ls,∀ a:List TM,a.length≤c + (ls.length * 1048576)→f l a= .inr (a++blT l.2))→(∀ l∈ls,l.2.length≤1048576)→acc.length≤c→
  af f e ls i acc=(e,i + ls.length,acc++blL ls)
 | [],i,acc,c,_,_,_=>by simp [af,blL]
 |l::r,i,acc,c,hf,hL,hc=>by
  have h5:=ajJ l.2
  have h6:=hL l (by simp)
  simp only [af,hf l (by simp) acc (by omega)]
  rw [am5 r (i + 1) (acc++blT l.2) (c + 1048576) (fun x hx a ha=>hf x (by simp [hx]) a (by rw [List.length_cons];omega)) (fun x hx=>hL x (by simp [hx])) (by rw [List.length_append];omega)]
  simp [blL];omega
theorem akV(ls:List LN)(h:Xf ls=true):oT ls=blL ls∧oU ls=true:=by
 obtain⟨hn,hA⟩:=Nr.1 h
 have hL: ∀ l∈ls,l.2.length≤1048576:=fun l hl=>(Nx.1 (hA l hl).2).1
 obtain⟨w1,w2⟩:=Gb ls [] (by omega) hn hL rfl
 have hw:=am5 (f:=bE) (e:=0) ls 0 [] 0 (fun l hl a ha=>by
  have:=hL l hl
  simp only [bE,(acO l.2 a (by omega) (by omega)).2]) hL (by simp)
 rw [hw]at w2
 simp only [oT,oU,oI,w1,w2,allT,bz]
 simp
theorem alT(k:Nat)(u v:ByteArray)(acc:List TM)(p q r:List ByteArray)(ls:List LN)(l:LN)(hl:ls[k]? =some l)(hn:l.2.length≤1048576)(hc:acc.length + l.2.length≤4000000000000):
  dJ.fin ((0:Int),(k:Int),u,v,acc,p,q,r,ls)=true∧dJ.res ((0:Int),(k:Int),u,v,acc,p,q,r,ls)=(0,((l.2.length:Int),(k:Int),u,v,acc++blT l.2,p,q,r,ls)):=by
 have hkl:=(List.getElem?_eq_some_iff.1 hl).1
 have hgl: ∀ d,Option.getD ls[k]? d=l:=fun d=>by rw [hl];rfl
 have ha2:qt (k:Int) ls=l.2:=by simp only [qt,Int.toNat_natCast];exact congrArg Prod.snd (hgl _)
 have ha0:FK (k:Int) ls=true:=et (by omega)
 have ha1:zm (k:Int) ls=true:=by simp only [zm,Int.toNat_natCast];exact gu hkl
 have hk0:leI 0 (k:Int)=true:=bv (by omega)
 have iY:=dJ.along2 (fun i (a:List TM)=>((i:Int),(k:Int),u,v,a,p,q,r,ls)) (fun x=>x.2.2.2.2.1) (fun(b:TM) a=> .inr (ahq a b)) 0 (fun i a=>a.length≤acc.length + i) l.2 acc (by omega)
  (by omega) (fun i b a hb hI=> ?_) (fun a hI=> ?_)
 ·rw [JY (g:=ahq) (fun b a=>rfl),ahD]at iY
  simpa using iY
 ·have eB:=(List.getElem?_eq_some_iff.1 hb).1
  have hw:IntKind.i64.wrap ((i:Int) + 1)=((i + 1:Nat):Int):=by rw [bc (by omega) (by omega)];omega
  have bW:ltI (i:Int) (l.2.length:Int)=true:=et (by omega)
  have vL:leI (0:Int) (i:Int)=true:=bv (by omega)
  have im:ltN i l.2.length=true:=gu eB
  have hg2:qv (i:Int) (k:Int) ls=b:=by simp only [qv,ha2,Int.toNat_natCast,hb,Option.getD_some]
  have hg3:qu (i:Int) (k:Int) ls=true:=by simp only [qu,ha2,bW]
  have h8: ∀ z:TM,leN (a.length + List.length [z]) 9223372036854775807=true:=fun z=>dm (by rw [List.length_singleton];omega)
  have h9: ∀ z:TM,leN ((a.length + List.length [z]) * 32) 140737488355328=true:=fun z=>dm (by rw [List.length_singleton];omega)
  refine⟨?_,?_,?_,?_⟩
  ·simp only [rP,rQ,rR,rS,vj,vk,vl,vm,vn,vo,uj,uk,ul,um,uo,qs,uq,ub,dJ,dP,qw,LT.nds,allT,ha0,ha1,ha2,hk0,hg2,hg3,bW,vL,im,h8,h9,Int.toNat_natCast,cond_true,Bool.or_true]
   cases leI 7 b.1 <;> simp [LT.nds]
  ·simp only [rP,rQ,rR,rS,vj,vk,vl,vm,vn,vo,uj,uk,ul,um,uo,qs,uq,ub,dJ,dP,qw,LT.each,hw,hg2,hg3]
   cases leI 7 b.1 <;> simp [LT.each]
  ·simp only [rP,rQ,rR,rS,vj,vk,vl,vm,vn,vo,uj,uk,ul,um,uo,qs,uq,ub,dJ,dP,qw,LT.fn,hg2,hg3,cond_true,ahq]
   cases leI 7 b.1 <;> rfl
  ·intro a' hf
   simp only [Sum.inr.injEq]at hf
   subst hf
   have:=akA a b
   omega
 ·have bW:qu (l.2.length:Int) (k:Int) ls=false:=by simp only [qu,ha2];exact Pa (by omega)
  simp [rP,rQ,rR,rS,vj,vk,vl,vm,vn,vo,uj,uk,ul,um,uo,qs,uq,ub,dJ,LT.out,allT,ha0,ha1,hk0,bW]
theorem aly(u v:ByteArray)(p q r:List ByteArray)(ls:List LN)(h:Xf ls=true):PR u v p q r ls=blL ls∧PS u v p q r ls=true:=by
 obtain⟨hn,hA⟩:=Nr.1 h
 have hL: ∀ l∈ls,l.2.length≤1048576:=fun l hl=>(Nx.1 (hA l hl).2).1
 have iY:=iS.along (fun i (a:List TM)=>((i:Int),u,v,a,p,q,r,ls)) (fun x=>x.2.2.2.1) (fun(b:LN) a=> .inr (a++blT b.2)) 0 (fun i a=>a.length≤i * 1048576) ls [] (by simp)
  (by simp only [iS];omega) (fun i b a hb hI=> ?_) (fun a hI=> ?_)
 ·rw [JY (g:=fun a (l:LN)=>a++blT l.2) (fun b a=>rfl),ai8]at iY
  simp only [PR,PS,OD,allT]
  simp only [List.nil_append,Nat.zero_add]at iY
  have e0:((0:Nat):Int)=0:=rfl
  rw [e0]at iY
  rw [iY.1,iY.2]
  exact⟨rfl,rfl⟩
 ·have eB:=(List.getElem?_eq_some_iff.1 hb).1
  have hbl:=hL b (List.mem_of_getElem? hb)
  have hw:IntKind.i64.wrap ((i:Int) + 1)=((i + 1:Nat):Int):=by rw [bc (by omega) (by omega)];omega
  have bW:ltI (i:Int) (ls.length:Int)=true:=et (by omega)
  obtain⟨k1,k2⟩:=alT i u v a p q r ls b hb hbl (by omega)
  refine⟨?_,?_,?_,?_⟩
  ·simp [Ay,Az,AA,AB,yc,iS,yF,LT.nds,allT,bW,k1]
  ·simp [Ay,Az,AA,AB,yc,iS,yF,LT.each,bW,hw,k2]
  ·simp [Ay,Az,AA,AB,yc,iS,yF,LT.fn,bW,k2]
  ·intro a' hf
   simp only [Sum.inr.injEq]at hf
   subst hf
   have:=ajJ b.2
   rw [List.length_append];omega
 ·have bW:ltI (ls.length:Int) (ls.length:Int)=false:=Pa (by omega)
  simp [Ay,Az,AA,AB,yc,iS,LT.out,bW]
def vQ:List SV→List Entry→Option Out
 | [.one ⟨true,[.val (.string _x0),.ref 0,.ref 1,.ref 2,.val (.string _x1),.ref 3]⟩],[.row false 9 (.str) x2,.row false 9 (.str) x3,.row false 9 (.str) x4,.row false 204 (.pair (.str) (.sl 178 (.pair (.int .i64) (.pair (.str) (.int .i64))))) x5]=>some ⟨.one ⟨false,[.ref 4]⟩,[.row false 9 ahF x2,.row false 9 ahF x3,.row false 9 ahF x4,.row false 204 (CTy.pair CTy.str (CTy.sl (178:TypeId) afk)) x5],[.row true 178 afk (blL x5)],[Xf x5]⟩
 |_,_=>none
def dK:PF prog:=PF.alt Hu vQ (by
 intro args es o h cE;unfold vQ at h;split at h
 ·rename_i _x0 _x1 x2 x3 x4 x5
  cases h
  have cE:=mH cE
  have hh:=akV x5 cE
  obtain⟨e0,en⟩:=hh
  exact rV rfl (md en) rfl rfl (by simp only [e0] <;> rfl)
 ·cases h)
def UN:List SV→List Entry→Option Out
 | [.one ⟨true,[.val (.string x0),.ref 0,.ref 1,.ref 2,.val (.string x1),.ref 3]⟩],[.row false 9 (.str) x2,.row false 9 (.str) x3,.row false 9 (.str) x4,.row false 204 (.pair (.str) (.sl 178 (.pair (.int .i64) (.pair (.str) (.int .i64))))) x5]=>some ⟨.one ⟨false,[.ref 4]⟩,[.row false 9 ahF x2,.row false 9 ahF x3,.row false 9 ahF x4,.row false 204 (CTy.pair CTy.str (CTy.sl (178:TypeId) afk)) x5],[.row true 178 afk (blL x5)],[Xf x5]⟩
 |_,_=>none
def PH:PF prog:=PF.alt afM UN (by
 intro args es o h cE;unfold UN at h;split at h
 ·rename_i x0 x1 x2 x3 x4 x5
  cases h
  have cE:=mH cE
  have hh:=aly x0 x1 x2 x3 x4 x5 cE
  obtain⟨e0,en⟩:=hh
  exact rV rfl (md en) rfl rfl (by simp only [e0] <;> rfl)
 ·cases h)
theorem ao0(n:Int)(h0:0≤n)(h1:n≤100000000):sB n= []∧sC n=true:=by
 have w0:IntKind.i64.wrap ((↑(0:Nat):Int) - (↑(0:Nat):Int))=0:=rfl
 have e0:ba n=n:=by simp only [ba,w0];rw [bc (by omega) (by omega)];omega
 refine⟨?_,?_⟩
 ·simp only [sB,e0];cases ltI 0 n <;> rfl
 ·have t0:ltI n 0=false:=Pa h0
  have t1:leI (0:Int) (0:Int)=true:=rfl
  have t2:leI (↑(0:Nat):Int) (0:Int)=true:=rfl
  have t3:leI (0:Int) (↑(0:Nat):Int)=true:=rfl
  have t4:leI n 9223372036854775807=true:=bv (by omega)
  have t5:leI (n * (↑(16:Nat):Int)) 281474976710656=true:=bv (by omega)
  have t6: ∀ m:Nat,leI (↑(0:Nat):Int) (m:Int)=true:=fun m=>bv (by omega)
  have t7:(!ltI 0 n||leI 1 n)=true:=by
   cases h:ltI 0 n with
   |false=>rfl
   |true=>have:=ag8.1 h;rw [bv (by omega)];rfl
  simp only [sC,wU,e0,t0,t1,t2,t3,t4,t5,t6,t7,allT,Bool.or_true,Bool.not_false,cond_true]
def Hx(l:List (List ByteArray)):Nat:=(l.map List.length).sum
theorem agC(a b:List (List ByteArray)):Hx (a++b)=Hx a + Hx b:=by simp [Hx]
theorem aaw{l:List (List ByteArray)}{i:Nat}{b:List ByteArray}(hb:l[i]? =some b):Hx (l.take (i + 1))=Hx (l.take i) + b.length∧Hx (l.take (i + 1))≤Hx l:=by
 obtain⟨hi,rfl⟩:=List.getElem?_eq_some_iff.1 hb
 refine⟨?_,?_⟩
 ·rw [List.take_succ_eq_append_getElem hi,agC];simp [Hx]
 ·have h5:=agC (l.take (i + 1)) (l.drop (i + 1))
  rw [List.take_append_drop]at h5
  omega
def cA(b:List ByteArray):(Int)→Nat ⊕ (Int)
 |y2=>(.inr (IntKind.wrap .i64 (y2 + (↑(List.length b):Int))))
def dD(y3:List (List ByteArray))(i:Nat):(Int)→cw
 |y2=>((i:Int),(↑y3.length:Int),y2,y3)
def uv:cw→Int
 |(_,_,y2,_)=>y2
theorem OR(y3:List (List ByteArray))(y2:Int)(hn:y3.length≤9223372036854775807)(h0:y2=0)(hS:Hx y3≤2000000):
  bg.fin ((0:Int),(↑y3.length:Int),y2,y3)=true∧bg.res ((0:Int),(↑y3.length:Int),y2,y3)=((af (cA) 0 y3 0 y2).1,(dD y3) (af (cA) 0 y3 0 y2).2.1 (af (cA) 0 y3 0 y2).2.2):=by
 have iY:=bg.along (dD y3) uv (cA) 0 (fun i a=>a=(Hx (y3.take i):Int)) y3 y2 (by rw [h0];simp [Hx]) (by simp only [bg,dD];omega) (fun i b a hb hI=> ?_) (fun a hI=> ?_)
 ·exact iY
 ·obtain y2:=a
  have eB:=(List.getElem?_eq_some_iff.1 hb).1
  have gZ: ∀ d,Option.getD y3[i]? d=b:=fun d=>by rw [hb];rfl
  have hw:=sX eB hn
  have bW:ltI (i:Int) (y3.length:Int)=true:=et (by omega)
  have vL:leI (0:Int) (i:Int)=true:=bv (by omega)
  have im:ltN i y3.length=true:=gu eB
  refine⟨?_,?_,?_,?_⟩
  ·have hg2:fo (i:Int) a y3=(Hx (y3.take (i + 1)):Int):=by
    have h3:=aaw hb
    simp only [fo,Int.toNat_natCast]
    refine(congrArg (fun z:List ByteArray=>IntKind.i64.wrap (a + (z.length:Int))) (gZ _)).trans ?_
    show IntKind.i64.wrap (a + (b.length:Int))=_
    rw [hI,bc (by omega) (by omega)];omega
   have h6:ltI (Hx (y3.take (i + 1)):Int) 0=false:=Pa (by omega)
   simp only [bg,lF,mg,pX,pY,pZ,qa,LT.nds,allT,dD,bW,vL,im,hg2,h6,Int.toNat_natCast,cond_true,Bool.and_self,Bool.not_false]
  ·simp [fo,mg,pX,pY,pZ,qa,vh,qb,lF,bg,LT.each,dD,uv,hw]
  ·simp only [bg,lF,mg,qb,fo,LT.fn,dD,uv,cA,bW,Int.toNat_natCast,cond_true]
   exact congrArg (fun z:List ByteArray=>(Sum.inr (IntKind.i64.wrap (a + (z.length:Int))):Nat ⊕ Int)) (gZ _)
  ·intro a' hf
   have h3:=aaw hb
   simp only [cA,Sum.inr.injEq]at hf
   rw [← hf,hI,bc (by omega) (by omega)];omega
 ·obtain y2:=a
  simp [fo,mg,pX,pY,pZ,qa,vh,qb,lF,bg,LT.out,dD]
def fS(b:List ByteArray):(List ByteArray)→Nat ⊕ (List ByteArray)
 |y3=>(.inr (y3++(b)))
def dE(y2:List (List ByteArray))(i:Nat):(List ByteArray)→cz
 |y3=>((i:Int),(↑y2.length:Int),y2,y3)
def uw:cz→List ByteArray
 |(_,_,_,y3)=>y3
theorem OS(y2:List (List ByteArray))(y3:List ByteArray)(hn:y2.length≤9223372036854775807)(hS:Hx y2≤2000000)(h3:y3= []):
  bh.fin ((0:Int),(↑y2.length:Int),y2,y3)=true∧bh.res ((0:Int),(↑y2.length:Int),y2,y3)=((af (fS) 0 y2 0 y3).1,(dE y2) (af (fS) 0 y2 0 y3).2.1 (af (fS) 0 y2 0 y3).2.2):=by
 have iY:=bh.along (dE y2) uw (fS) 0 (fun i a=>a.length=Hx (y2.take i)) y2 y3 (by rw [h3];simp [Hx]) (by simp only [bh,dE];omega) (fun i b a hb hI=> ?_) (fun a hI=> ?_)
 ·exact iY
 ·obtain y3:=a
  have eB:=(List.getElem?_eq_some_iff.1 hb).1
  have gZ: ∀ d,Option.getD y2[i]? d=b:=fun d=>by rw [hb];rfl
  have hw:=sX eB hn
  have bW:ltI (i:Int) (y2.length:Int)=true:=et (by omega)
  have vL:leI (0:Int) (i:Int)=true:=bv (by omega)
  have im:ltN i y2.length=true:=gu eB
  refine⟨?_,?_,?_,?_⟩
  ·have hg2:cU (i:Int) y2=b:=by simp only [cU,Int.toNat_natCast];exact gZ _
   have h3:=aaw hb
   have h6:leN (a.length + b.length) 9223372036854775807=true:=dm (by omega)
   have h7:leN ((a.length + b.length) * 16) 140737488355328=true:=dm (by omega)
   simp only [bh,lG,mh,qc,qd,qe,qf,qg,LT.nds,allT,dE,bW,vL,im,hg2,h6,h7,Int.toNat_natCast,cond_true,Bool.and_self]
  ·simp [cU,mh,qc,qd,qe,qf,qg,vi,qh,lG,bh,LT.each,dE,uw,hw]
  ·have hg2:cU (i:Int) y2=b:=by simp only [cU,Int.toNat_natCast];exact gZ _
   simp only [bh,lG,mh,qh,LT.fn,dE,uw,fS,bW,hg2,cond_true]
  ·intro a' hf
   have h3:=aaw hb
   simp only [fS,Sum.inr.injEq]at hf
   rw [← hf,List.length_append];omega
 ·obtain y3:=a
  simp [cU,mh,qc,qd,qe,qf,qg,vi,qh,lG,bh,LT.out,dE]
theorem akM: ∀ (l:List (List ByteArray)) (acc:List ByteArray),l.foldl (fun a b=>a++b) acc=acc++l.flatten
 | [],acc=>by simp
 |a::r,acc=>by rw [List.foldl_cons,akM r];simp
theorem apG(l:List (List ByteArray))(h:(leN l.length 1000&&leN (Hx l) 2000000)=true):yj l=l.flatten∧yk l=true:=by
 simp only [Bool.and_eq_true,io]at h
 obtain⟨w1,w2⟩:=OR l 0 (by omega) rfl h.2
 have hw:(af cA 0 l 0 (0:Int)).2.2=(Hx l:Int):=by
  have hg: ∀ (r:List (List ByteArray)) (i:Nat) (a:Int),0≤a→a + Hx r≤2000000→(af cA 0 r i a).2.2=a + Hx r:=by
   intro r
   induction r with
   |nil=>intro i a _ _;simp [af,Hx]
   |cons x r ih=>
    intro i a h0 h1
    have h3:Hx (x::r)=x.length + Hx r:=by simp [Hx]
    have hf:cA x a= .inr (a + (x.length:Int)):=by
     simp only [cA]
     rw [bc (by omega) (by omega)]
    simp only [af,hf]
    rw [ih (i + 1) (a + (x.length:Int)) (by omega) (by omega),h3]
    omega
  have:=hg l 0 0 (by omega) (by omega)
  omega
 have ha1:rD l=(Hx l:Int):=by
  simp only [rD,rC,w2,dD]
  exact hw
 obtain⟨g1,g2⟩:=ao0 (Hx l:Int) (by omega) (by omega)
 obtain⟨v1,v2⟩:=OS l [] (by omega) h.2 rfl
 rw [JY (f:=fS) (g:=fun a b=>a++b) (fun b a=>rfl),akM]at v2
 refine⟨?_,?_⟩
 ·simp only [yj,rE,ha1,g1,v2,dE,List.nil_append]
 ·simp only [yk,rE,ha1,g1,g2,v1,rC,w1,allT,cond_true]
def Gr:List SV→List Entry→Option Out
 | [.one ⟨false,[.ref 0]⟩],[.row false 60 (.sl 9 (.str)) x0]=>some ⟨.one ⟨false,[.ref 1]⟩,[.row false 60 (CTy.sl (9:TypeId) CTy.str) x0],[.row true 9 ahF (x0.flatten)],[leN x0.length 1000&&leN (Hx x0) 2000000]⟩
 |_,_=>none
def cg:PF prog:=PF.alt Qo Gr (by
 intro args es o h cE;unfold Gr at h;split at h
 ·rename_i x0
  cases h
  have cE:=mH cE
  have hh:=apG x0 cE
  obtain⟨e0,en⟩:=hh
  exact rV rfl (md en) rfl rfl (by simp only [e0] <;> rfl)
 ·cases h)
abbrev lB:=Int×ByteArray×ByteArray×List ByteArray×List ByteArray×List ByteArray×List (ByteArray×(List (Int×(ByteArray×Int))))
def ue(y0:Int)(y6:List (ByteArray×(List (Int×(ByteArray×Int))))):Bool:=ltI y0 (↑y6.length:Int)
def uf(y0:Int)(y6:List (ByteArray×(List (Int×(ByteArray×Int))))):Bool:=ltN y0.toNat y6.length
def ml(y0:Int)(y6:List (ByteArray×(List (Int×(ByteArray×Int))))):ByteArray×List (Int×ByteArray×Int):=Option.getD y6[Int.toNat y0]? (qA (CTy.pair CTy.str (CTy.sl (178:Nat) afk)))
def iX(y0:Int)(y6:List (ByteArray×(List (Int×(ByteArray×Int))))):Bool:= !mm ((ml y0 y6).1)
def qZ(y0:Int)(y6:List (ByteArray×(List (Int×(ByteArray×Int))))):List (Int×ByteArray×Int):=bif !iX y0 y6&&true then (ml y0 y6).2else []
def vK(y0:Int)(y6:List (ByteArray×(List (Int×(ByteArray×Int))))):Bool:=ue y0 y6
def ES(y0:Int):Bool:=leI (0:Int) y0
def ET(y0:Int)(y6:List (ByteArray×(List (Int×(ByteArray×Int))))):Bool:=uf y0 y6
def EU(y0:Int)(y6:List (ByteArray×(List (Int×(ByteArray×Int))))):Bool:=sW ((ml y0 y6).1)
def EV(y0:Int)(y6:List (ByteArray×(List (Int×(ByteArray×Int))))):Bool:= !(!iX y0 y6&&true)||leI (0:Int) y0
def EW(y0:Int)(y6:List (ByteArray×(List (Int×(ByteArray×Int))))):Bool:= !(!iX y0 y6&&true)||ue y0 y6
def EX(y0:Int)(y6:List (ByteArray×(List (Int×(ByteArray×Int))))):Bool:= !(!iX y0 y6&&true)||uf y0 y6
def EY(y0:Int)(y6:List (ByteArray×(List (Int×(ByteArray×Int))))):Bool:= !(!iX y0 y6&&true)||Rn (qZ y0 y6)
def Ax(y0:Int)(y6:List (ByteArray×(List (Int×(ByteArray×Int))))):Bool:=bif iX y0 y6 then true else !aej (qZ y0 y6)
def EZ(y0:Int):Int:=IntKind.wrap .i64 (y0 + (1:Int))
def YM:lB→List (Nat×SV)
 |(y0,_,_,_,_,_,_)=> [(3,(.one ⟨false,[.val (.int .i64 y0)]⟩)),(1,(.one ⟨false,[.ptr 0 0]⟩))]
def YC:lB→List (Nat×Entry)
 |(_,y1,y2,y3,y4,y5,y6)=> [(0,(.box 63 [.val (.string y1),.ref 1,.ref 2,.ref 3,.val (.string y2),.ref 4])),(1,(.row false 9 ahF y3)),(2,(.row false 9 ahF y4)),(3,(.row false 9 ahF y5)),(4,(.row false 204 (CTy.pair CTy.str (CTy.sl (178:Nat) afk)) y6))]
def Zp:Nat→lB→List (Nat×SV)
 |0,(_,_,_,_,_,_,_)=> [(2,(.one ⟨false,[.val (.bool false)]⟩))]
 |_,(_,_,_,_,_,_,_)=> []
def Zf:Nat→lB→List (Nat×Entry)
 |0,(_,y1,y2,y3,y4,y5,y6)=> [(0,(.box 63 [.val (.string y1),.ref 1,.ref 2,.ref 3,.val (.string y2),.ref 4])),(1,(.row false 9 ahF y3)),(2,(.row false 9 ahF y4)),(3,(.row false 9 ahF y5)),(4,(.row false 204 (CTy.pair CTy.str (CTy.sl (178:Nat) afk)) y6))]
 |_,(_,y1,y2,y3,y4,y5,y6)=> [(0,(.box 63 [.val (.string y1),.ref 1,.ref 2,.ref 3,.val (.string y2),.ref 4])),(1,(.row false 9 ahF y3)),(2,(.row false 9 ahF y4)),(3,(.row false 9 ahF y5)),(4,(.row false 204 (CTy.pair CTy.str (CTy.sl (178:Nat) afk)) y6))]
def ya:lB→LT lB
 |(y0,y1,y2,y3,y4,y5,y6)=> .ite (vK y0 y6) (.need [ES y0,vK y0 y6,ET y0 y6,EU y0 y6,EV y0 y6,EW y0 y6,EX y0 y6,EY y0 y6] (.ite (Ax y0 y6) (.ext 0 [(0,0),(1,1),(2,2),(3,3),(4,4)]) (.nrm ((EZ y0),y1,y2,y3,y4,y5,y6) [(0,0),(1,1),(2,2),(3,3),(4,4)]))) (.ext 1 [(0,0),(1,1),(2,2),(3,3),(4,4)])
def JT(s:St):Option lB:=
 (match s.look 3 with
 |some ⟨none,.one ⟨false,[.val (.int .i64 y0)]⟩⟩=>
 (match s.look 1 with
 |some ⟨none,.one ⟨false,[.ptr 320 0]⟩⟩=>
 (match s.ent 320 with
 |some (.box 63 [.val (.string y1),.ref 0,.ref 1,.ref 2,.val (.string y2),.ref 3])=>
 (match s.ent 0 with
 |some (.row false 9 (.str) y3)=>
 (match s.ent 1 with
 |some (.row false 9 (.str) y4)=>
 (match s.ent 2 with
 |some (.row false 9 (.str) y5)=>
 (match s.ent 3 with
 |some (.row false 204 (.pair .str (.sl (178:Nat) (.pair (.int .i64) (.pair .str (.int .i64))))) y6)=>
 some (y0,y1,y2,y3,y4,y5,y6)
 |_=>none)
 |_=>none)
 |_=>none)
 |_=>none)
 |_=>none)
 |_=>none)
 |_=>none)
def eq:Lp lB where
 h:=⟨[37,38,39,40,41,44,45,46,47,48,49,50,51,52,53,54,55,56,57,58,59,60,61,2,42,43,3],[0,1,2,3,4],[],[]⟩
 JL:=YM
 JE:=YC
 XL:=Zp
 XE:=Zf
 q:=fun j=>match j with | 0=> .ret | _=> .exit 0
 tags:= [0,1]
 lt:=ya
 fuel:=fun(y0,y1,y2,y3,y4,y5,y6)=>y0.natAbs + y1.size + y2.size + y3.length + y4.length + y5.length + y6.length
 fix:=fun(_,y1,y2,y3,y4,y5,y6) (y0,_,_,_,_,_,_)=>(y0,y1,y2,y3,y4,y5,y6)
 σ:= [(0,320),(1,0),(2,1),(3,2),(4,3)]
 rd:=JT
theorem We:LoopOk prog (fun k=>Nat.blt k Tryz.f186.ntmps) eq.F (aL f186 0):=by
 refine Lp.ok (tbl:= [xx,JA,CU,PF.lend CU,PF.fz CU,vJ,PF.lend vJ,PF.fz vJ]) (lf:= []) aP eq (by kernel_rfl) (LOk.nil _) (fun _=>rfl) (fun j _=>by unfold eq;match j with | 0=>rfl | _ + 1=>rfl) ?_ ?_ ?_ ?_ (fun _=>rfl) ?_
 ·rintro⟨y0,y1,y2,y3,y4,y5,y6⟩;kernel_rfl
 ·rintro⟨y0,y1,y2,y3,y4,y5,y6⟩;kernel_rfl
 ·intro s x h
  have h:JT s=some x:=h
  unfold JT at h
  repeat' split at h
  all_goals cases h
  exact⟨aa (by assumption) rfl (aa (by assumption) rfl (rfl)),ab rfl (by assumption) rfl (ab rfl (by assumption) rfl (ab rfl (by assumption) rfl (ab rfl (by assumption) rfl (ab rfl (by assumption) rfl (rfl)))))⟩
 ·rintro⟨y0,y1,y2,y3,y4,y5,y6⟩;kernel_rfl
 ·rintro⟨y0,y1,y2,y3,y4,y5,y6⟩ z;exact(And.intro (And.intro trivial rfl) trivial)
section
variable (x0:ByteArray)(x2 x3 x4:List ByteArray)
def Ou:Bool:=bif !mm x0 then true else !(List.all x2 mt&&inR (↑x2.length:Int) (1:Int) (20:Int))
def Ov:Bool:=bif Ou x0 x2 then true else !(List.all x3 mt&&inR (↑x3.length:Int) (0:Int) (20:Int))
def Ow:Bool:=bif Ov x0 x2 x3 then true else !(List.all x4 mt&&inR (↑x4.length:Int) (1:Int) (20:Int))
end
def Ox(x1:ByteArray):Bool:=
 !ByteArray.toList x1==ByteArray.toList { data:= #[] }
section
variable (x0 x1:ByteArray)(x2 x3 x4:List ByteArray)(x5:List (ByteArray×List (Int×ByteArray×Int)))
def Oy:Bool:=bif Ow x0 x2 x3 x4 then true else bif Ox x1 then !mm x1 else false
def IK:Int×ByteArray×ByteArray×List ByteArray×List ByteArray×List ByteArray×List (ByteArray×List (Int×ByteArray×Int)):=((0:Int),x0,x1,x2,x3,x4,x5)
def FI:Bool:=bif Oy x0 x1 x2 x3 x4 then false else bif Nat.beq ((Lp.res eq (IK x0 x1 x2 x3 x4 x5)).1) (0:Nat)then false else bt (↑x5.length:Int) (1:Int) (40:Int)
def KD:Bool:=allT [sW x0,!(!!mm x0&&true)||Pf x2,!(!Ou x0 x2&&true)||Pf x3,!(!Ov x0 x2 x3&&true)||Pf x4,!(Ox x1&&(!Ow x0 x2 x3 x4&&true))||sW x1,Oy x0 x1 x2 x3 x4||Lp.fin eq (IK x0 x1 x2 x3 x4 x5)]
end
def Uz:List SV→List Entry→Option Out
 | [.one ⟨true,[.val (.string x0),.ref 0,.ref 1,.ref 2,.val (.string x1),.ref 3]⟩],[.row false 9 (.str) x2,.row false 9 (.str) x3,.row false 9 (.str) x4,.row false 204 (.pair (.str) (.sl 178 (.pair (.int .i64) (.pair (.str) (.int .i64))))) x5]=>some ⟨.one ⟨false,[.val (.bool (FI x0 x1 x2 x3 x4 x5))]⟩,[.row false 9 ahF x2,.row false 9 ahF x3,.row false 9 ahF x4,.row false 204 (CTy.pair CTy.str (CTy.sl (178:TypeId) afk)) x5],[],[KD x0 x1 x2 x3 x4 x5]⟩
 |_,_=>none
def PO:PF prog:=PF.ofG prog [xx,JA,CU,PF.lend CU,PF.fz CU,vJ,PF.lend vJ,PF.fz vJ] [eq.F] aP 186 f186 func186 (LOk.fnT (l:= [aL f186 0]) (by kernel_rfl) (.cons We (.nil _))) Uz (by
 intro vs es r h;unfold Uz at h;split at h
 ·cases h;kernel_rfl
 ·cases h)
def rb(x2:ByteArray)(x3 x4:List ByteArray):Bool:=bif leI (0:Int) (iF x3 x2)then true else leI (0:Int) (iF x4 x2)
def Cw(x2:ByteArray)(x3 x4:List ByteArray):Bool:=allT [leN x3.length (9223372036854775807:Nat),!(!leI (0:Int) (iF x3 x2)&&true)||leN x4.length (9223372036854775807:Nat)]
def RH:List SV→List Entry→Option Out
 | [.one ⟨true,[.val (.string _x0),.ref 0,.ref 1,.ref 2,.val (.string _x1),.ref 3]⟩,.one ⟨false,[.val (.string x2)]⟩],[.row false 9 (.str) x3,.row false 9 (.str) x4,.row false 9 (.str) x5,.row false 204 (.pair (.str) (.sl 178 (.pair (.int .i64) (.pair (.str) (.int .i64))))) x6]=>some ⟨.one ⟨false,[.val (.bool (rb x2 x3 x4))]⟩,[.row false 9 ahF x3,.row false 9 ahF x4,.row false 9 ahF x5,.row false 204 (CTy.pair CTy.str (CTy.sl (178:TypeId) afk)) x6],[],[Cw x2 x3 x4]⟩
 |_,_=>none
def jI:PF prog:=PF.ofG prog [bS,PF.lend bS,PF.fz bS] [] aP 243 f243 func243 (fun c _=>LOk.nil c) RH (by
 intro vs es r h;unfold RH at h;split at h
 ·cases h;kernel_rfl
 ·cases h)
abbrev mA:=Int×ByteArray×ByteArray×List ByteArray×List ByteArray×List ByteArray×List ByteArray×List (ByteArray×(List (Int×(ByteArray×Int))))
def iC(y0:Int)(y7:List (ByteArray×(List (Int×(ByteArray×Int))))):ByteArray:=(Option.getD y7[Int.toNat y0]? (qA (CTy.pair CTy.str (CTy.sl (178:Nat) afk)))).1
def wX(y0:Int)(y7:List (ByteArray×(List (Int×(ByteArray×Int))))):Bool:=ltI y0 (↑y7.length:Int)
def Cj(y0:Int):Bool:=leI (0:Int) y0
def Ck(y0:Int)(y7:List (ByteArray×(List (Int×(ByteArray×Int))))):Bool:=ltN y0.toNat y7.length
def Cl(y5:List ByteArray):Bool:=leN y5.length (9223372036854775807:Nat)
def Cm(y0:Int)(y5 y6:List ByteArray)(y7:List (ByteArray×(List (Int×(ByteArray×Int))))):Bool:= !(ltI (iF y5 (iC y0 y7)) (0:Int)&&true)||leN y6.length (9223372036854775807:Nat)
def Cn(y0:Int)(y5 y6:List ByteArray)(y7:List (ByteArray×(List (Int×(ByteArray×Int))))):Bool:=bif ltI (iF y5 (iC y0 y7)) (0:Int)then ltI (iF y6 (iC y0 y7)) (0:Int)else false
def Co(y0:Int)(y3:List ByteArray)(y7:List (ByteArray×(List (Int×(ByteArray×Int))))):Bool:=leN (List.length y3 + List.length [iC y0 y7]) (9223372036854775807:Nat)
def Cp(y0:Int)(y3:List ByteArray)(y7:List (ByteArray×(List (Int×(ByteArray×Int))))):Bool:=leN ((List.length y3 + List.length [iC y0 y7]) * (16:Nat)) (140737488355328:Nat)
def Cq(y0:Int):Int:=IntKind.wrap .i64 (y0 + (1:Int))
def Cr(y0:Int)(y3:List ByteArray)(y7:List (ByteArray×(List (Int×(ByteArray×Int))))):List ByteArray:=y3++ [iC y0 y7]
def aaN:mA→List (Nat×SV)
 |(y0,_,_,_,_,_,_,_)=> [(4,(.one ⟨false,[.val (.int .i64 y0)]⟩)),(1,(.one ⟨false,[.ptr 0 0]⟩)),(3,(.one ⟨false,[.ref 1]⟩))]
def aaD:mA→List (Nat×Entry)
 |(_,y1,y2,y3,y4,y5,y6,y7)=> [(0,(.box 63 [.val (.string y1),.ref 2,.ref 3,.ref 4,.val (.string y2),.ref 5])),(2,(.row false 9 ahF y4)),(3,(.row false 9 ahF y5)),(4,(.row false 9 ahF y6)),(5,(.row false 204 (CTy.pair CTy.str (CTy.sl (178:Nat) afk)) y7)),(1,(.row true 9 ahF y3))]
def aa7:Nat→mA→List (Nat×SV)
 |0,(_,_,_,_,_,_,_,_)=> [(2,(.one ⟨false,[.val (.int .i64 (3:Int))]⟩))]
 |_,(_,_,_,_,_,_,_,_)=> [(3,(.one ⟨false,[.ref 1]⟩))]
def aaX:Nat→mA→List (Nat×Entry)
 |0,(_,y1,y2,y3,y4,y5,y6,y7)=> [(0,(.box 63 [.val (.string y1),.ref 2,.ref 3,.ref 4,.val (.string y2),.ref 5])),(1,(.row true 9 ahF y3)),(2,(.row false 9 ahF y4)),(3,(.row false 9 ahF y5)),(4,(.row false 9 ahF y6)),(5,(.row false 204 (CTy.pair CTy.str (CTy.sl (178:Nat) afk)) y7))]
 |_,(_,y1,y2,y3,y4,y5,y6,y7)=> [(0,(.box 63 [.val (.string y1),.ref 2,.ref 3,.ref 4,.val (.string y2),.ref 5])),(1,(.row true 9 ahF y3)),(2,(.row false 9 ahF y4)),(3,(.row false 9 ahF y5)),(4,(.row false 9 ahF y6)),(5,(.row false 204 (CTy.pair CTy.str (CTy.sl (178:Nat) afk)) y7))]
def Ar:mA→LT mA
 |(y0,y1,y2,y3,y4,y5,y6,y7)=> .ite (wX y0 y7) (.need [Cj y0,wX y0 y7,Ck y0 y7] (.need [Cl y5,Cm y0 y5 y6 y7] (.ite (Cn y0 y5 y6 y7) (.ext 0 [(0,0),(1,1),(2,2),(3,3),(4,4),(5,5)]) (.need [Co y0 y3 y7,Cp y0 y3 y7] (.nrm ((Cq y0),y1,y2,Cr y0 y3 y7,y4,y5,y6,y7) [(0,0),(1,1792),(2,2),(3,3),(4,4),(5,5)]))))) (.ext 1 [(0,0),(1,1),(2,2),(3,3),(4,4),(5,5)])
def Lf(s:St):Option mA:=
 (match s.look 4 with
 |some ⟨none,.one ⟨false,[.val (.int .i64 y0)]⟩⟩=>
 (match s.look 1 with
 |some ⟨none,.one ⟨false,[.ptr 320 0]⟩⟩=>
 (match s.look 3 with
 |some ⟨none,.one ⟨false,[.ref 1280]⟩⟩=>
 (match s.ent 320 with
 |some (.box 63 [.val (.string y1),.ref 0,.ref 1,.ref 2,.val (.string y2),.ref 3])=>
 (match s.ent 0 with
 |some (.row false 9 (.str) y4)=>
 (match s.ent 1 with
 |some (.row false 9 (.str) y5)=>
 (match s.ent 2 with
 |some (.row false 9 (.str) y6)=>
 (match s.ent 3 with
 |some (.row false 204 (.pair .str (.sl (178:Nat) (.pair (.int .i64) (.pair .str (.int .i64))))) y7)=>
 (match s.ent 1280 with
 |some (.row true 9 (.str) y3)=>
 some (y0,y1,y2,y3,y4,y5,y6,y7)
 |_=>none)
 |_=>none)
 |_=>none)
 |_=>none)
 |_=>none)
 |_=>none)
 |_=>none)
 |_=>none)
 |_=>none)
def dl:Lp mA where
 h:=⟨[23,24,25,26,27,30,31,32,33,34,35,5,36,37,38,39,40,41,42,43,44,45,46,47,2,48,49,50,51,3,28,29,4],[0,2,3,4,5],[1],[]⟩
 JL:=aaN
 JE:=aaD
 XL:=aa7
 XE:=aaX
 q:=fun j=>match j with | 0=> .ret | _=> .exit 0
 tags:= [0,1]
 lt:=Ar
 fuel:=fun(y0,y1,y2,y3,y4,y5,y6,y7)=>y0.natAbs + y1.size + y2.size + y3.length + y4.length + y5.length + y6.length + y7.length
 fix:=fun(_,y1,y2,_,y4,y5,y6,y7) (y0,_,_,y3,_,_,_,_)=>(y0,y1,y2,y3,y4,y5,y6,y7)
 σ:= [(0,320),(2,0),(3,1),(4,2),(5,3),(1,1280)]
 rd:=Lf
theorem XV:LoopOk prog (fun k=>Nat.blt k Tryz.f187.ntmps) dl.F (aL f187 0):=by
 refine Lp.ok (tbl:= [bS,PF.lend bS,PF.fz bS,rm,PF.lend rm,PF.fz rm,nA,PF.lend nA,PF.fz nA,jI,PF.lend jI,PF.fz jI]) (lf:= []) aP dl (by kernel_rfl) (LOk.nil _) (fun _=>rfl) (fun j _=>by unfold dl;match j with | 0=>rfl | _ + 1=>rfl) ?_ ?_ ?_ ?_ (fun _=>rfl) ?_
 ·rintro⟨y0,y1,y2,y3,y4,y5,y6,y7⟩;kernel_rfl
 ·rintro⟨y0,y1,y2,y3,y4,y5,y6,y7⟩;kernel_rfl
 ·intro s x h
  have h:Lf s=some x:=h
  unfold Lf at h
  repeat' split at h
  all_goals cases h
  exact⟨aa (by assumption) rfl (aa (by assumption) rfl (aa (by assumption) rfl (rfl))),ab rfl (by assumption) rfl (ab rfl (by assumption) rfl (ab rfl (by assumption) rfl (ab rfl (by assumption) rfl (ab rfl (by assumption) rfl (ab rfl (by assumption) rfl (rfl))))))⟩
 ·rintro⟨y0,y1,y2,y3,y4,y5,y6,y7⟩;kernel_rfl
 ·rintro⟨y0,y1,y2,y3,y4,y5,y6,y7⟩ z;exact(And.intro (And.intro trivial rfl) trivial)
abbrev nq:=Int×Int×ByteArray×ByteArray×List ByteArray×List ByteArray×List ByteArray×List (ByteArray×(List (Int×(ByteArray×Int))))
def vp(y1:Int)(y7:List (ByteArray×(List (Int×(ByteArray×Int))))):List (Int×ByteArray×Int):=(Option.getD y7[Int.toNat y1]? (qA (CTy.pair CTy.str (CTy.sl (178:Nat) afk)))).2
def vq(y0 y1:Int)(y7:List (ByteArray×(List (Int×(ByteArray×Int))))):Int×ByteArray×Int:=Option.getD (vp y1 y7)[Int.toNat y0]? ((0:Int),ByteArray.empty,(0:Int))
def Hd(y0 y1:Int)(y7:List (ByteArray×(List (Int×(ByteArray×Int))))):Bool:=(vq y0 y1 y7).1==(1:Int)
def Ie(y1:Int):Bool:=leI (0:Int) y1
def Ig(y1:Int)(y7:List (ByteArray×(List (Int×(ByteArray×Int))))):Bool:=ltI y1 (↑y7.length:Int)
def CG(y1:Int)(y7:List (ByteArray×(List (Int×(ByteArray×Int))))):Bool:=ltN y1.toNat y7.length
def sL(y0 y1:Int)(y7:List (ByteArray×(List (Int×(ByteArray×Int))))):Bool:=ltI y0 (↑(List.length (vp y1 y7)):Int)
def Pb(y0:Int):Bool:=leI (0:Int) y0
def Ih(y0 y1:Int)(y7:List (ByteArray×(List (Int×(ByteArray×Int))))):Bool:=ltN y0.toNat (List.length (vp y1 y7))
def Ii(y0 y1:Int)(y4 y5:List ByteArray)(y7:List (ByteArray×(List (Int×(ByteArray×Int))))):Bool:= !(Hd y0 y1 y7&&true)||Cw (((vq y0 y1 y7).2).1) y4 y5
def Ij(y0 y1:Int)(y4 y5:List ByteArray)(y7:List (ByteArray×(List (Int×(ByteArray×Int))))):Bool:=bif Hd y0 y1 y7 then !rb (((vq y0 y1 y7).2).1) y4 y5 else false
def Pc(y0:Int):Int:=IntKind.wrap .i64 (y0 + (1:Int))
def VA:nq→List (Nat×SV)
 |(y0,y1,_,_,_,_,_,_)=> [(7,(.one ⟨false,[.val (.int .i64 y0)]⟩)),(1,(.one ⟨false,[.ptr 0 0]⟩)),(6,(.one ⟨false,[.val (.int .i64 y1)]⟩))]
def Vw:nq→List (Nat×Entry)
 |(_,_,y2,y3,y4,y5,y6,y7)=> [(0,(.box 63 [.val (.string y2),.ref 1,.ref 2,.ref 3,.val (.string y3),.ref 4])),(1,(.row false 9 ahF y4)),(2,(.row false 9 ahF y5)),(3,(.row false 9 ahF y6)),(4,(.row false 204 (CTy.pair CTy.str (CTy.sl (178:Nat) afk)) y7))]
def VI:Nat→nq→List (Nat×SV)
 |0,(_,_,_,_,_,_,_,_)=> [(2,(.one ⟨false,[.val (.int .i64 (6:Int))]⟩))]
 |_,(_,_,_,_,_,_,_,_)=> []
def VE:Nat→nq→List (Nat×Entry)
 |0,(_,_,y2,y3,y4,y5,y6,y7)=> [(0,(.box 63 [.val (.string y2),.ref 1,.ref 2,.ref 3,.val (.string y3),.ref 4])),(1,(.row false 9 ahF y4)),(2,(.row false 9 ahF y5)),(3,(.row false 9 ahF y6)),(4,(.row false 204 (CTy.pair CTy.str (CTy.sl (178:Nat) afk)) y7))]
 |_,(_,_,y2,y3,y4,y5,y6,y7)=> [(0,(.box 63 [.val (.string y2),.ref 1,.ref 2,.ref 3,.val (.string y3),.ref 4])),(1,(.row false 9 ahF y4)),(2,(.row false 9 ahF y5)),(3,(.row false 9 ahF y6)),(4,(.row false 204 (CTy.pair CTy.str (CTy.sl (178:Nat) afk)) y7))]
def uV:nq→LT nq
 |(y0,y1,y2,y3,y4,y5,y6,y7)=> .need [Ie y1,Ig y1 y7,CG y1 y7] (.ite (sL y0 y1 y7) (.need [Ie y1,Ig y1 y7,CG y1 y7,Pb y0,sL y0 y1 y7,Ih y0 y1 y7] (.need [Ii y0 y1 y4 y5 y7] (.ite (Ij y0 y1 y4 y5 y7) (.ext 0 [(0,0),(1,1),(2,2),(3,3),(4,4)]) (.nrm ((Pc y0),y1,y2,y3,y4,y5,y6,y7) [(0,0),(1,1),(2,2),(3,3),(4,4)])))) (.ext 1 [(0,0),(1,1),(2,2),(3,3),(4,4)]))
def GV(s:St):Option nq:=
 (match s.look 7 with
 |some ⟨none,.one ⟨false,[.val (.int .i64 y0)]⟩⟩=>
 (match s.look 1 with
 |some ⟨none,.one ⟨false,[.ptr 0 0]⟩⟩=>
 (match s.look 6 with
 |some ⟨none,.one ⟨false,[.val (.int .i64 y1)]⟩⟩=>
 (match s.ent 0 with
 |some (.box 63 [.val (.string y2),.ref 1,.ref 2,.ref 3,.val (.string y3),.ref 4])=>
 (match s.ent 1 with
 |some (.row false 9 (.str) y4)=>
 (match s.ent 2 with
 |some (.row false 9 (.str) y5)=>
 (match s.ent 3 with
 |some (.row false 9 (.str) y6)=>
 (match s.ent 4 with
 |some (.row false 204 (.pair .str (.sl (178:Nat) (.pair (.int .i64) (.pair .str (.int .i64))))) y7)=>
 some (y0,y1,y2,y3,y4,y5,y6,y7)
 |_=>none)
 |_=>none)
 |_=>none)
 |_=>none)
 |_=>none)
 |_=>none)
 |_=>none)
 |_=>none)
def dC:Lp nq where
 h:=⟨[71,72,73,74,75,76,77,78,79,82,83,84,85,86,87,88,89,90,8,91,92,93,94,95,96,97,98,99,100,2,80,81,7],[0,1,2,3,4],[],[]⟩
 JL:=VA
 JE:=Vw
 XL:=VI
 XE:=VE
 q:=fun j=>match j with | 0=> .ret | _=> .exit 4
 tags:= [0,1]
 lt:=uV
 fuel:=fun(y0,y1,y2,y3,y4,y5,y6,y7)=>y0.natAbs + y1.natAbs + y2.size + y3.size + y4.length + y5.length + y6.length + y7.length
 fix:=fun(_,y1,y2,y3,y4,y5,y6,y7) (y0,_,_,_,_,_,_,_)=>(y0,y1,y2,y3,y4,y5,y6,y7)
 σ:= [(0,0),(1,1),(2,2),(3,3),(4,4)]
 rd:=GV
theorem Ua:LoopOk prog (memN [64,65,66,67,68,7,71,72,73,74,75,76,77,78,79,82,83,84,85,86,87,88,89,90,8,91,92,93,94,95,96,97,98,99,100,2,80,81,69,70,6]) dC.F (ZI (aL f187 1) 0):=by
 refine Lp.ok (tbl:= [bS,PF.lend bS,PF.fz bS,rm,PF.lend rm,PF.fz rm,nA,PF.lend nA,PF.fz nA,jI,PF.lend jI,PF.fz jI]) (lf:= []) aP dC (by kernel_rfl) (LOk.nil _) (fun _=>rfl) (fun j _=>by unfold dC;match j with | 0=>rfl | _ + 1=>rfl) ?_ ?_ ?_ ?_ (fun _=>rfl) ?_
 ·rintro⟨y0,y1,y2,y3,y4,y5,y6,y7⟩;kernel_rfl
 ·rintro⟨y0,y1,y2,y3,y4,y5,y6,y7⟩;kernel_rfl
 ·intro s x h
  have h:GV s=some x:=h
  unfold GV at h
  repeat' split at h
  all_goals cases h
  exact⟨aa (by assumption) rfl (aa (by assumption) rfl (aa (by assumption) rfl (rfl))),ab rfl (by assumption) rfl (ab rfl (by assumption) rfl (ab rfl (by assumption) rfl (ab rfl (by assumption) rfl (ab rfl (by assumption) rfl (rfl)))))⟩
 ·rintro⟨y0,y1,y2,y3,y4,y5,y6,y7⟩;kernel_rfl
 ·rintro⟨y0,y1,y2,y3,y4,y5,y6,y7⟩ z;exact(And.intro (And.intro trivial rfl) trivial)
abbrev qz:=Int×ByteArray×ByteArray×List ByteArray×List ByteArray×List ByteArray×List (ByteArray×(List (Int×(ByteArray×Int))))
def Ll(y0:Int)(y1 y2:ByteArray)(y3 y4 y5:List ByteArray)(y6:List (ByteArray×(List (Int×(ByteArray×Int))))):Int×Int×ByteArray×ByteArray×List ByteArray×List ByteArray×List ByteArray×List (ByteArray×List (Int×ByteArray×Int)):=((0:Int),y0,y1,y2,y3,y4,y5,y6)
def MT(y0:Int)(y6:List (ByteArray×(List (Int×(ByteArray×Int))))):Bool:=ltI y0 (↑y6.length:Int)
def Sw(y0:Int)(y1 y2:ByteArray)(y3 y4 y5:List ByteArray)(y6:List (ByteArray×(List (Int×(ByteArray×Int))))):Bool:=Lp.fin dC (Ll y0 y1 y2 y3 y4 y5 y6)
def MU(y0:Int)(y1 y2:ByteArray)(y3 y4 y5:List ByteArray)(y6:List (ByteArray×(List (Int×(ByteArray×Int))))):Bool:=Nat.beq ((Lp.res dC (Ll y0 y1 y2 y3 y4 y5 y6)).1) (0:Nat)
def Sx(y0:Int):Int:=IntKind.wrap .i64 (y0 + (1:Int))
def aaO:qz→List (Nat×SV)
 |(y0,_,_,_,_,_,_)=> [(6,(.one ⟨false,[.val (.int .i64 y0)]⟩)),(1,(.one ⟨false,[.ptr 0 0]⟩))]
def aaE:qz→List (Nat×Entry)
 |(_,y1,y2,y3,y4,y5,y6)=> [(0,(.box 63 [.val (.string y1),.ref 1,.ref 2,.ref 3,.val (.string y2),.ref 4])),(1,(.row false 9 ahF y3)),(2,(.row false 9 ahF y4)),(3,(.row false 9 ahF y5)),(4,(.row false 204 (CTy.pair CTy.str (CTy.sl (178:Nat) afk)) y6))]
def aa8:Nat→qz→List (Nat×SV)
 |0,(_,_,_,_,_,_,_)=> [(2,(.one ⟨false,[.val (.int .i64 (6:Int))]⟩))]
 |_,(_,_,_,_,_,_,_)=> []
def aaY:Nat→qz→List (Nat×Entry)
 |0,(_,y1,y2,y3,y4,y5,y6)=> [(0,(.box 63 [.val (.string y1),.ref 1,.ref 2,.ref 3,.val (.string y2),.ref 4])),(1,(.row false 9 ahF y3)),(2,(.row false 9 ahF y4)),(3,(.row false 9 ahF y5)),(4,(.row false 204 (CTy.pair CTy.str (CTy.sl (178:Nat) afk)) y6))]
 |_,(_,y1,y2,y3,y4,y5,y6)=> [(0,(.box 63 [.val (.string y1),.ref 1,.ref 2,.ref 3,.val (.string y2),.ref 4])),(1,(.row false 9 ahF y3)),(2,(.row false 9 ahF y4)),(3,(.row false 9 ahF y5)),(4,(.row false 204 (CTy.pair CTy.str (CTy.sl (178:Nat) afk)) y6))]
def As:qz→LT qz
 |(y0,y1,y2,y3,y4,y5,y6)=> .ite (MT y0 y6) (.need [Sw y0 y1 y2 y3 y4 y5 y6] (.ite (MU y0 y1 y2 y3 y4 y5 y6) (.ext 0 [(0,0),(1,1),(2,2),(3,3),(4,4)]) (.nrm ((Sx y0),y1,y2,y3,y4,y5,y6) [(0,0),(1,1),(2,2),(3,3),(4,4)]))) (.ext 1 [(0,0),(1,1),(2,2),(3,3),(4,4)])
def Lg(s:St):Option qz:=
 (match s.look 6 with
 |some ⟨none,.one ⟨false,[.val (.int .i64 y0)]⟩⟩=>
 (match s.look 1 with
 |some ⟨none,.one ⟨false,[.ptr 320 0]⟩⟩=>
 (match s.ent 320 with
 |some (.box 63 [.val (.string y1),.ref 0,.ref 1,.ref 2,.val (.string y2),.ref 3])=>
 (match s.ent 0 with
 |some (.row false 9 (.str) y3)=>
 (match s.ent 1 with
 |some (.row false 9 (.str) y4)=>
 (match s.ent 2 with
 |some (.row false 9 (.str) y5)=>
 (match s.ent 3 with
 |some (.row false 204 (.pair .str (.sl (178:Nat) (.pair (.int .i64) (.pair .str (.int .i64))))) y6)=>
 some (y0,y1,y2,y3,y4,y5,y6)
 |_=>none)
 |_=>none)
 |_=>none)
 |_=>none)
 |_=>none)
 |_=>none)
 |_=>none)
def dR:Lp qz where
 h:=⟨[64,65,66,67,68,7,71,72,73,74,75,76,77,78,79,82,83,84,85,86,87,88,89,90,8,91,92,93,94,95,96,97,98,99,100,2,80,81,69,70,6],[0,1,2,3,4],[],[]⟩
 JL:=aaO
 JE:=aaE
 XL:=aa8
 XE:=aaY
 q:=fun j=>match j with | 0=> .ret | _=> .exit 2
 tags:= [0,1]
 lt:=As
 fuel:=fun(y0,y1,y2,y3,y4,y5,y6)=>y0.natAbs + y1.size + y2.size + y3.length + y4.length + y5.length + y6.length
 fix:=fun(_,y1,y2,y3,y4,y5,y6) (y0,_,_,_,_,_,_)=>(y0,y1,y2,y3,y4,y5,y6)
 σ:= [(0,320),(1,0),(2,1),(3,2),(4,3)]
 rd:=Lg
theorem XW:LoopOk prog (fun k=>Nat.blt k Tryz.f187.ntmps) dR.F (aL f187 1):=by
 refine Lp.ok (tbl:= [bS,PF.lend bS,PF.fz bS,rm,PF.lend rm,PF.fz rm,nA,PF.lend nA,PF.fz nA,jI,PF.lend jI,PF.fz jI]) (lf:= [dC.F]) aP dR (by kernel_rfl) (LOk.allT (l:= [ZI (aL f187 1) 0]) (by kernel_rfl) (.cons Ua (.nil _))) (fun _=>rfl) (fun j _=>by unfold dR;match j with | 0=>rfl | _ + 1=>rfl) ?_ ?_ ?_ ?_ (fun _=>rfl) ?_
 ·rintro⟨y0,y1,y2,y3,y4,y5,y6⟩;kernel_rfl
 ·rintro⟨y0,y1,y2,y3,y4,y5,y6⟩;kernel_rfl
 ·intro s x h
  have h:Lg s=some x:=h
  unfold Lg at h
  repeat' split at h
  all_goals cases h
  exact⟨aa (by assumption) rfl (aa (by assumption) rfl (rfl)),ab rfl (by assumption) rfl (ab rfl (by assumption) rfl (ab rfl (by assumption) rfl (ab rfl (by assumption) rfl (ab rfl (by assumption) rfl (rfl)))))⟩
 ·rintro⟨y0,y1,y2,y3,y4,y5,y6⟩;kernel_rfl
 ·rintro⟨y0,y1,y2,y3,y4,y5,y6⟩ z;exact(And.intro (And.intro trivial rfl) trivial)
def ur(x2 x3 x4:List ByteArray):List ByteArray:=x2++x3++x4
def wW(x1:ByteArray):Bool:=
 !ByteArray.toList x1==ByteArray.toList { data:= #[] }
section
variable (x0 x1:ByteArray)(x2 x3 x4:List ByteArray)(x5:List (ByteArray×List (Int×ByteArray×Int)))
def KE:List ByteArray×List ByteArray×List ByteArray×List (ByteArray×List (Int×ByteArray×Int)):=(x2,x3,x4,x5)
def AQ:Int×ByteArray×ByteArray×List ByteArray×List ByteArray×List ByteArray×List ByteArray×List (ByteArray×List (Int×ByteArray×Int)):=((0:Int),x0,x1,[],KE x2 x3 x4 x5)
def FL:Bool:=Nat.beq ((Lp.res dl (AQ x0 x1 x2 x3 x4 x5)).1) (0:Nat)
def AR:List ByteArray:=((Lp.res dl (AQ x0 x1 x2 x3 x4 x5)).2.2.2.2).1
def KF:Bool:=ltI (↑(List.length (AR x0 x1 x2 x3 x4 x5)):Int) (IntKind.wrap .i64 ((↑x3.length:Int) + (↑x4.length:Int)))
def KG:Int×ByteArray×ByteArray×List ByteArray×List ByteArray×List ByteArray×List (ByteArray×List (Int×ByteArray×Int)):=((0:Int),x0,x1,KE x2 x3 x4 x5)
def Mc:Int:=bif rl (ur x2 x3 x4)then(1:Int)else bif bif wW x1 then !rb x1 x2 x3 else false then(2:Int)else bif FL x0 x1 x2 x3 x4 x5 then(3:Int)else bif rl (AR x0 x1 x2 x3 x4 x5)then(4:Int)else bif KF x0 x1 x2 x3 x4 x5 then(5:Int)else bif Nat.beq ((Lp.res dR (KG x0 x1 x2 x3 x4 x5)).1) (0:Nat)then(6:Int)else(0:Int)
def Md:Bool:=allT [leN (List.length x2 + List.length x3 + List.length x4) (2000000:Nat),leN (List.length (ur x2 x3 x4)) (9223372036854775807:Nat),rl (ur x2 x3 x4)||(!(wW x1&&true)||Cw x1 x2 x3),rl (ur x2 x3 x4)||((bif wW x1 then !rb x1 x2 x3 else false)||Lp.fin dl (AQ x0 x1 x2 x3 x4 x5)),rl (ur x2 x3 x4)||((bif wW x1 then !rb x1 x2 x3 else false)||(FL x0 x1 x2 x3 x4 x5||leN (List.length (AR x0 x1 x2 x3 x4 x5)) (9223372036854775807:Nat))),rl (ur x2 x3 x4)||((bif wW x1 then !rb x1 x2 x3 else false)||(FL x0 x1 x2 x3 x4 x5||(rl (AR x0 x1 x2 x3 x4 x5)||(KF x0 x1 x2 x3 x4 x5||Lp.fin dR (KG x0 x1 x2 x3 x4 x5)))))]
end
def WK:List SV→List Entry→Option Out
 | [.one ⟨true,[.val (.string x0),.ref 0,.ref 1,.ref 2,.val (.string x1),.ref 3]⟩],[.row false 9 (.str) x2,.row false 9 (.str) x3,.row false 9 (.str) x4,.row false 204 (.pair (.str) (.sl 178 (.pair (.int .i64) (.pair (.str) (.int .i64))))) x5]=>some ⟨.one ⟨false,[.val (.int .i64 (Mc x0 x1 x2 x3 x4 x5))]⟩,[.row false 9 ahF x2,.row false 9 ahF x3,.row false 9 ahF x4,.row false 204 (CTy.pair CTy.str (CTy.sl (178:TypeId) afk)) x5],[],[Md x0 x1 x2 x3 x4 x5]⟩
 |_,_=>none
def QP:PF prog:=PF.ofG prog [bS,PF.lend bS,PF.fz bS,rm,PF.lend rm,PF.fz rm,nA,PF.lend nA,PF.fz nA,jI,PF.lend jI,PF.fz jI] [dl.F,dR.F] aP 187 f187 func187 (LOk.fnT (l:= [aL f187 0,aL f187 1]) (by kernel_rfl) (.cons XV (.cons XW (.nil _)))) WK (by
 intro vs es r h;unfold WK at h;split at h
 ·cases h;kernel_rfl
 ·cases h)
def Sq(x0 x1:ByteArray)(x2 x3 x4:List ByteArray)(x5:List (ByteArray×List (Int×ByteArray×Int))):Bool:=bif FI x0 x1 x2 x3 x4 x5 then Mc x0 x1 x2 x3 x4 x5==(0:Int)else false
def Sr(x0 x1:ByteArray)(x2 x3 x4:List ByteArray)(x5:List (ByteArray×List (Int×ByteArray×Int))):Bool:=allT [KD x0 x1 x2 x3 x4 x5,!(FI x0 x1 x2 x3 x4 x5&&true)||Md x0 x1 x2 x3 x4 x5]
def Yk:List SV→List Entry→Option Out
 | [.one ⟨true,[.val (.string x0),.ref 0,.ref 1,.ref 2,.val (.string x1),.ref 3]⟩],[.row false 9 (.str) x2,.row false 9 (.str) x3,.row false 9 (.str) x4,.row false 204 (.pair (.str) (.sl 178 (.pair (.int .i64) (.pair (.str) (.int .i64))))) x5]=>some ⟨.one ⟨false,[.val (.bool (Sq x0 x1 x2 x3 x4 x5))]⟩,[.row false 9 ahF x2,.row false 9 ahF x3,.row false 9 ahF x4,.row false 204 (CTy.pair CTy.str (CTy.sl (178:TypeId) afk)) x5],[],[Sr x0 x1 x2 x3 x4 x5]⟩
 |_,_=>none
def ah5:PF prog:=PF.ofG prog [PO,PF.lend PO,PF.fz PO,QP,PF.lend QP,PF.fz QP] [] aP 118 f118 func118 (fun c _=>LOk.nil c) Yk (by
 intro vs es r h;unfold Yk at h;split at h
 ·cases h;kernel_rfl
 ·cases h)
def Fz(x1:List (Int×ByteArray×Int)):Bool:=ltI (40:Int) (↑x1.length:Int)
def tG:List SV→List Entry→Option Out
 | [.one ⟨true,[.val (.string _x0),.ref 0]⟩],[.row false 178 (.pair (.int .i64) (.pair (.str) (.int .i64))) x1]=>some ⟨.one ⟨false,[.val (.bool (Fz x1))]⟩,[.row false 178 afk x1],[],[]⟩
 |_,_=>none
def nN:PF prog:=PF.ofG prog [] [] aP 261 f261 func261 (fun c _=>LOk.nil c) tG (by
 intro vs es r h;unfold tG at h;split at h
 ·cases h;kernel_rfl
 ·cases h)
def ct(x1:List (Int×ByteArray×Int)):Bool:=ltI (40:Int) (↑x1.length:Int)
def qx:List SV→List Entry→Option Out
 | [.one ⟨true,[.val (.string _x0),.ref 0]⟩],[.row false 178 (.pair (.int .i64) (.pair .str (.int .i64))) x1]=>some ⟨.one ⟨false,[.val (.bool (ct x1))]⟩,[.row false 178 afk x1],[],[]⟩
 |_,_=>none
def cv:PF prog:=PF.ofG prog [] [] aP 261 f261 func261 (fun c _=>LOk.nil c) qx (by
 intro vs es r h;unfold qx at h;split at h
 ·cases h;kernel_rfl
 ·cases h)
abbrev bA:=Int×Int×List (ByteArray×(List (Int×(ByteArray×Int))))
def jq(y0 y1:Int):Bool:=ltI y0 y1
def mN(y0:Int):Bool:=leI (0:Int) y0
def mO(y0:Int)(y2:List (ByteArray×(List (Int×(ByteArray×Int))))):Bool:=ltI y0 (↑y2.length:Int)
def mP(y0:Int)(y2:List (ByteArray×(List (Int×(ByteArray×Int))))):Bool:=ltN y0.toNat y2.length
def fQ(y0:Int)(y2:List (ByteArray×(List (Int×(ByteArray×Int))))):Bool:=ct ((Option.getD y2[Int.toNat y0]? (qA (CTy.pair CTy.str (CTy.sl (178:Nat) afk)))).2)
def rJ(y0:Int):Int:=IntKind.wrap .i64 (y0 + (1:Int))
def Jb:bA→List (Nat×SV)
 |(y0,y1,_)=> [(8,(.one ⟨false,[.val (.int .i64 y0)]⟩)),(7,(.one ⟨false,[.val (.int .i64 y1)]⟩)),(1,(.one ⟨false,[.val (.func (.func 261) ⟨[]⟩ ⟨[]⟩)]⟩)),(0,(.one ⟨false,[.ref 0]⟩))]
def IW:bA→List (Nat×Entry)
 |(_,_,y2)=> [(0,(.row false 204 (CTy.pair CTy.str (CTy.sl (178:Nat) afk)) y2))]
def Jm:Nat→bA→List (Nat×SV)
 |0,(y0,_,_)=> [(4,(.one ⟨false,[.val (.int .i64 y0)]⟩))]
 |_,(_,_,_)=> []
def Jh:Nat→bA→List (Nat×Entry)
 |0,(_,_,y2)=> [(0,(.row false 204 (CTy.pair CTy.str (CTy.sl (178:Nat) afk)) y2))]
 |_,(_,_,y2)=> [(0,(.row false 204 (CTy.pair CTy.str (CTy.sl (178:Nat) afk)) y2))]
def iT:bA→LT bA
 |(y0,y1,y2)=> .ite (jq y0 y1) (.need [mN y0,mO y0 y2,mP y0 y2] (.ite (fQ y0 y2) (.ext 0 [(0,0)]) (.nrm ((rJ y0),y1,y2) [(0,0)]))) (.ext 1 [(0,0)])
def qO(s:St):Option bA:=
 (match s.look 8 with
 |some ⟨none,.one ⟨false,[.val (.int .i64 y0)]⟩⟩=>
 (match s.look 7 with
 |some ⟨none,.one ⟨false,[.val (.int .i64 y1)]⟩⟩=>
 (match s.look 1 with
 |some ⟨none,.one ⟨false,[.val (.func (.func 261) ⟨[]⟩ ⟨[]⟩)]⟩⟩=>
 (match s.look 0 with
 |some ⟨none,.one ⟨false,[.ref 0]⟩⟩=>
 (match s.ent 0 with
 |some (.row false 204 (.pair .str (.sl (178:Nat) (.pair (.int .i64) (.pair .str (.int .i64))))) y2)=>
 some (y0,y1,y2)
 |_=>none)
 |_=>none)
 |_=>none)
 |_=>none)
 |_=>none)
def ay:Lp bA where
 h:=⟨[9,10,5,11,12,13,14,15,16,17,4,18,8],[0],[],[]⟩
 JL:=Jb
 JE:=IW
 XL:=Jm
 XE:=Jh
 q:=fun j=>match j with | 0=> .ret | _=> .exit 0
 tags:= [0,1]
 lt:=iT
 fuel:=fun(y0,y1,y2)=>y0.natAbs + y1.natAbs + y2.length
 fix:=fun(_,y1,y2) (y0,_,_)=>(y0,y1,y2)
 σ:= [(0,0)]
 rd:=qO
theorem HQ:LoopOk prog (fun k=>Nat.blt k Tryz.f262.ntmps) ay.F (aL f262 0):=by
 refine Lp.ok (tbl:= [cv,PF.lend cv,PF.fz cv]) (lf:= []) aP ay (by kernel_rfl) (LOk.nil _) (fun _=>rfl) (fun j _=>by unfold ay;match j with | 0=>rfl | _ + 1=>rfl) ?_ ?_ ?_ ?_ (fun _=>rfl) ?_
 ·rintro⟨y0,y1,y2⟩;kernel_rfl
 ·rintro⟨y0,y1,y2⟩;kernel_rfl
 ·intro s x h
  have h:qO s=some x:=h
  unfold qO at h
  repeat' split at h
  all_goals cases h
  exact⟨aa (by assumption) rfl (aa (by assumption) rfl (aa (by assumption) rfl (aa (by assumption) rfl (rfl)))),ab rfl (by assumption) rfl (rfl)⟩
 ·rintro⟨y0,y1,y2⟩;kernel_rfl
 ·rintro⟨y0,y1,y2⟩ z;exact(And.intro (And.intro trivial rfl) trivial)
section
variable (x0:List (ByteArray×List (Int×ByteArray×Int)))
def nZ:Int×Int×List (ByteArray×List (Int×ByteArray×Int)):=((0:Int),(↑x0.length:Int),x0)
def tu:Int:=bif Nat.beq ((Lp.res ay (nZ x0)).1) (0:Nat)then ((Lp.res ay (nZ x0)).2).1else(-1:Int)
def tv:Bool:=allT [Lp.fin ay (nZ x0)]
end
def AW:List SV→List Entry→Option Out
 | [.one ⟨false,[.ref 0]⟩,.one ⟨false,[.val (.func (.func 261) ⟨[]⟩ ⟨[]⟩)]⟩],[.row false 204 (.pair .str (.sl (178:Nat) (.pair (.int .i64) (.pair .str (.int .i64))))) x0]=>some ⟨.one ⟨false,[.val (.int .i64 (tu x0))]⟩,[.row false 204 (CTy.pair CTy.str (CTy.sl (178:Nat) afk)) x0],[],[tv x0]⟩
 |_,_=>none
def tj:PF prog:=PF.ofG prog [cv,PF.lend cv,PF.fz cv] [ay.F] aP 262 f262 func262 (LOk.fnT (l:= [aL f262 0]) (by kernel_rfl) (.cons HQ (.nil _))) AW (by
 intro vs es r h;unfold AW at h;split at h
 ·cases h;kernel_rfl
 ·cases h)
def rF(x0:List (ByteArray×List (Int×ByteArray×Int))):Bool:=leI (0:Int) (tu x0)
def rG(x0:List (ByteArray×List (Int×ByteArray×Int))):Bool:=allT [tv x0]
def yJ:List SV→List Entry→Option Out
 | [.one ⟨false,[.ref 0]⟩,.one ⟨false,[.val (.func (.func 261) ⟨[]⟩ ⟨[]⟩)]⟩],[.row false 204 (.pair .str (.sl (178:Nat) (.pair (.int .i64) (.pair .str (.int .i64))))) x0]=>some ⟨.one ⟨false,[.val (.bool (rF x0))]⟩,[.row false 204 (CTy.pair CTy.str (CTy.sl (178:Nat) afk)) x0],[],[rG x0]⟩
 |_,_=>none
def rv:PF prog:=PF.ofG prog [tj,PF.lend tj,PF.fz tj] [] aP 229 f229 func229 (fun c _=>LOk.nil c) yJ (by
 intro vs es r h;unfold yJ at h;split at h
 ·cases h;kernel_rfl
 ·cases h)
section
variable (x2 x3 x4:List ByteArray)(x5:List (ByteArray×List (Int×ByteArray×Int)))
def oe:Bool:=bif bif bif leI (↑x2.length:Int) (20:Int)then leI (↑x3.length:Int) (20:Int)else false then leI (↑x4.length:Int) (20:Int)else false then leI (↑x5.length:Int) (40:Int)else false
def jW:Bool:=bif oe x2 x3 x4 x5 then !rF x5 else false
def jX:Bool:=allT [!(oe x2 x3 x4 x5&&true)||rG x5]
end
def uG:List SV→List Entry→Option Out
 | [.one ⟨true,[.val (.string _x0),.ref 0,.ref 1,.ref 2,.val (.string _x1),.ref 3]⟩],[.row false 9 (.str) x2,.row false 9 (.str) x3,.row false 9 (.str) x4,.row false 204 (.pair (.str) (.sl 178 (.pair (.int .i64) (.pair (.str) (.int .i64))))) x5]=>some ⟨.one ⟨false,[.val (.bool (jW x2 x3 x4 x5))]⟩,[.row false 9 ahF x2,.row false 9 ahF x3,.row false 9 ahF x4,.row false 204 (CTy.pair CTy.str (CTy.sl (178:TypeId) afk)) x5],[],[jX x2 x3 x4 x5]⟩
 |_,_=>none
def oJ:PF prog:=PF.ofG prog [nN,PF.lend nN,PF.fz nN,rv,PF.lend rv,PF.fz rv] [] aP 228 f228 func228 (fun c _=>LOk.nil c) uG (by
 intro vs es r h;unfold uG at h;split at h
 ·cases h;kernel_rfl
 ·cases h)
def acX(x0:ByteArray)(x1:List (Int×ByteArray×Int)):Bool:= !lineB (x0,x1)
def acY(x1:List (Int×ByteArray×Int)):Bool:=allT [Rn x1]
def RB:List SV→List Entry→Option Out
 | [.one ⟨true,[.val (.string x0),.ref 0]⟩],[.row false 178 (.pair (.int .i64) (.pair (.str) (.int .i64))) x1]=>some ⟨.one ⟨false,[.val (.bool (acX x0 x1))]⟩,[.row false 178 afk x1],[],[acY x1]⟩
 |_,_=>none
def Mv:PF prog:=PF.ofG prog [HE,PF.lend HE,PF.fz HE] [] aP 230 f230 func230 (fun c _=>LOk.nil c) RB (by
 intro vs es r h;unfold RB at h;split at h
 ·cases h;kernel_rfl
 ·cases h)
def xu(x0:ByteArray)(x1:List (Int×ByteArray×Int)):Bool:= !lineB (x0,x1)
def Em(x1:List (Int×ByteArray×Int)):Bool:=allT [Rn x1]
def Lq:List SV→List Entry→Option Out
 | [.one ⟨true,[.val (.string x0),.ref 0]⟩],[.row false 178 (.pair (.int .i64) (.pair .str (.int .i64))) x1]=>some ⟨.one ⟨false,[.val (.bool (xu x0 x1))]⟩,[.row false 178 afk x1],[],[Em x1]⟩
 |_,_=>none
def px:PF prog:=PF.ofG prog [HE,PF.lend HE,PF.fz HE] [] aP 230 f230 func230 (fun c _=>LOk.nil c) Lq (by
 intro vs es r h;unfold Lq at h;split at h
 ·cases h;kernel_rfl
 ·cases h)
abbrev bB:=Int×Int×List (ByteArray×(List (Int×(ByteArray×Int))))
def bX(y0:Int)(y2:List (ByteArray×(List (Int×(ByteArray×Int))))):ByteArray×List (Int×ByteArray×Int):=Option.getD y2[Int.toNat y0]? (qA (CTy.pair CTy.str (CTy.sl (178:Nat) afk)))
def jr(y0 y1:Int):Bool:=ltI y0 y1
def mQ(y0:Int):Bool:=leI (0:Int) y0
def mR(y0:Int)(y2:List (ByteArray×(List (Int×(ByteArray×Int))))):Bool:=ltI y0 (↑y2.length:Int)
def mT(y0:Int)(y2:List (ByteArray×(List (Int×(ByteArray×Int))))):Bool:=ltN y0.toNat y2.length
def jt(y0:Int)(y2:List (ByteArray×(List (Int×(ByteArray×Int))))):Bool:=Em ((bX y0 y2).2)
def ju(y0:Int)(y2:List (ByteArray×(List (Int×(ByteArray×Int))))):Bool:=xu ((bX y0 y2).1) ((bX y0 y2).2)
def rK(y0:Int):Int:=IntKind.wrap .i64 (y0 + (1:Int))
def Jc:bB→List (Nat×SV)
 |(y0,y1,_)=> [(8,(.one ⟨false,[.val (.int .i64 y0)]⟩)),(7,(.one ⟨false,[.val (.int .i64 y1)]⟩)),(1,(.one ⟨false,[.val (.func (.func 230) ⟨[]⟩ ⟨[]⟩)]⟩)),(0,(.one ⟨false,[.ref 0]⟩))]
def IX:bB→List (Nat×Entry)
 |(_,_,y2)=> [(0,(.row false 204 (CTy.pair CTy.str (CTy.sl (178:Nat) afk)) y2))]
def Jn:Nat→bB→List (Nat×SV)
 |0,(y0,_,_)=> [(4,(.one ⟨false,[.val (.int .i64 y0)]⟩))]
 |_,(_,_,_)=> []
def Ji:Nat→bB→List (Nat×Entry)
 |0,(_,_,y2)=> [(0,(.row false 204 (CTy.pair CTy.str (CTy.sl (178:Nat) afk)) y2))]
 |_,(_,_,y2)=> [(0,(.row false 204 (CTy.pair CTy.str (CTy.sl (178:Nat) afk)) y2))]
def iU:bB→LT bB
 |(y0,y1,y2)=> .ite (jr y0 y1) (.need [mQ y0,mR y0 y2,mT y0 y2,jt y0 y2] (.ite (ju y0 y2) (.ext 0 [(0,0)]) (.nrm ((rK y0),y1,y2) [(0,0)]))) (.ext 1 [(0,0)])
def qP(s:St):Option bB:=
 (match s.look 8 with
 |some ⟨none,.one ⟨false,[.val (.int .i64 y0)]⟩⟩=>
 (match s.look 7 with
 |some ⟨none,.one ⟨false,[.val (.int .i64 y1)]⟩⟩=>
 (match s.look 1 with
 |some ⟨none,.one ⟨false,[.val (.func (.func 230) ⟨[]⟩ ⟨[]⟩)]⟩⟩=>
 (match s.look 0 with
 |some ⟨none,.one ⟨false,[.ref 0]⟩⟩=>
 (match s.ent 0 with
 |some (.row false 204 (.pair .str (.sl (178:Nat) (.pair (.int .i64) (.pair .str (.int .i64))))) y2)=>
 some (y0,y1,y2)
 |_=>none)
 |_=>none)
 |_=>none)
 |_=>none)
 |_=>none)
def az:Lp bB where
 h:=⟨[9,10,5,11,12,13,14,15,16,17,4,18,8],[0],[],[]⟩
 JL:=Jc
 JE:=IX
 XL:=Jn
 XE:=Ji
 q:=fun j=>match j with | 0=> .ret | _=> .exit 0
 tags:= [0,1]
 lt:=iU
 fuel:=fun(y0,y1,y2)=>y0.natAbs + y1.natAbs + y2.length
 fix:=fun(_,y1,y2) (y0,_,_)=>(y0,y1,y2)
 σ:= [(0,0)]
 rd:=qP
theorem HR:LoopOk prog (fun k=>Nat.blt k Tryz.f262.ntmps) az.F (aL f262 0):=by
 refine Lp.ok (tbl:= [px,PF.lend px,PF.fz px]) (lf:= []) aP az (by kernel_rfl) (LOk.nil _) (fun _=>rfl) (fun j _=>by unfold az;match j with | 0=>rfl | _ + 1=>rfl) ?_ ?_ ?_ ?_ (fun _=>rfl) ?_
 ·rintro⟨y0,y1,y2⟩;kernel_rfl
 ·rintro⟨y0,y1,y2⟩;kernel_rfl
 ·intro s x h
  have h:qP s=some x:=h
  unfold qP at h
  repeat' split at h
  all_goals cases h
  exact⟨aa (by assumption) rfl (aa (by assumption) rfl (aa (by assumption) rfl (aa (by assumption) rfl (rfl)))),ab rfl (by assumption) rfl (rfl)⟩
 ·rintro⟨y0,y1,y2⟩;kernel_rfl
 ·rintro⟨y0,y1,y2⟩ z;exact(And.intro (And.intro trivial rfl) trivial)
section
variable (x0:List (ByteArray×List (Int×ByteArray×Int)))
def oa:Int×Int×List (ByteArray×List (Int×ByteArray×Int)):=((0:Int),(↑x0.length:Int),x0)
def tw:Int:=bif Nat.beq ((Lp.res az (oa x0)).1) (0:Nat)then ((Lp.res az (oa x0)).2).1else(-1:Int)
def tx:Bool:=allT [Lp.fin az (oa x0)]
end
def AX:List SV→List Entry→Option Out
 | [.one ⟨false,[.ref 0]⟩,.one ⟨false,[.val (.func (.func 230) ⟨[]⟩ ⟨[]⟩)]⟩],[.row false 204 (.pair .str (.sl (178:Nat) (.pair (.int .i64) (.pair .str (.int .i64))))) x0]=>some ⟨.one ⟨false,[.val (.int .i64 (tw x0))]⟩,[.row false 204 (CTy.pair CTy.str (CTy.sl (178:Nat) afk)) x0],[],[tx x0]⟩
 |_,_=>none
def tn:PF prog:=PF.ofG prog [px,PF.lend px,PF.fz px] [az.F] aP 262 f262 func262 (LOk.fnT (l:= [aL f262 0]) (by kernel_rfl) (.cons HR (.nil _))) AX (by
 intro vs es r h;unfold AX at h;split at h
 ·cases h;kernel_rfl
 ·cases h)
def mJ(x0:List (ByteArray×List (Int×ByteArray×Int))):Bool:=leI (0:Int) (tw x0)
def mK(x0:List (ByteArray×List (Int×ByteArray×Int))):Bool:=allT [tx x0]
def yK:List SV→List Entry→Option Out
 | [.one ⟨false,[.ref 0]⟩,.one ⟨false,[.val (.func (.func 230) ⟨[]⟩ ⟨[]⟩)]⟩],[.row false 204 (.pair .str (.sl (178:Nat) (.pair (.int .i64) (.pair .str (.int .i64))))) x0]=>some ⟨.one ⟨false,[.val (.bool (mJ x0))]⟩,[.row false 204 (CTy.pair CTy.str (CTy.sl (178:Nat) afk)) x0],[],[mK x0]⟩
 |_,_=>none
def rx:PF prog:=PF.ofG prog [tn,PF.lend tn,PF.fz tn] [] aP 229 f229 func229 (fun c _=>LOk.nil c) yK (by
 intro vs es r h;unfold yK at h;split at h
 ·cases h;kernel_rfl
 ·cases h)
def De(x0:ByteArray)(x2 x3 x4:List ByteArray):List (List ByteArray):=bif lC x0&&true then [x2,x3,x4]else []
def Il(x0:ByteArray)(x2 x3 x4:List ByteArray):List ByteArray:=bif lC x0&&true then List.flatten (De x0 x2 x3 x4)else []
def NS(x0 x1:ByteArray)(x2 x3 x4:List ByteArray)(x5:List (ByteArray×List (Int×ByteArray×Int))):Bool:=
 bif
  bif
    bif
      bif bif lC x0 then List.all (Il x0 x2 x3 x4) mt else false then
       bif ByteArray.toList x1==ByteArray.toList { data:= #[] } then true else lC x1
      else false then
     ltI (0:Int) (↑x2.length:Int)
    else false then
   ltI (0:Int) (↑x4.length:Int)
  else false then
 ltI (0:Int) (↑x5.length:Int)
 else false
section
variable (x0 x1:ByteArray)(x2 x3 x4:List ByteArray)(x5:List (ByteArray×List (Int×ByteArray×Int)))
def NT:Bool:=bif NS x0 x1 x2 x3 x4 x5 then jW x2 x3 x4 x5 else false
def Fm:Bool:=bif NT x0 x1 x2 x3 x4 x5 then !mJ x5 else false
def Ka:Bool:=allT [!(lC x0&&true)||leN (List.length (De x0 x2 x3 x4)) (1000:Nat)&&leN (Hx (De x0 x2 x3 x4)) (2000000:Nat),!(lC x0&&true)||leN (List.length (Il x0 x2 x3 x4)) (9223372036854775807:Nat),!(NS x0 x1 x2 x3 x4 x5&&true)||jX x2 x3 x4 x5,!(NT x0 x1 x2 x3 x4 x5&&true)||mK x5]
end
def Uk:List SV→List Entry→Option Out
 | [.one ⟨true,[.val (.string x0),.ref 0,.ref 1,.ref 2,.val (.string x1),.ref 3]⟩],[.row false 9 (.str) x2,.row false 9 (.str) x3,.row false 9 (.str) x4,.row false 204 (.pair (.str) (.sl 178 (.pair (.int .i64) (.pair (.str) (.int .i64))))) x5]=>some ⟨.one ⟨false,[.val (.bool (Fm x0 x1 x2 x3 x4 x5))]⟩,[.row false 9 ahF x2,.row false 9 ahF x3,.row false 9 ahF x4,.row false 204 (CTy.pair CTy.str (CTy.sl (178:TypeId) afk)) x5],[],[Ka x0 x1 x2 x3 x4 x5]⟩
 |_,_=>none
def PI:PF prog:=PF.ofG prog [LB,QL,PF.lend QL,PF.fz QL,cg,PF.lend cg,PF.fz cg,oJ,PF.lend oJ,PF.fz oJ,Mv,PF.lend Mv,PF.fz Mv,rx,PF.lend rx,PF.fz rx] [] aP 183 f183 func183 (fun c _=>LOk.nil c) Uk (by
 intro vs es r h;unfold Uk at h;split at h
 ·cases h;kernel_rfl
 ·cases h)
section
variable (x2 x3 x4:List ByteArray)
def gE:List (List ByteArray):= [x2,x3,x4]
def aV:List ByteArray:=List.flatten (gE x2 x3 x4)
def kZ:Bool:=allT [leN (List.length (gE x2 x3 x4)) (1000:Nat)&&leN (Hx (gE x2 x3 x4)) (2000000:Nat)]
end
def wa:List SV→List Entry→Option Out
 | [.one ⟨true,[.val (.string _x0),.ref 0,.ref 1,.ref 2,.val (.string _x1),.ref 3]⟩],[.row false 9 (.str) x2,.row false 9 (.str) x3,.row false 9 (.str) x4,.row false 204 (.pair (.str) (.sl 178 (.pair (.int .i64) (.pair (.str) (.int .i64))))) x5]=>some ⟨.one ⟨false,[.ref 4]⟩,[.row false 9 ahF x2,.row false 9 ahF x3,.row false 9 ahF x4,.row false 204 (CTy.pair CTy.str (CTy.sl (178:TypeId) afk)) x5],[.row true 9 ahF (aV x2 x3 x4)],[kZ x2 x3 x4]⟩
 |_,_=>none
def eA:PF prog:=PF.ofG prog [cg,PF.lend cg,PF.fz cg] [] aP 233 f233 func233 (fun c _=>LOk.nil c) wa (by
 intro vs es r h;unfold wa at h;split at h
 ·cases h;kernel_rfl
 ·cases h)
section
variable (x0:Int)(x1:ByteArray)(x5 x6:List ByteArray)
def oQ:Bool:=bif x0==(1:Int)then !ma x5 x1 else false
def oV:Bool:=bif oQ x0 x1 x5 then !ma x6 x1 else false
def oW:Bool:=allT [!(x0==(1:Int)&&true)||leN x5.length (9223372036854775807:Nat),!(oQ x0 x1 x5&&true)||leN x6.length (9223372036854775807:Nat)]
end
def oR:List SV→List Entry→Option Out
 | [.one ⟨true,[.val (.int .i64 x0),.val (.string x1),.val (.int .i64 _x2)]⟩,.one ⟨false,[.ptr 0 0]⟩],[.box 63 [.val (.string x3),.ref 1,.ref 2,.ref 3,.val (.string x4),.ref 4],.row false 9 (.str) x5,.row false 9 (.str) x6,.row false 9 (.str) x7,.row false 204 (.pair .str (.sl (178:Nat) (.pair (.int .i64) (.pair .str (.int .i64))))) x8]=>some ⟨.one ⟨false,[.val (.bool (oV x0 x1 x5 x6))]⟩,[.box 63 [.val (.string x3),.ref 1,.ref 2,.ref 3,.val (.string x4),.ref 4],.row false 9 ahF x5,.row false 9 ahF x6,.row false 9 ahF x7,.row false 204 (CTy.pair CTy.str (CTy.sl (178:Nat) afk)) x8],[],[oW x0 x1 x5 x6]⟩
 |_,_=>none
def bT:PF prog:=PF.ofG prog [aD,PF.lend aD,PF.fz aD] [] aP 265 f265 func265 (fun c _=>LOk.nil c) oR (by
 intro vs es r h;unfold oR at h;split at h
 ·cases h;kernel_rfl
 ·cases h)
abbrev cQ:=Int×Int×ByteArray×ByteArray×List (Int×(ByteArray×Int))×List ByteArray×List ByteArray×List ByteArray×List (ByteArray×(List (Int×(ByteArray×Int))))
section
variable (y0 y1:Int)(y4:List (Int×(ByteArray×Int)))(y5 y6:List ByteArray)
def mi:Int×ByteArray×Int:=Option.getD y4[Int.toNat y0]? ((0:Int),ByteArray.empty,(0:Int))
def Kw:Bool:=ltI y0 y1
def Kx:Bool:=leI (0:Int) y0
def Ky:Bool:=ltI y0 (↑y4.length:Int)
def Kz:Bool:=ltN y0.toNat y4.length
def KA:Bool:=oW ((mi y0 y4).1) (((mi y0 y4).2).1) y5 y6
def KB:Bool:=oV ((mi y0 y4).1) (((mi y0 y4).2).1) y5 y6
def KC:Int:=IntKind.wrap .i64 (y0 + (1:Int))
end
def Je:cQ→List (Nat×SV)
 |(y0,y1,_,_,_,_,_,_,_)=> [(8,(.one ⟨false,[.val (.int .i64 y0)]⟩)),(7,(.one ⟨false,[.val (.int .i64 y1)]⟩)),(1,(.one ⟨false,[.clo 265 [0]]⟩)),(0,(.one ⟨false,[.ref 1]⟩))]
def IZ:cQ→List (Nat×Entry)
 |(_,_,y2,y3,y4,y5,y6,y7,y8)=> [(0,(.box 63 [.val (.string y2),.ref 2,.ref 3,.ref 4,.val (.string y3),.ref 5])),(1,(.row false 178 afk y4)),(2,(.row false 9 ahF y5)),(3,(.row false 9 ahF y6)),(4,(.row false 9 ahF y7)),(5,(.row false 204 (CTy.pair CTy.str (CTy.sl (178:Nat) afk)) y8))]
def Jp:Nat→cQ→List (Nat×SV)
 |0,(y0,_,_,_,_,_,_,_,_)=> [(4,(.one ⟨false,[.val (.int .i64 y0)]⟩))]
 |_,(_,_,_,_,_,_,_,_,_)=> []
def Jk:Nat→cQ→List (Nat×Entry)
 |0,(_,_,y2,y3,y4,y5,y6,y7,y8)=> [(0,(.box 63 [.val (.string y2),.ref 2,.ref 3,.ref 4,.val (.string y3),.ref 5])),(1,(.row false 178 afk y4)),(2,(.row false 9 ahF y5)),(3,(.row false 9 ahF y6)),(4,(.row false 9 ahF y7)),(5,(.row false 204 (CTy.pair CTy.str (CTy.sl (178:Nat) afk)) y8))]
 |_,(_,_,y2,y3,y4,y5,y6,y7,y8)=> [(0,(.box 63 [.val (.string y2),.ref 2,.ref 3,.ref 4,.val (.string y3),.ref 5])),(1,(.row false 178 afk y4)),(2,(.row false 9 ahF y5)),(3,(.row false 9 ahF y6)),(4,(.row false 9 ahF y7)),(5,(.row false 204 (CTy.pair CTy.str (CTy.sl (178:Nat) afk)) y8))]
def Jz:cQ→LT cQ
 |(y0,y1,y2,y3,y4,y5,y6,y7,y8)=> .ite (Kw y0 y1) (.need [Kx y0,Ky y0 y4,Kz y0 y4,KA y0 y4 y5 y6] (.ite (KB y0 y4 y5 y6) (.ext 0 [(0,0),(1,1),(2,2),(3,3),(4,4),(5,5)]) (.nrm ((KC y0),y1,y2,y3,y4,y5,y6,y7,y8) [(0,0),(1,1),(2,2),(3,3),(4,4),(5,5)]))) (.ext 1 [(0,0),(1,1),(2,2),(3,3),(4,4),(5,5)])
def qR(s:St):Option cQ:=
 (match s.look 8 with
 |some ⟨none,.one ⟨false,[.val (.int .i64 y0)]⟩⟩=>
 (match s.look 7 with
 |some ⟨none,.one ⟨false,[.val (.int .i64 y1)]⟩⟩=>
 (match s.look 1 with
 |some ⟨none,.one ⟨false,[.clo 265 [1]]⟩⟩=>
 (match s.look 0 with
 |some ⟨none,.one ⟨false,[.ref 0]⟩⟩=>
 (match s.ent 1 with
 |some (.box 63 [.val (.string y2),.ref 2,.ref 3,.ref 4,.val (.string y3),.ref 5])=>
 (match s.ent 0 with
 |some (.row false 178 (.pair (.int .i64) (.pair .str (.int .i64))) y4)=>
 (match s.ent 2 with
 |some (.row false 9 (.str) y5)=>
 (match s.ent 3 with
 |some (.row false 9 (.str) y6)=>
 (match s.ent 4 with
 |some (.row false 9 (.str) y7)=>
 (match s.ent 5 with
 |some (.row false 204 (.pair .str (.sl (178:Nat) (.pair (.int .i64) (.pair .str (.int .i64))))) y8)=>
 some (y0,y1,y2,y3,y4,y5,y6,y7,y8)
 |_=>none)
 |_=>none)
 |_=>none)
 |_=>none)
 |_=>none)
 |_=>none)
 |_=>none)
 |_=>none)
 |_=>none)
 |_=>none)
def du:Lp cQ where
 h:=⟨[9,10,5,11,12,13,14,15,16,17,4,18,8],[0,1,2,3,4,5],[],[]⟩
 JL:=Je
 JE:=IZ
 XL:=Jp
 XE:=Jk
 q:=fun j=>match j with | 0=> .ret | _=> .exit 0
 tags:= [0,1]
 lt:=Jz
 fuel:=fun(y0,y1,y2,y3,y4,y5,y6,y7,y8)=>y0.natAbs + y1.natAbs + y2.size + y3.size + y4.length + y5.length + y6.length + y7.length + y8.length
 fix:=fun(_,y1,y2,y3,y4,y5,y6,y7,y8) (y0,_,_,_,_,_,_,_,_)=>(y0,y1,y2,y3,y4,y5,y6,y7,y8)
 σ:= [(0,1),(1,0),(2,2),(3,3),(4,4),(5,5)]
 rd:=qR
theorem HT:LoopOk prog (fun k=>Nat.blt k Tryz.f214.ntmps) du.F (aL f214 0):=by
 refine Lp.ok (tbl:= [bT,PF.lend bT,PF.fz bT]) (lf:= []) aP du (by kernel_rfl) (LOk.nil _) (fun _=>rfl) (fun j _=>by unfold du;match j with | 0=>rfl | _ + 1=>rfl) ?_ ?_ ?_ ?_ (fun _=>rfl) ?_
 ·rintro⟨y0,y1,y2,y3,y4,y5,y6,y7,y8⟩;kernel_rfl
 ·rintro⟨y0,y1,y2,y3,y4,y5,y6,y7,y8⟩;kernel_rfl
 ·intro s x h
  have h:qR s=some x:=h
  unfold qR at h
  repeat' split at h
  all_goals cases h
  exact⟨aa (by assumption) rfl (aa (by assumption) rfl (aa (by assumption) rfl (aa (by assumption) rfl (rfl)))),ab rfl (by assumption) rfl (ab rfl (by assumption) rfl (ab rfl (by assumption) rfl (ab rfl (by assumption) rfl (ab rfl (by assumption) rfl (ab rfl (by assumption) rfl (rfl))))))⟩
 ·rintro⟨y0,y1,y2,y3,y4,y5,y6,y7,y8⟩;kernel_rfl
 ·rintro⟨y0,y1,y2,y3,y4,y5,y6,y7,y8⟩ z;exact(And.intro (And.intro trivial rfl) trivial)
section
variable (x0:List (Int×ByteArray×Int))(x1 x2:ByteArray)(x3 x4 x5:List ByteArray)(x6:List (ByteArray×List (Int×ByteArray×Int)))
def sU:Int×Int×ByteArray×ByteArray×List (Int×ByteArray×Int)×List ByteArray×List ByteArray×List ByteArray×List (ByteArray×List (Int×ByteArray×Int)):=((0:Int),(↑x0.length:Int),x1,x2,x0,x3,x4,x5,x6)
def sV:Bool:=Nat.beq ((Lp.res du (sU x0 x1 x2 x3 x4 x5 x6)).1) (0:Nat)
def Cc:Int:=bif sV x0 x1 x2 x3 x4 x5 x6 then ((Lp.res du (sU x0 x1 x2 x3 x4 x5 x6)).2).1else(-1:Int)
def Cd:ByteArray:=bif sV x0 x1 x2 x3 x4 x5 x6 then x1 else x1
def Ce:ByteArray:=bif sV x0 x1 x2 x3 x4 x5 x6 then x2 else x2
def Cf:Bool:=allT [Lp.fin du (sU x0 x1 x2 x3 x4 x5 x6)]
end
def AZ:List SV→List Entry→Option Out
 | [.one ⟨false,[.ref 0]⟩,.one ⟨false,[.clo 265 [1]]⟩],[.row false 178 (.pair (.int .i64) (.pair .str (.int .i64))) x0,.box 63 [.val (.string x1),.ref 2,.ref 3,.ref 4,.val (.string x2),.ref 5],.row false 9 (.str) x3,.row false 9 (.str) x4,.row false 9 (.str) x5,.row false 204 (.pair .str (.sl (178:Nat) (.pair (.int .i64) (.pair .str (.int .i64))))) x6]=>some ⟨.one ⟨false,[.val (.int .i64 (Cc x0 x1 x2 x3 x4 x5 x6))]⟩,[.row false 178 afk x0,.box 63 [.val (.string (Cd x0 x1 x2 x3 x4 x5 x6)),.ref 2,.ref 3,.ref 4,.val (.string (Ce x0 x1 x2 x3 x4 x5 x6)),.ref 5],.row false 9 ahF x3,.row false 9 ahF x4,.row false 9 ahF x5,.row false 204 (CTy.pair CTy.str (CTy.sl (178:Nat) afk)) x6],[],[Cf x0 x1 x2 x3 x4 x5 x6]⟩
 |_,_=>none
def tq:PF prog:=PF.ofG prog [bT,PF.lend bT,PF.fz bT] [du.F] aP 214 f214 func214 (LOk.fnT (l:= [aL f214 0]) (by kernel_rfl) (.cons HT (.nil _))) AZ (by
 intro vs es r h;unfold AZ at h;split at h
 ·cases h;kernel_rfl
 ·cases h)
section
variable (x0:List (Int×ByteArray×Int))(x1 x2:ByteArray)(x3 x4 x5:List ByteArray)(x6:List (ByteArray×List (Int×ByteArray×Int)))
def zk:Bool:=leI (0:Int) (Cc x0 x1 x2 x3 x4 x5 x6)
def Ks:ByteArray:=Cd x0 x1 x2 x3 x4 x5 x6
def Kt:ByteArray:=Ce x0 x1 x2 x3 x4 x5 x6
def zl:Bool:=allT [Cf x0 x1 x2 x3 x4 x5 x6]
end
def yM:List SV→List Entry→Option Out
 | [.one ⟨false,[.ref 0]⟩,.one ⟨false,[.clo 265 [1]]⟩],[.row false 178 (.pair (.int .i64) (.pair .str (.int .i64))) x0,.box 63 [.val (.string x1),.ref 2,.ref 3,.ref 4,.val (.string x2),.ref 5],.row false 9 (.str) x3,.row false 9 (.str) x4,.row false 9 (.str) x5,.row false 204 (.pair .str (.sl (178:Nat) (.pair (.int .i64) (.pair .str (.int .i64))))) x6]=>some ⟨.one ⟨false,[.val (.bool (zk x0 x1 x2 x3 x4 x5 x6))]⟩,[.row false 178 afk x0,.box 63 [.val (.string (Ks x0 x1 x2 x3 x4 x5 x6)),.ref 2,.ref 3,.ref 4,.val (.string (Kt x0 x1 x2 x3 x4 x5 x6)),.ref 5],.row false 9 ahF x3,.row false 9 ahF x4,.row false 9 ahF x5,.row false 204 (CTy.pair CTy.str (CTy.sl (178:Nat) afk)) x6],[],[zl x0 x1 x2 x3 x4 x5 x6]⟩
 |_,_=>none
def ry:PF prog:=PF.ofG prog [tq,PF.lend tq,PF.fz tq] [] aP 159 f159 func159 (fun c _=>LOk.nil c) yM (by
 intro vs es r h;unfold yM at h;split at h
 ·cases h;kernel_rfl
 ·cases h)
def En(x0 x1:ByteArray)(x3 x4 x5:List ByteArray)(x6:List (ByteArray×List (Int×ByteArray×Int)))(x7:List (Int×ByteArray×Int)):Bool:=zk x7 x0 x1 x3 x4 x5 x6
def Eo(x0 x1:ByteArray)(x3 x4 x5:List ByteArray)(x6:List (ByteArray×List (Int×ByteArray×Int)))(x7:List (Int×ByteArray×Int)):Bool:=allT [zl x7 x0 x1 x3 x4 x5 x6]
def sO:List SV→List Entry→Option Out
 | [.one ⟨true,[.val (.string x0),.ref 0,.ref 1,.ref 2,.val (.string x1),.ref 3]⟩,.one ⟨true,[.val (.string _x2),.ref 4]⟩],[.row false 9 (.str) x3,.row false 9 (.str) x4,.row false 9 (.str) x5,.row false 204 (.pair (.str) (.sl 178 (.pair (.int .i64) (.pair (.str) (.int .i64))))) x6,.row false 178 (.pair (.int .i64) (.pair (.str) (.int .i64))) x7]=>some ⟨.one ⟨false,[.val (.bool (En x0 x1 x3 x4 x5 x6 x7))]⟩,[.row false 9 ahF x3,.row false 9 ahF x4,.row false 9 ahF x5,.row false 204 (CTy.pair CTy.str (CTy.sl (178:TypeId) afk)) x6,.row false 178 afk x7],[],[Eo x0 x1 x3 x4 x5 x6 x7]⟩
 |_,_=>none
def cZ:PF prog:=PF.ofG prog [ry,PF.lend ry,PF.fz ry] [] aP 238 f238 func238 (fun c _=>LOk.nil c) sO (by
 intro vs es r h;unfold sO at h;split at h
 ·cases h;kernel_rfl
 ·cases h)
def lR(x0:ByteArray)(x1:List ByteArray):Bool:= !ma x1 x0
def lT(x1:List ByteArray):Bool:=allT [leN x1.length (9223372036854775807:Nat)]
def rT:List SV→List Entry→Option Out
 | [.one ⟨false,[.val (.string x0)]⟩,.one ⟨false,[.ptr 0 0]⟩],[.box 60 [.ref 1],.row true 9 (.str) x1]=>some ⟨.one ⟨false,[.val (.bool (lR x0 x1))]⟩,[.box 60 [.ref 1],.row true 9 ahF x1],[],[lT x1]⟩
 |_,_=>none
def cL:PF prog:=PF.ofG prog [aD,PF.lend aD,PF.fz aD] [] aP 236 f236 func236 (fun c _=>LOk.nil c) rT (by
 intro vs es r h;unfold rT at h;split at h
 ·cases h;kernel_rfl
 ·cases h)
abbrev bj:=Int×Int×List ByteArray×List ByteArray
section
variable (y0 y1:Int)(y2 y3:List ByteArray)
def gN:Bool:=ltI y0 y1
def gO:Bool:=leI (0:Int) y0
def gP:Bool:=ltI y0 (↑y2.length:Int)
def gQ:Bool:=ltN y0.toNat y2.length
def dN:Bool:=lT y3
def gR:Bool:=lR (Option.getD y2[Int.toNat y0]? ByteArray.empty) y3
def kK:Int:=IntKind.wrap .i64 (y0 + (1:Int))
end
def Gx:bj→List (Nat×SV)
 |(y0,y1,_,_)=> [(8,(.one ⟨false,[.val (.int .i64 y0)]⟩)),(7,(.one ⟨false,[.val (.int .i64 y1)]⟩)),(1,(.one ⟨false,[.clo 236 [0]]⟩)),(0,(.one ⟨false,[.ref 1]⟩))]
def Gu:bj→List (Nat×Entry)
 |(_,_,y2,y3)=> [(0,(.box 60 [.ref 2])),(1,(.row true 9 ahF y2)),(2,(.row true 9 ahF y3))]
def GE:Nat→bj→List (Nat×SV)
 |0,(y0,_,_,_)=> [(4,(.one ⟨false,[.val (.int .i64 y0)]⟩))]
 |_,(_,_,_,_)=> []
def GA:Nat→bj→List (Nat×Entry)
 |0,(_,_,y2,y3)=> [(0,(.box 60 [.ref 2])),(1,(.row true 9 ahF y2)),(2,(.row true 9 ahF y3))]
 |_,(_,_,y2,y3)=> [(0,(.box 60 [.ref 2])),(1,(.row true 9 ahF y2)),(2,(.row true 9 ahF y3))]
def gw:bj→LT bj
 |(y0,y1,y2,y3)=> .ite (gN y0 y1) (.need [gO y0,gP y0 y2,gQ y0 y2,dN y3] (.ite (gR y0 y2 y3) (.ext 0 [(0,0),(1,1),(2,2)]) (.nrm ((kK y0),y1,y2,y3) [(0,0),(1,1),(2,2)]))) (.ext 1 [(0,0),(1,1),(2,2)])
def oO(s:St):Option bj:=
 (match s.look 8 with
 |some ⟨none,.one ⟨false,[.val (.int .i64 y0)]⟩⟩=>
 (match s.look 7 with
 |some ⟨none,.one ⟨false,[.val (.int .i64 y1)]⟩⟩=>
 (match s.look 1 with
 |some ⟨none,.one ⟨false,[.clo 236 [1]]⟩⟩=>
 (match s.look 0 with
 |some ⟨none,.one ⟨false,[.ref 0]⟩⟩=>
 (match s.ent 1 with
 |some (.box 60 [.ref 2])=>
 (match s.ent 0 with
 |some (.row true 9 (.str) y2)=>
 (match s.ent 2 with
 |some (.row true 9 (.str) y3)=>
 some (y0,y1,y2,y3)
 |_=>none)
 |_=>none)
 |_=>none)
 |_=>none)
 |_=>none)
 |_=>none)
 |_=>none)
def ah:Lp bj where
 h:=⟨[9,10,5,11,12,13,14,15,16,17,4,18,8],[0,1,2],[],[]⟩
 JL:=Gx
 JE:=Gu
 XL:=GE
 XE:=GA
 q:=fun j=>match j with | 0=> .ret | _=> .exit 0
 tags:= [0,1]
 lt:=gw
 fuel:=fun(y0,y1,y2,y3)=>y0.natAbs + y1.natAbs + y2.length + y3.length
 fix:=fun(_,y1,y2,y3) (y0,_,_,_)=>(y0,y1,y2,y3)
 σ:= [(0,1),(1,0),(2,2)]
 rd:=oO
theorem FE:LoopOk prog (fun k=>Nat.blt k Tryz.f264.ntmps) ah.F (aL f264 0):=by
 refine Lp.ok (tbl:= [cL,PF.lend cL,PF.fz cL]) (lf:= []) aP ah (by kernel_rfl) (LOk.nil _) (fun _=>rfl) (fun j _=>by unfold ah;match j with | 0=>rfl | _ + 1=>rfl) ?_ ?_ ?_ ?_ (fun _=>rfl) ?_
 ·rintro⟨y0,y1,y2,y3⟩;kernel_rfl
 ·rintro⟨y0,y1,y2,y3⟩;kernel_rfl
 ·intro s x h
  have h:oO s=some x:=h
  unfold oO at h
  repeat' split at h
  all_goals cases h
  exact⟨aa (by assumption) rfl (aa (by assumption) rfl (aa (by assumption) rfl (aa (by assumption) rfl (rfl)))),ab rfl (by assumption) rfl (ab rfl (by assumption) rfl (ab rfl (by assumption) rfl (rfl)))⟩
 ·rintro⟨y0,y1,y2,y3⟩;kernel_rfl
 ·rintro⟨y0,y1,y2,y3⟩ z;exact(And.intro (And.intro trivial rfl) trivial)
section
variable (x0 x1:List ByteArray)
def iA:Int×Int×List ByteArray×List ByteArray:=((0:Int),(↑x0.length:Int),x0,x1)
def lP:Bool:=Nat.beq ((Lp.res ah (iA x0 x1)).1) (0:Nat)
def qV:Int:=bif lP x0 x1 then ((Lp.res ah (iA x0 x1)).2).1else(-1:Int)
def ym:List ByteArray:=bif lP x0 x1 then x0 else x0
def yo:List ByteArray:=bif lP x0 x1 then x1 else x1
def qW:Bool:=allT [Lp.fin ah (iA x0 x1)]
end
def xA:List SV→List Entry→Option Out
 | [.one ⟨false,[.ref 0]⟩,.one ⟨false,[.clo 236 [1]]⟩],[.row true 9 (.str) x0,.box 60 [.ref 2],.row true 9 (.str) x1]=>some ⟨.one ⟨false,[.val (.int .i64 (qV x0 x1))]⟩,[.row true 9 ahF (ym x0 x1),.box 60 [.ref 2],.row true 9 ahF (yo x0 x1)],[],[qW x0 x1]⟩
 |_,_=>none
def qI:PF prog:=PF.ofG prog [cL,PF.lend cL,PF.fz cL] [ah.F] aP 264 f264 func264 (LOk.fnT (l:= [aL f264 0]) (by kernel_rfl) (.cons FE (.nil _))) xA (by
 intro vs es r h;unfold xA at h;split at h
 ·cases h;kernel_rfl
 ·cases h)
section
variable (x0 x1:List ByteArray)
def cT:Bool:=leI (0:Int) (qV x0 x1)
def ch:List ByteArray:=ym x0 x1
def kG:List ByteArray:=yo x0 x1
def kH:Bool:=allT [qW x0 x1]
end
def vO:List SV→List Entry→Option Out
 | [.one ⟨false,[.ref 0]⟩,.one ⟨false,[.clo 236 [1]]⟩],[.row true 9 (.str) x0,.box 60 [.ref 2],.row true 9 (.str) x1]=>some ⟨.one ⟨false,[.val (.bool (cT x0 x1))]⟩,[.row true 9 ahF (ch x0 x1),.box 60 [.ref 2],.row true 9 ahF (kG x0 x1)],[],[kH x0 x1]⟩
 |_,_=>none
def dL:PF prog:=PF.ofG prog [qI,PF.lend qI,PF.fz qI] [] aP 235 f235 func235 (fun c _=>LOk.nil c) vO (by
 intro vs es r h;unfold vO at h;split at h
 ·cases h;kernel_rfl
 ·cases h)
def lU(x0:ByteArray)(x1:List ByteArray):Bool:= !ma x1 x0
def lV(x1:List ByteArray):Bool:=allT [leN x1.length (9223372036854775807:Nat)]
def rU:List SV→List Entry→Option Out
 | [.one ⟨false,[.val (.string x0)]⟩,.one ⟨false,[.ptr 0 0]⟩],[.box 60 [.ref 1],.row true 9 (.str) x1]=>some ⟨.one ⟨false,[.val (.bool (lU x0 x1))]⟩,[.box 60 [.ref 1],.row true 9 ahF x1],[],[lV x1]⟩
 |_,_=>none
def cM:PF prog:=PF.ofG prog [aD,PF.lend aD,PF.fz aD] [] aP 237 f237 func237 (fun c _=>LOk.nil c) rU (by
 intro vs es r h;unfold rU at h;split at h
 ·cases h;kernel_rfl
 ·cases h)
abbrev bk:=Int×Int×List ByteArray×List ByteArray
section
variable (y0 y1:Int)(y2 y3:List ByteArray)
def gS:Bool:=ltI y0 y1
def gT:Bool:=leI (0:Int) y0
def gU:Bool:=ltI y0 (↑y2.length:Int)
def gV:Bool:=ltN y0.toNat y2.length
def dO:Bool:=lV y3
def gW:Bool:=lU (Option.getD y2[Int.toNat y0]? ByteArray.empty) y3
def kL:Int:=IntKind.wrap .i64 (y0 + (1:Int))
end
def Gy:bk→List (Nat×SV)
 |(y0,y1,_,_)=> [(8,(.one ⟨false,[.val (.int .i64 y0)]⟩)),(7,(.one ⟨false,[.val (.int .i64 y1)]⟩)),(1,(.one ⟨false,[.clo 237 [0]]⟩)),(0,(.one ⟨false,[.ref 1]⟩))]
def Gv:bk→List (Nat×Entry)
 |(_,_,y2,y3)=> [(0,(.box 60 [.ref 2])),(1,(.row true 9 ahF y2)),(2,(.row true 9 ahF y3))]
def GF:Nat→bk→List (Nat×SV)
 |0,(y0,_,_,_)=> [(4,(.one ⟨false,[.val (.int .i64 y0)]⟩))]
 |_,(_,_,_,_)=> []
def GC:Nat→bk→List (Nat×Entry)
 |0,(_,_,y2,y3)=> [(0,(.box 60 [.ref 2])),(1,(.row true 9 ahF y2)),(2,(.row true 9 ahF y3))]
 |_,(_,_,y2,y3)=> [(0,(.box 60 [.ref 2])),(1,(.row true 9 ahF y2)),(2,(.row true 9 ahF y3))]
def gx:bk→LT bk
 |(y0,y1,y2,y3)=> .ite (gS y0 y1) (.need [gT y0,gU y0 y2,gV y0 y2,dO y3] (.ite (gW y0 y2 y3) (.ext 0 [(0,0),(1,1),(2,2)]) (.nrm ((kL y0),y1,y2,y3) [(0,0),(1,1),(2,2)]))) (.ext 1 [(0,0),(1,1),(2,2)])
def oP(s:St):Option bk:=
 (match s.look 8 with
 |some ⟨none,.one ⟨false,[.val (.int .i64 y0)]⟩⟩=>
 (match s.look 7 with
 |some ⟨none,.one ⟨false,[.val (.int .i64 y1)]⟩⟩=>
 (match s.look 1 with
 |some ⟨none,.one ⟨false,[.clo 237 [1]]⟩⟩=>
 (match s.look 0 with
 |some ⟨none,.one ⟨false,[.ref 0]⟩⟩=>
 (match s.ent 1 with
 |some (.box 60 [.ref 2])=>
 (match s.ent 0 with
 |some (.row true 9 (.str) y2)=>
 (match s.ent 2 with
 |some (.row true 9 (.str) y3)=>
 some (y0,y1,y2,y3)
 |_=>none)
 |_=>none)
 |_=>none)
 |_=>none)
 |_=>none)
 |_=>none)
 |_=>none)
def ai:Lp bk where
 h:=⟨[9,10,5,11,12,13,14,15,16,17,4,18,8],[0,1,2],[],[]⟩
 JL:=Gy
 JE:=Gv
 XL:=GF
 XE:=GC
 q:=fun j=>match j with | 0=> .ret | _=> .exit 0
 tags:= [0,1]
 lt:=gx
 fuel:=fun(y0,y1,y2,y3)=>y0.natAbs + y1.natAbs + y2.length + y3.length
 fix:=fun(_,y1,y2,y3) (y0,_,_,_)=>(y0,y1,y2,y3)
 σ:= [(0,1),(1,0),(2,2)]
 rd:=oP
theorem FF:LoopOk prog (fun k=>Nat.blt k Tryz.f264.ntmps) ai.F (aL f264 0):=by
 refine Lp.ok (tbl:= [cM,PF.lend cM,PF.fz cM]) (lf:= []) aP ai (by kernel_rfl) (LOk.nil _) (fun _=>rfl) (fun j _=>by unfold ai;match j with | 0=>rfl | _ + 1=>rfl) ?_ ?_ ?_ ?_ (fun _=>rfl) ?_
 ·rintro⟨y0,y1,y2,y3⟩;kernel_rfl
 ·rintro⟨y0,y1,y2,y3⟩;kernel_rfl
 ·intro s x h
  have h:oP s=some x:=h
  unfold oP at h
  repeat' split at h
  all_goals cases h
  exact⟨aa (by assumption) rfl (aa (by assumption) rfl (aa (by assumption) rfl (aa (by assumption) rfl (rfl)))),ab rfl (by assumption) rfl (ab rfl (by assumption) rfl (ab rfl (by assumption) rfl (rfl)))⟩
 ·rintro⟨y0,y1,y2,y3⟩;kernel_rfl
 ·rintro⟨y0,y1,y2,y3⟩ z;exact(And.intro (And.intro trivial rfl) trivial)
section
variable (x0 x1:List ByteArray)
def iB:Int×Int×List ByteArray×List ByteArray:=((0:Int),(↑x0.length:Int),x0,x1)
def lQ:Bool:=Nat.beq ((Lp.res ai (iB x0 x1)).1) (0:Nat)
def qX:Int:=bif lQ x0 x1 then ((Lp.res ai (iB x0 x1)).2).1else(-1:Int)
def yp:List ByteArray:=bif lQ x0 x1 then x0 else x0
def yq:List ByteArray:=bif lQ x0 x1 then x1 else x1
def qY:Bool:=allT [Lp.fin ai (iB x0 x1)]
end
def xB:List SV→List Entry→Option Out
 | [.one ⟨false,[.ref 0]⟩,.one ⟨false,[.clo 237 [1]]⟩],[.row true 9 (.str) x0,.box 60 [.ref 2],.row true 9 (.str) x1]=>some ⟨.one ⟨false,[.val (.int .i64 (qX x0 x1))]⟩,[.row true 9 ahF (yp x0 x1),.box 60 [.ref 2],.row true 9 ahF (yq x0 x1)],[],[qY x0 x1]⟩
 |_,_=>none
def qJ:PF prog:=PF.ofG prog [cM,PF.lend cM,PF.fz cM] [ai.F] aP 264 f264 func264 (LOk.fnT (l:= [aL f264 0]) (by kernel_rfl) (.cons FF (.nil _))) xB (by
 intro vs es r h;unfold xB at h;split at h
 ·cases h;kernel_rfl
 ·cases h)
section
variable (x0 x1:List ByteArray)
def kI:Bool:=leI (0:Int) (qX x0 x1)
def vW:List ByteArray:=yp x0 x1
def vX:List ByteArray:=yq x0 x1
def kJ:Bool:=allT [qY x0 x1]
end
def vP:List SV→List Entry→Option Out
 | [.one ⟨false,[.ref 0]⟩,.one ⟨false,[.clo 237 [1]]⟩],[.row true 9 (.str) x0,.box 60 [.ref 2],.row true 9 (.str) x1]=>some ⟨.one ⟨false,[.val (.bool (kI x0 x1))]⟩,[.row true 9 ahF (vW x0 x1),.box 60 [.ref 2],.row true 9 ahF (vX x0 x1)],[],[kJ x0 x1]⟩
 |_,_=>none
def dM:PF prog:=PF.ofG prog [qJ,PF.lend qJ,PF.fz qJ] [] aP 235 f235 func235 (fun c _=>LOk.nil c) vP (by
 intro vs es r h;unfold vP at h;split at h
 ·cases h;kernel_rfl
 ·cases h)
section
variable (x0:Int)(x1:ByteArray)(x5 x6:List ByteArray)
def iZ:Bool:=bif x0==(1:Int)then !ma x5 x1 else false
def eO:Bool:=bif iZ x0 x1 x5 then !ma x6 x1 else false
def jH:Bool:=allT [!(x0==(1:Int)&&true)||leN x5.length (9223372036854775807:Nat),!(iZ x0 x1 x5&&true)||leN x6.length (9223372036854775807:Nat)]
end
def oS:List SV→List Entry→Option Out
 | [.one ⟨true,[.val (.int .i64 x0),.val (.string x1),.val (.int .i64 _x2)]⟩,.one ⟨false,[.ptr 0 0]⟩],[.box 63 [.val (.string x3),.ref 1,.ref 2,.ref 3,.val (.string x4),.ref 4],.row false 9 (.str) x5,.row false 9 (.str) x6,.row false 9 (.str) x7,.row false 204 (.pair .str (.sl (178:Nat) (.pair (.int .i64) (.pair .str (.int .i64))))) x8]=>some ⟨.one ⟨false,[.val (.bool (eO x0 x1 x5 x6))]⟩,[.box 63 [.val (.string x3),.ref 1,.ref 2,.ref 3,.val (.string x4),.ref 4],.row false 9 ahF x5,.row false 9 ahF x6,.row false 9 ahF x7,.row false 204 (CTy.pair CTy.str (CTy.sl (178:Nat) afk)) x8],[],[jH x0 x1 x5 x6]⟩
 |_,_=>none
def bU:PF prog:=PF.ofG prog [aD,PF.lend aD,PF.fz aD] [] aP 265 f265 func265 (fun c _=>LOk.nil c) oS (by
 intro vs es r h;unfold oS at h;split at h
 ·cases h;kernel_rfl
 ·cases h)
abbrev bD:=Int×Int×ByteArray×ByteArray×List (Int×(ByteArray×Int))×List ByteArray×List ByteArray×List ByteArray×List (ByteArray×(List (Int×(ByteArray×Int))))
section
variable (y0 y1:Int)(y4:List (Int×(ByteArray×Int)))(y5 y6:List ByteArray)
def bw:Int×ByteArray×Int:=Option.getD y4[Int.toNat y0]? ((0:Int),ByteArray.empty,(0:Int))
def jy:Bool:=ltI y0 y1
def mX:Bool:=leI (0:Int) y0
def mY:Bool:=ltI y0 (↑y4.length:Int)
def mZ:Bool:=ltN y0.toNat y4.length
def jz:Bool:=jH ((bw y0 y4).1) (((bw y0 y4).2).1) y5 y6
def jA:Bool:=eO ((bw y0 y4).1) (((bw y0 y4).2).1) y5 y6
def rM:Int:=IntKind.wrap .i64 (y0 + (1:Int))
end
def Jf:bD→List (Nat×SV)
 |(y0,y1,_,_,_,_,_,_,_)=> [(8,(.one ⟨false,[.val (.int .i64 y0)]⟩)),(7,(.one ⟨false,[.val (.int .i64 y1)]⟩)),(1,(.one ⟨false,[.clo 265 [0]]⟩)),(0,(.one ⟨false,[.ref 1]⟩))]
def Ja:bD→List (Nat×Entry)
 |(_,_,y2,y3,y4,y5,y6,y7,y8)=> [(0,(.box 63 [.val (.string y2),.ref 2,.ref 3,.ref 4,.val (.string y3),.ref 5])),(1,(.row false 178 afk y4)),(2,(.row false 9 ahF y5)),(3,(.row false 9 ahF y6)),(4,(.row false 9 ahF y7)),(5,(.row false 204 (CTy.pair CTy.str (CTy.sl (178:Nat) afk)) y8))]
def Jq:Nat→bD→List (Nat×SV)
 |0,(y0,_,_,_,_,_,_,_,_)=> [(4,(.one ⟨false,[.val (.int .i64 y0)]⟩))]
 |_,(_,_,_,_,_,_,_,_,_)=> []
def Jl:Nat→bD→List (Nat×Entry)
 |0,(_,_,y2,y3,y4,y5,y6,y7,y8)=> [(0,(.box 63 [.val (.string y2),.ref 2,.ref 3,.ref 4,.val (.string y3),.ref 5])),(1,(.row false 178 afk y4)),(2,(.row false 9 ahF y5)),(3,(.row false 9 ahF y6)),(4,(.row false 9 ahF y7)),(5,(.row false 204 (CTy.pair CTy.str (CTy.sl (178:Nat) afk)) y8))]
 |_,(_,_,y2,y3,y4,y5,y6,y7,y8)=> [(0,(.box 63 [.val (.string y2),.ref 2,.ref 3,.ref 4,.val (.string y3),.ref 5])),(1,(.row false 178 afk y4)),(2,(.row false 9 ahF y5)),(3,(.row false 9 ahF y6)),(4,(.row false 9 ahF y7)),(5,(.row false 204 (CTy.pair CTy.str (CTy.sl (178:Nat) afk)) y8))]
def iW:bD→LT bD
 |(y0,y1,y2,y3,y4,y5,y6,y7,y8)=> .ite (jy y0 y1) (.need [mX y0,mY y0 y4,mZ y0 y4,jz y0 y4 y5 y6] (.ite (jA y0 y4 y5 y6) (.ext 0 [(0,0),(1,1),(2,2),(3,3),(4,4),(5,5)]) (.nrm ((rM y0),y1,y2,y3,y4,y5,y6,y7,y8) [(0,0),(1,1),(2,2),(3,3),(4,4),(5,5)]))) (.ext 1 [(0,0),(1,1),(2,2),(3,3),(4,4),(5,5)])
def qS(s:St):Option bD:=
 (match s.look 8 with
 |some ⟨none,.one ⟨false,[.val (.int .i64 y0)]⟩⟩=>
 (match s.look 7 with
 |some ⟨none,.one ⟨false,[.val (.int .i64 y1)]⟩⟩=>
 (match s.look 1 with
 |some ⟨none,.one ⟨false,[.clo 265 [1]]⟩⟩=>
 (match s.look 0 with
 |some ⟨none,.one ⟨false,[.ref 0]⟩⟩=>
 (match s.ent 1 with
 |some (.box 63 [.val (.string y2),.ref 2,.ref 3,.ref 4,.val (.string y3),.ref 5])=>
 (match s.ent 0 with
 |some (.row false 178 (.pair (.int .i64) (.pair .str (.int .i64))) y4)=>
 (match s.ent 2 with
 |some (.row false 9 (.str) y5)=>
 (match s.ent 3 with
 |some (.row false 9 (.str) y6)=>
 (match s.ent 4 with
 |some (.row false 9 (.str) y7)=>
 (match s.ent 5 with
 |some (.row false 204 (.pair .str (.sl (178:Nat) (.pair (.int .i64) (.pair .str (.int .i64))))) y8)=>
 some (y0,y1,y2,y3,y4,y5,y6,y7,y8)
 |_=>none)
 |_=>none)
 |_=>none)
 |_=>none)
 |_=>none)
 |_=>none)
 |_=>none)
 |_=>none)
 |_=>none)
 |_=>none)
def aB:Lp bD where
 h:=⟨[9,10,5,11,12,13,14,15,16,17,4,18,8],[0,1,2,3,4,5],[],[]⟩
 JL:=Jf
 JE:=Ja
 XL:=Jq
 XE:=Jl
 q:=fun j=>match j with | 0=> .ret | _=> .exit 0
 tags:= [0,1]
 lt:=iW
 fuel:=fun(y0,y1,y2,y3,y4,y5,y6,y7,y8)=>y0.natAbs + y1.natAbs + y2.size + y3.size + y4.length + y5.length + y6.length + y7.length + y8.length
 fix:=fun(_,y1,y2,y3,y4,y5,y6,y7,y8) (y0,_,_,_,_,_,_,_,_)=>(y0,y1,y2,y3,y4,y5,y6,y7,y8)
 σ:= [(0,1),(1,0),(2,2),(3,3),(4,4),(5,5)]
 rd:=qS
theorem HU:LoopOk prog (fun k=>Nat.blt k Tryz.f214.ntmps) aB.F (aL f214 0):=by
 refine Lp.ok (tbl:= [bU,PF.lend bU,PF.fz bU]) (lf:= []) aP aB (by kernel_rfl) (LOk.nil _) (fun _=>rfl) (fun j _=>by unfold aB;match j with | 0=>rfl | _ + 1=>rfl) ?_ ?_ ?_ ?_ (fun _=>rfl) ?_
 ·rintro⟨y0,y1,y2,y3,y4,y5,y6,y7,y8⟩;kernel_rfl
 ·rintro⟨y0,y1,y2,y3,y4,y5,y6,y7,y8⟩;kernel_rfl
 ·intro s x h
  have h:qS s=some x:=h
  unfold qS at h
  repeat' split at h
  all_goals cases h
  exact⟨aa (by assumption) rfl (aa (by assumption) rfl (aa (by assumption) rfl (aa (by assumption) rfl (rfl)))),ab rfl (by assumption) rfl (ab rfl (by assumption) rfl (ab rfl (by assumption) rfl (ab rfl (by assumption) rfl (ab rfl (by assumption) rfl (ab rfl (by assumption) rfl (rfl))))))⟩
 ·rintro⟨y0,y1,y2,y3,y4,y5,y6,y7,y8⟩;kernel_rfl
 ·rintro⟨y0,y1,y2,y3,y4,y5,y6,y7,y8⟩ z;exact(And.intro (And.intro trivial rfl) trivial)
section
variable (x0:List (Int×ByteArray×Int))(x1 x2:ByteArray)(x3 x4 x5:List ByteArray)(x6:List (ByteArray×List (Int×ByteArray×Int)))
def kg:Int×Int×ByteArray×ByteArray×List (Int×ByteArray×Int)×List ByteArray×List ByteArray×List ByteArray×List (ByteArray×List (Int×ByteArray×Int)):=((0:Int),(↑x0.length:Int),x1,x2,x0,x3,x4,x5,x6)
def oc:Bool:=Nat.beq ((Lp.res aB (kg x0 x1 x2 x3 x4 x5 x6)).1) (0:Nat)
def tB:Int:=bif oc x0 x1 x2 x3 x4 x5 x6 then ((Lp.res aB (kg x0 x1 x2 x3 x4 x5 x6)).2).1else(-1:Int)
def Cg:ByteArray:=bif oc x0 x1 x2 x3 x4 x5 x6 then x1 else x1
def Ch:ByteArray:=bif oc x0 x1 x2 x3 x4 x5 x6 then x2 else x2
def tC:Bool:=allT [Lp.fin aB (kg x0 x1 x2 x3 x4 x5 x6)]
end
def Ba:List SV→List Entry→Option Out
 | [.one ⟨false,[.ref 0]⟩,.one ⟨false,[.clo 265 [1]]⟩],[.row false 178 (.pair (.int .i64) (.pair .str (.int .i64))) x0,.box 63 [.val (.string x1),.ref 2,.ref 3,.ref 4,.val (.string x2),.ref 5],.row false 9 (.str) x3,.row false 9 (.str) x4,.row false 9 (.str) x5,.row false 204 (.pair .str (.sl (178:Nat) (.pair (.int .i64) (.pair .str (.int .i64))))) x6]=>some ⟨.one ⟨false,[.val (.int .i64 (tB x0 x1 x2 x3 x4 x5 x6))]⟩,[.row false 178 afk x0,.box 63 [.val (.string (Cg x0 x1 x2 x3 x4 x5 x6)),.ref 2,.ref 3,.ref 4,.val (.string (Ch x0 x1 x2 x3 x4 x5 x6)),.ref 5],.row false 9 ahF x3,.row false 9 ahF x4,.row false 9 ahF x5,.row false 204 (CTy.pair CTy.str (CTy.sl (178:Nat) afk)) x6],[],[tC x0 x1 x2 x3 x4 x5 x6]⟩
 |_,_=>none
def tt:PF prog:=PF.ofG prog [bU,PF.lend bU,PF.fz bU] [aB.F] aP 214 f214 func214 (LOk.fnT (l:= [aL f214 0]) (by kernel_rfl) (.cons HU (.nil _))) Ba (by
 intro vs es r h;unfold Ba at h;split at h
 ·cases h;kernel_rfl
 ·cases h)
section
variable (x0:List (Int×ByteArray×Int))(x1 x2:ByteArray)(x3 x4 x5:List ByteArray)(x6:List (ByteArray×List (Int×ByteArray×Int)))
def rH:Bool:=leI (0:Int) (tB x0 x1 x2 x3 x4 x5 x6)
def Ku:ByteArray:=Cg x0 x1 x2 x3 x4 x5 x6
def Kv:ByteArray:=Ch x0 x1 x2 x3 x4 x5 x6
def rI:Bool:=allT [tC x0 x1 x2 x3 x4 x5 x6]
end
def yN:List SV→List Entry→Option Out
 | [.one ⟨false,[.ref 0]⟩,.one ⟨false,[.clo 265 [1]]⟩],[.row false 178 (.pair (.int .i64) (.pair .str (.int .i64))) x0,.box 63 [.val (.string x1),.ref 2,.ref 3,.ref 4,.val (.string x2),.ref 5],.row false 9 (.str) x3,.row false 9 (.str) x4,.row false 9 (.str) x5,.row false 204 (.pair .str (.sl (178:Nat) (.pair (.int .i64) (.pair .str (.int .i64))))) x6]=>some ⟨.one ⟨false,[.val (.bool (rH x0 x1 x2 x3 x4 x5 x6))]⟩,[.row false 178 afk x0,.box 63 [.val (.string (Ku x0 x1 x2 x3 x4 x5 x6)),.ref 2,.ref 3,.ref 4,.val (.string (Kv x0 x1 x2 x3 x4 x5 x6)),.ref 5],.row false 9 ahF x3,.row false 9 ahF x4,.row false 9 ahF x5,.row false 204 (CTy.pair CTy.str (CTy.sl (178:Nat) afk)) x6],[],[rI x0 x1 x2 x3 x4 x5 x6]⟩
 |_,_=>none
def rz:PF prog:=PF.ofG prog [tt,PF.lend tt,PF.fz tt] [] aP 159 f159 func159 (fun c _=>LOk.nil c) yN (by
 intro vs es r h;unfold yN at h;split at h
 ·cases h;kernel_rfl
 ·cases h)
def dh(x0 x1:ByteArray)(x3 x4 x5:List ByteArray)(x6:List (ByteArray×List (Int×ByteArray×Int)))(x7:List (Int×ByteArray×Int)):Bool:=rH x7 x0 x1 x3 x4 x5 x6
def fm(x0 x1:ByteArray)(x3 x4 x5:List ByteArray)(x6:List (ByteArray×List (Int×ByteArray×Int)))(x7:List (Int×ByteArray×Int)):Bool:=allT [rI x7 x0 x1 x3 x4 x5 x6]
def pV:List SV→List Entry→Option Out
 | [.one ⟨true,[.val (.string x0),.ref 0,.ref 1,.ref 2,.val (.string x1),.ref 3]⟩,.one ⟨true,[.val (.string _x2),.ref 4]⟩],[.row false 9 (.str) x3,.row false 9 (.str) x4,.row false 9 (.str) x5,.row false 204 (.pair .str (.sl (178:Nat) (.pair (.int .i64) (.pair .str (.int .i64))))) x6,.row false 178 (.pair (.int .i64) (.pair .str (.int .i64))) x7]=>some ⟨.one ⟨false,[.val (.bool (dh x0 x1 x3 x4 x5 x6 x7))]⟩,[.row false 9 ahF x3,.row false 9 ahF x4,.row false 9 ahF x5,.row false 204 (CTy.pair CTy.str (CTy.sl (178:Nat) afk)) x6,.row false 178 afk x7],[],[fm x0 x1 x3 x4 x5 x6 x7]⟩
 |_,_=>none
def ck:PF prog:=PF.ofG prog [rz,PF.lend rz,PF.fz rz] [] aP 238 f238 func238 (fun c _=>LOk.nil c) pV (by
 intro vs es r h;unfold pV at h;split at h
 ·cases h;kernel_rfl
 ·cases h)
abbrev bC:=Int×Int×ByteArray×ByteArray×List ByteArray×List ByteArray×List ByteArray×List (ByteArray×(List (Int×(ByteArray×Int))))
def cF(y0:Int)(y7:List (ByteArray×(List (Int×(ByteArray×Int))))):List (Int×ByteArray×Int):=(Option.getD y7[Int.toNat y0]? (qA (CTy.pair CTy.str (CTy.sl (178:Nat) afk)))).2
def jv(y0 y1:Int):Bool:=ltI y0 y1
def mU(y0:Int):Bool:=leI (0:Int) y0
def mV(y0:Int)(y7:List (ByteArray×(List (Int×(ByteArray×Int))))):Bool:=ltI y0 (↑y7.length:Int)
def mW(y0:Int)(y7:List (ByteArray×(List (Int×(ByteArray×Int))))):Bool:=ltN y0.toNat y7.length
def jw(y0:Int)(y2 y3:ByteArray)(y4 y5 y6:List ByteArray)(y7:List (ByteArray×(List (Int×(ByteArray×Int))))):Bool:=fm y2 y3 y4 y5 y6 y7 (cF y0 y7)
def jx(y0:Int)(y2 y3:ByteArray)(y4 y5 y6:List ByteArray)(y7:List (ByteArray×(List (Int×(ByteArray×Int))))):Bool:=dh y2 y3 y4 y5 y6 y7 (cF y0 y7)
def rL(y0:Int):Int:=IntKind.wrap .i64 (y0 + (1:Int))
def Jd:bC→List (Nat×SV)
 |(y0,y1,y2,y3,_,_,_,_)=> [(8,(.one ⟨false,[.val (.int .i64 y0)]⟩)),(7,(.one ⟨false,[.val (.int .i64 y1)]⟩)),(1,(.one ⟨false,[.bnd 238 [(0,some (.string y2)),(0,none),(1,none),(2,none),(0,some (.string y3)),(3,none)]]⟩)),(0,(.one ⟨false,[.ref 3]⟩))]
def IY:bC→List (Nat×Entry)
 |(_,_,_,_,y4,y5,y6,y7)=> [(0,(.row false 9 ahF y4)),(1,(.row false 9 ahF y5)),(2,(.row false 9 ahF y6)),(3,(.row false 204 (CTy.pair CTy.str (CTy.sl (178:Nat) afk)) y7))]
def Jo:Nat→bC→List (Nat×SV)
 |0,(y0,_,_,_,_,_,_,_)=> [(4,(.one ⟨false,[.val (.int .i64 y0)]⟩))]
 |_,(_,_,_,_,_,_,_,_)=> []
def Jj:Nat→bC→List (Nat×Entry)
 |0,(_,_,_,_,y4,y5,y6,y7)=> [(0,(.row false 9 ahF y4)),(1,(.row false 9 ahF y5)),(2,(.row false 9 ahF y6)),(3,(.row false 204 (CTy.pair CTy.str (CTy.sl (178:Nat) afk)) y7))]
 |_,(_,_,_,_,y4,y5,y6,y7)=> [(0,(.row false 9 ahF y4)),(1,(.row false 9 ahF y5)),(2,(.row false 9 ahF y6)),(3,(.row false 204 (CTy.pair CTy.str (CTy.sl (178:Nat) afk)) y7))]
def iV:bC→LT bC
 |(y0,y1,y2,y3,y4,y5,y6,y7)=> .ite (jv y0 y1) (.need [mU y0,mV y0 y7,mW y0 y7,jw y0 y2 y3 y4 y5 y6 y7] (.ite (jx y0 y2 y3 y4 y5 y6 y7) (.ext 0 [(0,0),(1,1),(2,2),(3,3)]) (.nrm ((rL y0),y1,y2,y3,y4,y5,y6,y7) [(0,0),(1,1),(2,2),(3,3)]))) (.ext 1 [(0,0),(1,1),(2,2),(3,3)])
def qQ(s:St):Option bC:=
 (match s.look 8 with
 |some ⟨none,.one ⟨false,[.val (.int .i64 y0)]⟩⟩=>
 (match s.look 7 with
 |some ⟨none,.one ⟨false,[.val (.int .i64 y1)]⟩⟩=>
 (match s.look 1 with
 |some ⟨none,.one ⟨false,[.bnd 238 [(0,some (.string y2)),(1,none),(2,none),(3,none),(0,some (.string y3)),(0,none)]]⟩⟩=>
 (match s.look 0 with
 |some ⟨none,.one ⟨false,[.ref 0]⟩⟩=>
 (match s.ent 1 with
 |some (.row false 9 (.str) y4)=>
 (match s.ent 2 with
 |some (.row false 9 (.str) y5)=>
 (match s.ent 3 with
 |some (.row false 9 (.str) y6)=>
 (match s.ent 0 with
 |some (.row false 204 (.pair .str (.sl (178:Nat) (.pair (.int .i64) (.pair .str (.int .i64))))) y7)=>
 some (y0,y1,y2,y3,y4,y5,y6,y7)
 |_=>none)
 |_=>none)
 |_=>none)
 |_=>none)
 |_=>none)
 |_=>none)
 |_=>none)
 |_=>none)
def aA:Lp bC where
 h:=⟨[9,10,5,11,12,13,14,15,16,17,4,18,8],[0,1,2,3],[],[]⟩
 JL:=Jd
 JE:=IY
 XL:=Jo
 XE:=Jj
 q:=fun j=>match j with | 0=> .ret | _=> .exit 0
 tags:= [0,1]
 lt:=iV
 fuel:=fun(y0,y1,y2,y3,y4,y5,y6,y7)=>y0.natAbs + y1.natAbs + y2.size + y3.size + y4.length + y5.length + y6.length + y7.length
 fix:=fun(_,y1,y2,y3,y4,y5,y6,y7) (y0,_,_,_,_,_,_,_)=>(y0,y1,y2,y3,y4,y5,y6,y7)
 σ:= [(0,1),(1,2),(2,3),(3,0)]
 rd:=qQ
theorem HS:LoopOk prog (fun k=>Nat.blt k Tryz.f262.ntmps) aA.F (aL f262 0):=by
 refine Lp.ok (tbl:= [ck,PF.lend ck,PF.fz ck]) (lf:= []) aP aA (by kernel_rfl) (LOk.nil _) (fun _=>rfl) (fun j _=>by unfold aA;match j with | 0=>rfl | _ + 1=>rfl) ?_ ?_ ?_ ?_ (fun _=>rfl) ?_
 ·rintro⟨y0,y1,y2,y3,y4,y5,y6,y7⟩;kernel_rfl
 ·rintro⟨y0,y1,y2,y3,y4,y5,y6,y7⟩;kernel_rfl
 ·intro s x h
  have h:qQ s=some x:=h
  unfold qQ at h
  repeat' split at h
  all_goals cases h
  exact⟨aa (by assumption) rfl (aa (by assumption) rfl (aa (by assumption) rfl (aa (by assumption) rfl (rfl)))),ab rfl (by assumption) rfl (ab rfl (by assumption) rfl (ab rfl (by assumption) rfl (ab rfl (by assumption) rfl (rfl))))⟩
 ·rintro⟨y0,y1,y2,y3,y4,y5,y6,y7⟩;kernel_rfl
 ·rintro⟨y0,y1,y2,y3,y4,y5,y6,y7⟩ z;exact(And.intro (And.intro trivial rfl) trivial)
section
variable (x0 x1:ByteArray)(x2:List (ByteArray×List (Int×ByteArray×Int)))(x3 x4 x5:List ByteArray)
def kf:Int×Int×ByteArray×ByteArray×List ByteArray×List ByteArray×List ByteArray×List (ByteArray×List (Int×ByteArray×Int)):=((0:Int),(↑x2.length:Int),x0,x1,x3,x4,x5,x2)
def tz:Int:=bif Nat.beq ((Lp.res aA (kf x0 x1 x2 x3 x4 x5)).1) (0:Nat)then ((Lp.res aA (kf x0 x1 x2 x3 x4 x5)).2).1else(-1:Int)
def tA:Bool:=allT [Lp.fin aA (kf x0 x1 x2 x3 x4 x5)]
end
def AY:List SV→List Entry→Option Out
 | [.one ⟨false,[.ref 0]⟩,.one ⟨false,[.bnd 238 [(0,some (.string x0)),(1,none),(2,none),(3,none),(0,some (.string x1)),(0,none)]]⟩],[.row false 204 (.pair .str (.sl (178:Nat) (.pair (.int .i64) (.pair .str (.int .i64))))) x2,.row false 9 (.str) x3,.row false 9 (.str) x4,.row false 9 (.str) x5]=>some ⟨.one ⟨false,[.val (.int .i64 (tz x0 x1 x2 x3 x4 x5))]⟩,[.row false 204 (CTy.pair CTy.str (CTy.sl (178:Nat) afk)) x2,.row false 9 ahF x3,.row false 9 ahF x4,.row false 9 ahF x5],[],[tA x0 x1 x2 x3 x4 x5]⟩
 |_,_=>none
def tp:PF prog:=PF.ofG prog [ck,PF.lend ck,PF.fz ck] [aA.F] aP 262 f262 func262 (LOk.fnT (l:= [aL f262 0]) (by kernel_rfl) (.cons HS (.nil _))) AY (by
 intro vs es r h;unfold AY at h;split at h
 ·cases h;kernel_rfl
 ·cases h)
def mL(x0 x1:ByteArray)(x2:List (ByteArray×List (Int×ByteArray×Int)))(x3 x4 x5:List ByteArray):Bool:=leI (0:Int) (tz x0 x1 x2 x3 x4 x5)
def mM(x0 x1:ByteArray)(x2:List (ByteArray×List (Int×ByteArray×Int)))(x3 x4 x5:List ByteArray):Bool:=allT [tA x0 x1 x2 x3 x4 x5]
def yL:List SV→List Entry→Option Out
 | [.one ⟨false,[.ref 0]⟩,.one ⟨false,[.bnd 238 [(0,some (.string x0)),(1,none),(2,none),(3,none),(0,some (.string x1)),(0,none)]]⟩],[.row false 204 (.pair .str (.sl (178:Nat) (.pair (.int .i64) (.pair .str (.int .i64))))) x2,.row false 9 (.str) x3,.row false 9 (.str) x4,.row false 9 (.str) x5]=>some ⟨.one ⟨false,[.val (.bool (mL x0 x1 x2 x3 x4 x5))]⟩,[.row false 204 (CTy.pair CTy.str (CTy.sl (178:Nat) afk)) x2,.row false 9 ahF x3,.row false 9 ahF x4,.row false 9 ahF x5],[],[mM x0 x1 x2 x3 x4 x5]⟩
 |_,_=>none
def fP:PF prog:=PF.ofG prog [tp,PF.lend tp,PF.fz tp] [] aP 229 f229 func229 (fun c _=>LOk.nil c) yL (by
 intro vs es r h;unfold yL at h;split at h
 ·cases h;kernel_rfl
 ·cases h)
abbrev aW:=Int×Int×List (ByteArray×(List (Int×(ByteArray×Int))))×List ByteArray
def bn(y0:Int)(y2:List (ByteArray×(List (Int×(ByteArray×Int))))):List ByteArray:= [(Option.getD y2[Int.toNat y0]? (qA (CTy.pair CTy.str (CTy.sl (178:Nat) afk)))).1]
def fu(y0 y1:Int):Bool:=ltI y0 y1
def fv(y0:Int):Bool:=leI (0:Int) y0
def fw(y0:Int)(y2:List (ByteArray×(List (Int×(ByteArray×Int))))):Bool:=ltI y0 (↑y2.length:Int)
def fy(y0:Int)(y2:List (ByteArray×(List (Int×(ByteArray×Int))))):Bool:=ltN y0.toNat y2.length
def fA(y0:Int)(y2:List (ByteArray×(List (Int×(ByteArray×Int)))))(y3:List ByteArray):Bool:=leN (List.length y3 + List.length (bn y0 y2)) (9223372036854775807:Nat)
def fB(y0:Int)(y2:List (ByteArray×(List (Int×(ByteArray×Int)))))(y3:List ByteArray):Bool:=leN ((List.length y3 + List.length (bn y0 y2)) * (16:Nat)) (140737488355328:Nat)
def fC(y0:Int):Int:=IntKind.wrap .i64 (y0 + (1:Int))
def fD(y0:Int)(y2:List (ByteArray×(List (Int×(ByteArray×Int)))))(y3:List ByteArray):List ByteArray:=y3++bn y0 y2
def Fd:aW→List (Nat×SV)
 |(y0,y1,_,_)=> [(10,(.one ⟨false,[.val (.int .i64 y0)]⟩)),(9,(.one ⟨false,[.val (.int .i64 y1)]⟩)),(8,(.one ⟨false,[.ref 0]⟩)),(3,(.one ⟨false,[.ptr 1 0]⟩))]
def Fc:aW→List (Nat×Entry)
 |(_,_,y2,y3)=> [(0,(.row false 204 (CTy.pair CTy.str (CTy.sl (178:Nat) afk)) y2)),(1,(.box 60 [.ref 2])),(2,(.row true 9 ahF y3))]
def Fg:Nat→aW→List (Nat×SV)
 |_,(_,_,_,_)=> []
def Ff:Nat→aW→List (Nat×Entry)
 |_,(_,_,y2,y3)=> [(0,(.row false 204 (CTy.pair CTy.str (CTy.sl (178:Nat) afk)) y2)),(1,(.box 60 [.ref 2])),(2,(.row true 9 ahF y3))]
def fl:aW→LT aW
 |(y0,y1,y2,y3)=> .ite (fu y0 y1) (.need [fv y0,fw y0 y2,fy y0 y2] (.need [fA y0 y2 y3,fB y0 y2 y3] (.nrm ((fC y0),y1,y2,(fD y0 y2 y3)) [(0,0),(1,1),(2,640)]))) (.ext 0 [(0,0),(1,1),(2,2)])
def nP(s:St):Option aW:=
 (match s.look 10 with
 |some ⟨none,.one ⟨false,[.val (.int .i64 y0)]⟩⟩=>
 (match s.look 9 with
 |some ⟨none,.one ⟨false,[.val (.int .i64 y1)]⟩⟩=>
 (match s.look 8 with
 |some ⟨none,.one ⟨false,[.ref 3]⟩⟩=>
 (match s.look 3 with
 |some ⟨none,.one ⟨false,[.ptr 448 0]⟩⟩=>
 (match s.ent 3 with
 |some (.row false 204 (.pair .str (.sl (178:Nat) (.pair (.int .i64) (.pair .str (.int .i64))))) y2)=>
 (match s.ent 448 with
 |some (.box 60 [.ref 449])=>
 (match s.ent 449 with
 |some (.row true 9 (.str) y3)=>
 some (y0,y1,y2,y3)
 |_=>none)
 |_=>none)
 |_=>none)
 |_=>none)
 |_=>none)
 |_=>none)
 |_=>none)
def aj:Lp aW where
 h:=⟨[11,12,13,5,14,15,16,17,18,19,10],[0,1],[2],[]⟩
 JL:=Fd
 JE:=Fc
 XL:=Fg
 XE:=Ff
 q:=fun j=>match j with | _=> .exit 0
 tags:= [0]
 lt:=fl
 fuel:=fun(y0,y1,y2,y3)=>y0.natAbs + y1.natAbs + y2.length + y3.length
 fix:=fun(_,y1,y2,_) (y0,_,_,y3)=>(y0,y1,y2,y3)
 σ:= [(0,3),(1,448),(2,449)]
 rd:=nP
theorem Ep:LoopOk prog (fun k=>Nat.blt k Tryz.f184.ntmps) aj.F (aL f184 0):=by
 refine Lp.ok (tbl:= [cg,PF.lend cg,PF.fz cg,CP,PF.lend CP,PF.fz CP,eA,PF.lend eA,PF.fz eA,aD,PF.lend aD,PF.fz aD,cZ,PF.lend cZ,PF.fz cZ,dL,PF.lend dL,PF.fz dL,dM,PF.lend dM,PF.fz dM,fP,PF.lend fP,PF.fz fP]) (lf:= []) aP aj (by kernel_rfl) (LOk.nil _) (fun _=>rfl) (fun _ _=>rfl) ?_ ?_ ?_ ?_ (fun _=>rfl) ?_
 ·rintro⟨y0,y1,y2,y3⟩;kernel_rfl
 ·rintro⟨y0,y1,y2,y3⟩;kernel_rfl
 ·intro s x h
  have h:nP s=some x:=h
  unfold nP at h
  repeat' split at h
  all_goals cases h
  exact⟨aa (by assumption) rfl (aa (by assumption) rfl (aa (by assumption) rfl (aa (by assumption) rfl (rfl)))),ab rfl (by assumption) rfl (ab rfl (by assumption) rfl (ab rfl (by assumption) rfl (rfl)))⟩
 ·rintro⟨y0,y1,y2,y3⟩;kernel_rfl
 ·rintro⟨y0,y1,y2,y3⟩ z;exact(And.intro rfl trivial)
def kD(x1:ByteArray):Bool:=
 !ByteArray.toList x1==ByteArray.toList { data:= #[] }
section
variable (x0 x1:ByteArray)(x2 x3 x4:List ByteArray)(x5:List (ByteArray×List (Int×ByteArray×Int)))
def dI:Bool:=bif bif kD x1 then !ma x2 x1 else false then !ma x3 x1 else false
def kE:Int×Int×List (ByteArray×List (Int×ByteArray×Int))×List ByteArray:=((0:Int),(↑x5.length:Int),x5,[])
def al:List ByteArray:=(Lp.res aj (kE x5)).2.2.2.2
def am:List ByteArray:=List.flatten [x3,x4]
def kF:Bool:=kI (kG (al x5) (am x3 x4)) (ch (al x5) (am x3 x4))
def kX:Int:=bif rl (aV x2 x3 x4)then(1:Int)else bif dI x1 x2 x3 then(2:Int)else bif cT (al x5) (am x3 x4)then(3:Int)else bif rl (ch (al x5) (am x3 x4))then(4:Int)else bif kF x3 x4 x5 then(5:Int)else bif mL x0 x1 x5 x2 x3 x4 then(6:Int)else(0:Int)
def kY:Bool:=allT [Lp.fin aj (kE x5),leN (List.length [x3,x4]) (1000:Nat)&&leN (Hx [x3,x4]) (2000000:Nat),kZ x2 x3 x4,leN (List.length (aV x2 x3 x4)) (9223372036854775807:Nat),rl (aV x2 x3 x4)||(!(kD x1&&true)||leN x2.length (9223372036854775807:Nat)),rl (aV x2 x3 x4)||(!((bif kD x1 then !ma x2 x1 else false)&&true)||leN x3.length (9223372036854775807:Nat)),rl (aV x2 x3 x4)||(dI x1 x2 x3||kH (al x5) (am x3 x4)),rl (aV x2 x3 x4)||(dI x1 x2 x3||(cT (al x5) (am x3 x4)||leN (List.length (ch (al x5) (am x3 x4))) (9223372036854775807:Nat))),rl (aV x2 x3 x4)||(dI x1 x2 x3||(cT (al x5) (am x3 x4)||(rl (ch (al x5) (am x3 x4))||kJ (kG (al x5) (am x3 x4)) (ch (al x5) (am x3 x4))))),rl (aV x2 x3 x4)||(dI x1 x2 x3||(cT (al x5) (am x3 x4)||(rl (ch (al x5) (am x3 x4))||(kF x3 x4 x5||mM x0 x1 x5 x2 x3 x4))))]
end
def vZ:List SV→List Entry→Option Out
 | [.one ⟨true,[.val (.string x0),.ref 0,.ref 1,.ref 2,.val (.string x1),.ref 3]⟩],[.row false 9 (.str) x2,.row false 9 (.str) x3,.row false 9 (.str) x4,.row false 204 (.pair (.str) (.sl 178 (.pair (.int .i64) (.pair (.str) (.int .i64))))) x5]=>some ⟨.one ⟨false,[.val (.int .i64 (kX x0 x1 x2 x3 x4 x5))]⟩,[.row false 9 ahF x2,.row false 9 ahF x3,.row false 9 ahF x4,.row false 204 (CTy.pair CTy.str (CTy.sl (178:TypeId) afk)) x5],[],[kY x0 x1 x2 x3 x4 x5]⟩
 |_,_=>none
def pN:PF prog:=PF.ofG prog [cg,PF.lend cg,PF.fz cg,CP,PF.lend CP,PF.fz CP,eA,PF.lend eA,PF.fz eA,aD,PF.lend aD,PF.fz aD,cZ,PF.lend cZ,PF.fz cZ,dL,PF.lend dL,PF.fz dL,dM,PF.lend dM,PF.fz dM,fP,PF.lend fP,PF.fz fP] [aj.F] aP 184 f184 func184 (LOk.fnT (l:= [aL f184 0]) (by kernel_rfl) (.cons Ep (.nil _))) vZ (by
 intro vs es r h;unfold vZ at h;split at h
 ·cases h;kernel_rfl
 ·cases h)
def RO(x0 x1:ByteArray)(x2 x3 x4:List ByteArray)(x5:List (ByteArray×List (Int×ByteArray×Int))):Bool:=bif Fm x0 x1 x2 x3 x4 x5 then kX x0 x1 x2 x3 x4 x5==(0:Int)else false
def RP(x0 x1:ByteArray)(x2 x3 x4:List ByteArray)(x5:List (ByteArray×List (Int×ByteArray×Int))):Bool:=allT [Ka x0 x1 x2 x3 x4 x5,!(Fm x0 x1 x2 x3 x4 x5&&true)||kY x0 x1 x2 x3 x4 x5]
def Yc:List SV→List Entry→Option Out
 | [.one ⟨true,[.val (.string x0),.ref 0,.ref 1,.ref 2,.val (.string x1),.ref 3]⟩],[.row false 9 (.str) x2,.row false 9 (.str) x3,.row false 9 (.str) x4,.row false 204 (.pair (.str) (.sl 178 (.pair (.int .i64) (.pair (.str) (.int .i64))))) x5]=>some ⟨.one ⟨false,[.val (.bool (RO x0 x1 x2 x3 x4 x5))]⟩,[.row false 9 ahF x2,.row false 9 ahF x3,.row false 9 ahF x4,.row false 204 (CTy.pair CTy.str (CTy.sl (178:TypeId) afk)) x5],[],[RP x0 x1 x2 x3 x4 x5]⟩
 |_,_=>none
def ah0:PF prog:=PF.ofG prog [PI,PF.lend PI,PF.fz PI,pN,PF.lend pN,PF.fz pN] [] aP 115 f115 func115 (fun c _=>LOk.nil c) Yc (by
 intro vs es r h;unfold Yc at h;split at h
 ·cases h;kernel_rfl
 ·cases h)
theorem ak5{ins vs os:List ByteArray}(h1:Pf ins=true)(h2:Pf vs=true)(h3:Pf os=true):
  leN ins.length 9223372036854775807=true∧leN vs.length 9223372036854775807=true∧leN os.length 9223372036854775807=true:=by
 simp only [Pf,Bool.and_eq_true]at h1 h2 h3
 exact⟨h1.1,h2.1,h3.1⟩
def prOk(nm:ByteArray)(ins vs os:List ByteArray)(g:ByteArray)(ls:List LN):Bool:=leN nm.size 9223372036854775807&&(Pf ins&&(Pf vs&&(Pf os&&(leN g.size 9223372036854775807&&(leN (ins.length + vs.length + os.length) 2000000&&Xf ls)))))
theorem Qp{nm:ByteArray}{ins vs os:List ByteArray}{g:ByteArray}{ls:List LN}:prOk nm ins vs os g ls=true↔
  nm.size≤9223372036854775807∧Pf ins=true∧Pf vs=true∧Pf os=true∧g.size≤9223372036854775807∧ins.length + vs.length + os.length≤2000000∧Xf ls=true:=by
 simp only [prOk,Bool.and_eq_true,io]
def sa(b:ByteArray×(List (Int×(ByteArray×Int)))):(Unit)→Nat ⊕ (Unit)
 |_=>(bif(bif(!mm b.1)then true else !aej (bif !(!mm b.1)&&true then b.2else []))then(.inl 0)else(.inr ()))
def rk(y1 y2:ByteArray)(y3 y4 y5:List ByteArray)(y6:List (ByteArray×(List (Int×(ByteArray×Int)))))(i:Nat):(Unit)→lB
 |_=>((i:Int),y1,y2,y3,y4,y5,y6)
def JJ:lB→Unit
 |(_,_,_,_,_,_,_)=>()
theorem abq(y1 y2:ByteArray)(y3 y4 y5:List ByteArray)(y6:List (ByteArray×(List (Int×(ByteArray×Int))))) (hn:y6.length≤9223372036854775807) (hA: ∀ l∈y6,l.1.size≤9223372036854775807∧Rn l.2=true):
  eq.fin ((0:Int),y1,y2,y3,y4,y5,y6)=true∧eq.res ((0:Int),y1,y2,y3,y4,y5,y6)=((af (sa) 1 y6 0 ()).1,(rk y1 y2 y3 y4 y5 y6) (af (sa) 1 y6 0 ()).2.1 (af (sa) 1 y6 0 ()).2.2):=by
 have iY:=eq.along (rk y1 y2 y3 y4 y5 y6) JJ (sa) 1 (fun _ _=>True) y6 () (by trivial) (by simp only [eq,rk];omega) (fun i b a hb hI=> ?_) (fun a hI=> ?_)
 ·exact iY
 ·obtain⟨⟩:=a
  have eB:=(List.getElem?_eq_some_iff.1 hb).1
  have gZ: ∀ d,Option.getD y6[i]? d=b:=fun d=>by rw [hb];rfl
  have hw:=sX eB hn
  have bW:ltI (i:Int) (y6.length:Int)=true:=et (by omega)
  have vL:leI (0:Int) (i:Int)=true:=bv (by omega)
  have im:ltN i y6.length=true:=gu eB
  refine⟨?_,?_,?_,?_⟩
  ·have hg2:ml (i:Int) y6=b:=by simp only [ml,Int.toNat_natCast];exact gZ _
   have hm:=hA b (List.mem_of_getElem? hb)
   obtain⟨q1,q2⟩:=Nw b.1 hm.1
   have e0:ue (i:Int) y6=true:=bW
   have e1:uf (i:Int) y6=true:=by simp only [uf,Int.toNat_natCast];exact im
   have e3:iX (i:Int) y6= !mt b.1:=by simp only [iX,hg2,q1]
   have e4:qZ (i:Int) y6=bif mt b.1 then b.2 else []:=by simp only [qZ,e3,hg2];cases mt b.1 <;> rfl
   have h7:Rn b.2=true:=hm.2
   have h8:Rn []=true:=rfl
   simp only [vK,ES,ET,EU,EV,EW,EX,EY,Ax,EZ,ya,eq,LT.nds,allT,rk,e0,e1,e3,e4,hg2,q2,vL,cond_true,Bool.or_true]
   cases mt b.1 <;> simp [LT.nds,h7,h8]
  ·simp [ue,uf,ml,iX,qZ,vK,ES,ET,EU,EV,EW,EX,EY,Ax,EZ,ya,eq,LT.each,rk,JJ,hw]
  ·have hg2:ml (i:Int) y6=b:=by simp only [ml,Int.toNat_natCast];exact gZ _
   have e0:ue (i:Int) y6=true:=bW
   simp only [eq,ya,vK,Ax,iX,qZ,LT.fn,rk,JJ,sa,e0,hg2,cond_true]
  ·exact fun _ _=>trivial
 ·obtain⟨⟩:=a
  simp [ue,uf,ml,iX,qZ,vK,ES,ET,EU,EV,EW,EX,EY,Ax,EZ,ya,eq,LT.out,rk]
theorem aij(nm:ByteArray)(ins vs os:List ByteArray)(g:ByteArray)(ls:List LN)(h:prOk nm ins vs os g ls=true):
  FI nm g ins vs os ls=agG nm ins vs os g ls∧KD nm g ins vs os ls=true:=by
 obtain⟨h1,h2,h3,h4,h5,h6,h7⟩:=Qp.1 h
 obtain⟨hn,hA⟩:=Nr.1 h7
 obtain⟨w1,w2⟩:=abq nm g ins vs os ls (by omega) hA
 have e0:(af sa 1 ls 0 ())=(af (fun(k:LN) (_:Unit)=>bif !lineB k then(.inl 0:Nat ⊕ Unit)else .inr ()) 1 ls 0 ()):=by
  refine TB fun b hb a=> ?_
  simp only [sa,(Nw b.1 (hA b hb).1).1,lineB]
  cases mt b.1 <;> simp
 rw [e0,iQ (P:=fun k=> !lineB k) (j:=0) (fun k=>rfl)]at w2
 have e5:(ls.any fun k=> !lineB k)= !ls.all lineB:=by simp [List.all_eq_not_any_not]
 rw [e5]at w2
 obtain⟨q1,q2⟩:=Nw nm h1
 obtain⟨q3,q4⟩:=Nw g h5
 have c1:inR (ins.length:Int) 1 20=inR (ins.length:Int) ((1:Nat):Int) 20:=rfl
 have c0:inR (vs.length:Int) 0 20=inR (vs.length:Int) ((0:Nat):Int) 20:=rfl
 have c2:inR (os.length:Int) 1 20=inR (os.length:Int) ((1:Nat):Int) 20:=rfl
 refine⟨?_,?_⟩
 ·simp only [FI,Ou,Ov,Ow,Ox,Oy,IK,w2,q1,q3,bt,TT,Nu,agG,afu,c0,c1,c2]
  generalize mt nm=p1
  generalize ins.all mt=p2
  generalize inR (ins.length:Int) ((1:Nat):Int) 20=p3
  generalize vs.all mt=p4
  generalize inR (vs.length:Int) ((0:Nat):Int) 20=p5
  generalize os.all mt=p6
  generalize inR (os.length:Int) ((1:Nat):Int) 20=p7
  generalize (g.toList== [])=p8
  generalize mt g=p9
  generalize ls.all lineB=p10
  generalize inR (ls.length:Int) 1 40=p11
  cases p1 <;> cases p2 <;> cases p3 <;> simp <;> cases p4 <;> cases p5 <;> simp <;> cases p6 <;> cases p7 <;> simp <;> cases p8 <;> cases p9 <;> simp <;> cases p10 <;> simp [Nat.beq]
 ·simp only [KD,IK,w1,q2,q4,h2,h3,h4,allT,Bool.or_true,cond_true]
theorem OV:(∀ m:Nat,leI 0 (m:Int)=true)∧leI 0 (-1)=false:=⟨fun m=>bv (by omega),rfl⟩
theorem Th{α:Type}(l:List α)(p:α→Bool):(l.any fun k=> !p k)= !l.all p:=by simp [List.all_eq_not_any_not]
def fL(b:ByteArray×(List (Int×(ByteArray×Int)))):(Unit)→Nat ⊕ (Unit)
 |_=>(bif(ct b.2)then(.inl 0)else(.inr ()))
def cG(y2:List (ByteArray×(List (Int×(ByteArray×Int)))))(i:Nat):(Unit)→bA
 |_=>((i:Int),(↑y2.length:Int),y2)
def qK:bA→Unit
 |(_,_,_)=>()
theorem KI(y2:List (ByteArray×(List (Int×(ByteArray×Int))))) (hn:y2.length≤9223372036854775807):
  ay.fin ((0:Int),(↑y2.length:Int),y2)=true∧ay.res ((0:Int),(↑y2.length:Int),y2)=((af (fL) 1 y2 0 ()).1,(cG y2) (af (fL) 1 y2 0 ()).2.1 (af (fL) 1 y2 0 ()).2.2):=by
 have iY:=ay.along (cG y2) qK (fL) 1 (fun _ _=>True) y2 () (by trivial) (by simp only [ay,cG];omega) (fun i b a hb hI=> ?_) (fun a hI=> ?_)
 ·exact iY
 ·obtain⟨⟩:=a
  have eB:=(List.getElem?_eq_some_iff.1 hb).1
  have gZ: ∀ d,Option.getD y2[i]? d=b:=fun d=>by rw [hb];rfl
  have hw:=sX eB hn
  have bW:ltI (i:Int) (y2.length:Int)=true:=et (by omega)
  have vL:leI (0:Int) (i:Int)=true:=bv (by omega)
  have im:ltN i y2.length=true:=gu eB
  refine⟨?_,?_,?_,?_⟩
  ·simp only [jq,mN,mO,mP,iT,ay,LT.nds,allT,cG,bW,vL,im,Int.toNat_natCast,cond_true,Bool.and_self]
   cases fQ (i:Int) y2 <;> simp [LT.nds]
  ·simp [jq,mN,mO,mP,fQ,rJ,iT,ay,LT.each,cG,qK,hw]
  ·have hg2:fQ (i:Int) y2=ct b.2:=by
    simp only [fQ,Int.toNat_natCast];exact congrArg (fun z:LN=>ct z.2) (gZ _)
   simp only [jq,iT,ay,LT.fn,cG,qK,fL,bW,hg2,cond_true]
  ·exact fun _ _=>trivial
 ·obtain⟨⟩:=a
  simp [jq,mN,mO,mP,fQ,rJ,iT,ay,LT.out,cG]
theorem aoL(ins vs os:List ByteArray)(ls:List LN)(hn:ls.length≤1048576):
  jW ins vs os ls=(leN ins.length 20&&(leN vs.length 20&&(leN os.length 20&&(leN ls.length 40&&ls.all fun l=>leN l.2.length 40))))∧jX ins vs os ls=true:=by
 obtain⟨w1,w2⟩:=KI ls (by omega)
 have hc: ∀ (k:Nat) (m:Nat),leI (m:Int) (k:Int)=leN m k:=fun k m=>by rw [Bool.eq_iff_iff,DR,io];omega
 have hc20: ∀ m:Nat,leI (m:Int) 20=leN m 20:=fun m=>hc 20 m
 have hc40: ∀ m:Nat,leI (m:Int) 40=leN m 40:=fun m=>hc 40 m
 rw [iQ (P:=fun k=> !leN k.2.length 40) (j:=0) (fun k=>by
  simp only [fL,ct]
  have:ltI 40 (k.2.length:Int)= !leN k.2.length 40:=by rw [To,hc40]
  rw [this]),Th]at w2
 simp only [jW,jX,oe,rF,rG,tu,tv,nZ,w1,w2,allT,cG,hc20,hc40,Bool.or_true,cond_true]
 refine⟨?_,trivial⟩
 generalize (ls.all fun k=>leN k.2.length 40)=q
 cases leN ins.length 20 <;> cases leN vs.length 20 <;> cases leN os.length 20 <;> cases leN ls.length 40 <;> cases q <;> simp [Nat.beq,OV.1,OV.2]
def fM(b:ByteArray×(List (Int×(ByteArray×Int)))):(Unit)→Nat ⊕ (Unit)
 |_=>(bif(xu b.1 b.2)then(.inl 0)else(.inr ()))
def cH(y2:List (ByteArray×(List (Int×(ByteArray×Int)))))(i:Nat):(Unit)→bB
 |_=>((i:Int),(↑y2.length:Int),y2)
def qL:bB→Unit
 |(_,_,_)=>()
theorem KJ(y2:List (ByteArray×(List (Int×(ByteArray×Int))))) (hn:y2.length≤9223372036854775807) (hA: ∀ l∈y2,Rn l.2=true):
  az.fin ((0:Int),(↑y2.length:Int),y2)=true∧az.res ((0:Int),(↑y2.length:Int),y2)=((af (fM) 1 y2 0 ()).1,(cH y2) (af (fM) 1 y2 0 ()).2.1 (af (fM) 1 y2 0 ()).2.2):=by
 have iY:=az.along (cH y2) qL (fM) 1 (fun _ _=>True) y2 () (by trivial) (by simp only [az,cH];omega) (fun i b a hb hI=> ?_) (fun a hI=> ?_)
 ·exact iY
 ·obtain⟨⟩:=a
  have eB:=(List.getElem?_eq_some_iff.1 hb).1
  have gZ: ∀ d,Option.getD y2[i]? d=b:=fun d=>by rw [hb];rfl
  have hw:=sX eB hn
  have bW:ltI (i:Int) (y2.length:Int)=true:=et (by omega)
  have vL:leI (0:Int) (i:Int)=true:=bv (by omega)
  have im:ltN i y2.length=true:=gu eB
  refine⟨?_,?_,?_,?_⟩
  ·have hg2:bX (i:Int) y2=b:=by simp only [bX,Int.toNat_natCast];exact gZ _
   have hm:=hA b (List.mem_of_getElem? hb)
   have h4:jt (i:Int) y2=true:=by simp only [jt,hg2,Em,hm,allT,cond_true]
   simp only [jr,mQ,mR,mT,iU,az,LT.nds,allT,cH,h4,bW,vL,im,Int.toNat_natCast,cond_true,Bool.and_self]
   cases ju (i:Int) y2 <;> simp [LT.nds]
  ·simp [bX,jr,mQ,mR,mT,jt,ju,rK,iU,az,LT.each,cH,qL,hw]
  ·have hg2:bX (i:Int) y2=b:=by simp only [bX,Int.toNat_natCast];exact gZ _
   simp only [jr,ju,iU,az,LT.fn,cH,qL,fM,bW,hg2,cond_true]
  ·exact fun _ _=>trivial
 ·obtain⟨⟩:=a
  simp [bX,jr,mQ,mR,mT,jt,ju,rK,iU,az,LT.out,cH]
theorem ahH(nm:ByteArray)(ins vs os:List ByteArray)(g:ByteArray)(ls:List LN)(h:prOk nm ins vs os g ls=true):
  Fm nm g ins vs os ls=agG nm ins vs os g ls∧Ka nm g ins vs os ls=true:=by
 obtain⟨h1,h2,h3,h4,h5,h6,h7⟩:=Qp.1 h
 obtain⟨hn,hA⟩:=Nr.1 h7
 obtain⟨w1,w2⟩:=KJ ls (by omega) (fun l hl=>(hA l hl).2)
 rw [iQ (P:=fun k=> !lineB k) (j:=0) (fun k=>by simp only [fM,xu]),Th]at w2
 obtain⟨s1,s2⟩:=aoL ins vs os ls hn
 have t1:Hx [ins,vs,os]≤2000000:=by simp [Hx];omega
 have t2: [ins,vs,os].flatten.length≤2000000:=by simp;omega
 have hfl: [ins,vs,os].flatten.all mt=(ins.all mt&&(vs.all mt&&os.all mt)):=by simp [List.all_append,Bool.and_assoc]
 have hcont:mJ ls= !ls.all lineB∧mK ls=true:=by
  simp only [mJ,mK,tw,tx,oa,w1,w2,allT,cH]
  cases ls.all lineB <;> simp [Nat.beq,OV.1,OV.2]
 refine⟨?_,?_⟩
 ·have hz: ∀ m k:Nat,inR (m:Int) 1 (k:Int)=(ltI 0 (m:Int)&&leN m k):=fun m k=>by
   rw [Bool.eq_iff_iff,EG,Bool.and_eq_true,ag8,io];omega
  have hz0: ∀ m k:Nat,inR (m:Int) ((0:Nat):Int) (k:Int)=leN m k:=fun m k=>by
   rw [Bool.eq_iff_iff,EG,io];omega
  have c1:inR (ins.length:Int) ((1:Nat):Int) 20=(ltI 0 (ins.length:Int)&&leN ins.length 20):=hz _ 20
  have c2:inR (os.length:Int) ((1:Nat):Int) 20=(ltI 0 (os.length:Int)&&leN os.length 20):=hz _ 20
  have c3:inR (ls.length:Int) 1 40=(ltI 0 (ls.length:Int)&&leN ls.length 40):=hz _ 40
  have c4:inR (vs.length:Int) ((0:Nat):Int) 20=leN vs.length 20:=hz0 _ 20
  have hl40:ls.all lineB=true→(ls.all fun l=>leN l.2.length 40)=true:=fun hl=>by
   rw [List.all_eq_true]at hl ⊢
   intro l hm
   exact dm (aan (hl l hm)).2.1
  simp only [Fm,De,Il,NS,NT,Tn,s1,hcont.1,Nu,agG,afu,c1,c2,c3,c4]
  cases hq:ls.all lineB with
  |false=>simp
  |true=>
   rw [hl40 hq]
   cases mt nm with
   |false=>simp
   |true=>
    simp only [Bool.and_true,cond_true,hfl]
    generalize ins.all mt=p2
    generalize vs.all mt=p4
    generalize os.all mt=p6
    generalize (g.toList== [])=p8
    generalize mt g=p9
    generalize ltI 0 (ins.length:Int)=r1
    generalize ltI 0 (os.length:Int)=r2
    generalize ltI 0 (ls.length:Int)=r3
    generalize leN ins.length 20=r4
    generalize leN vs.length 20=r5
    generalize leN os.length 20=r6
    generalize leN ls.length 40=r7
    cases p2 <;> simp <;> cases p4 <;> simp <;> cases p6 <;> simp <;> cases r1 <;> simp <;> cases r2 <;> simp <;> cases r3 <;> simp <;> cases r4 <;> simp <;> cases r5 <;> simp <;> cases r6 <;> simp <;> cases r7 <;> simp <;> cases p8 <;> simp
 ·simp only [Ka,De,Il,s2,hcont.2,Tn,allT,Bool.or_true,cond_true]
  cases mt nm with
  |false=>simp
  |true=>
   have t4:leN [ins,vs,os].flatten.length 9223372036854775807=true:=dm (by omega)
   have t5:leN (Hx [ins,vs,os]) 2000000=true:=dm t1
   have t6:leN [ins,vs,os].length 1000=true:=rfl
   simp only [Bool.and_true,cond_true,t4,t5,t6,Bool.and_self,Bool.or_true]
theorem apN(l:List ByteArray)(s:ByteArray):ltI (iF l s) 0= !ma l s:=by rw [To,Qy]
theorem ags(s:ByteArray)(ins vs:List ByteArray)(h1:leN ins.length 9223372036854775807=true)(h2:leN vs.length 9223372036854775807=true):
  rb s ins vs=Vh ins vs s∧Cw s ins vs=true:=by
 simp only [rb,Cw,Qy,h1,h2,Vh,allT,Bool.or_true,cond_true,and_true]
 cases ma ins s <;> rfl
def madeB(vs os:List ByteArray)(l:LN):Bool:=ma vs l.1||ma os l.1
def mD(y5 y6:List ByteArray)(b:ByteArray×(List (Int×(ByteArray×Int)))):(List ByteArray)→Nat ⊕ (List ByteArray)
 |y3=>(bif(bif ltI (iF y5 b.1) (0:Int)then ltI (iF y6 b.1) (0:Int)else false)then(.inl 0)else(.inr (y3++ [b.1])))
def pI(y1 y2:ByteArray)(y4 y5 y6:List ByteArray)(y7:List (ByteArray×(List (Int×(ByteArray×Int)))))(i:Nat):(List ByteArray)→mA
 |y3=>((i:Int),y1,y2,y3,y4,y5,y6,y7)
def KW:mA→List ByteArray
 |(_,_,_,y3,_,_,_,_)=>y3
theorem adS(y1 y2:ByteArray)(y4 y5 y6:List ByteArray)(y7:List (ByteArray×(List (Int×(ByteArray×Int)))))(y3:List ByteArray)(hn:y7.length≤9223372036854775807)(hv:leN y5.length 9223372036854775807=true)(ho:leN y6.length 9223372036854775807=true)(hN:y7.length≤1048576)(h3:y3.length=0):
  dl.fin ((0:Int),y1,y2,y3,y4,y5,y6,y7)=true∧dl.res ((0:Int),y1,y2,y3,y4,y5,y6,y7)=((af (mD y5 y6) 1 y7 0 y3).1,(pI y1 y2 y4 y5 y6 y7) (af (mD y5 y6) 1 y7 0 y3).2.1 (af (mD y5 y6) 1 y7 0 y3).2.2):=by
 have iY:=dl.along (pI y1 y2 y4 y5 y6 y7) KW (mD y5 y6) 1 (fun i a=>a.length=i) y7 y3 h3 (by simp only [dl,pI];omega) (fun i b a hb hI=> ?_) (fun a hI=> ?_)
 ·exact iY
 ·obtain y3:=a
  have eB:=(List.getElem?_eq_some_iff.1 hb).1
  have gZ: ∀ d,Option.getD y7[i]? d=b:=fun d=>by rw [hb];rfl
  have hw:=sX eB hn
  have bW:ltI (i:Int) (y7.length:Int)=true:=et (by omega)
  have vL:leI (0:Int) (i:Int)=true:=bv (by omega)
  have im:ltN i y7.length=true:=gu eB
  refine⟨?_,?_,?_,?_⟩
  ·have hg2:iC (i:Int) y7=b.1:=by simp only [iC,Int.toNat_natCast];exact congrArg Prod.fst (gZ _)
   have l1: ∀ s:ByteArray,leN (a.length + List.length [s]) 9223372036854775807=true:=fun s=>dm (by rw [List.length_singleton];omega)
   have l2: ∀ s:ByteArray,leN ((a.length + List.length [s]) * 16) 140737488355328=true:=fun s=>dm (by rw [List.length_singleton];omega)
   simp only [wX,Cj,Ck,Cl,Cm,Cn,Co,Cp,Cq,Cr,Ar,dl,LT.nds,allT,pI,bW,vL,im,hg2,hv,ho,l1,l2,Int.toNat_natCast,cond_true,Bool.or_true,Bool.and_self]
   generalize (bif ltI (iF y5 b.1) 0 then ltI (iF y6 b.1) 0 else false)=q
   cases q <;> simp [LT.nds]
  ·simp [iC,wX,Cj,Ck,Cl,Cm,Cn,Co,Cp,Cq,Cr,Ar,dl,LT.each,pI,KW,hw]
  ·have hg2:iC (i:Int) y7=b.1:=by simp only [iC,Int.toNat_natCast];exact congrArg Prod.fst (gZ _)
   simp only [wX,Cj,Ck,Cl,Cm,Cn,Co,Cp,Cq,Cr,Ar,dl,LT.fn,pI,KW,mD,bW,hg2,cond_true]
  ·intro a' hf
   simp only [mD]at hf
   revert hf
   generalize (bif ltI (iF y5 b.1) 0 then ltI (iF y6 b.1) 0 else false)=q
   cases q with
   |true=>intro hf;cases hf
   |false=>intro hf;simp only [cond_false,Sum.inr.injEq]at hf;subst hf;simp [hI]
 ·obtain y3:=a
  simp [iC,wX,Cj,Ck,Cl,Cm,Cn,Co,Cp,Cq,Cr,Ar,dl,LT.out,pI]
theorem ae4(vs os:List ByteArray): ∀ (ls:List LN) (i:Nat) (acc:List ByteArray),(af (mD vs os) 1 ls i acc).1=(bif !ls.all (madeB vs os)then 0 else 1)∧
  (ls.all (madeB vs os)=true→(af (mD vs os) 1 ls i acc).2.2=acc++ls.map Prod.fst)
 | [],i,acc=>by simp [af]
 |l::r,i,acc=>by
  have hf:mD vs os l acc=bif madeB vs os l then .inr (acc++ [l.1])else .inl 0:=by
   simp only [mD,apN,madeB]
   cases ma vs l.1 <;> cases ma os l.1 <;> rfl
  obtain⟨h1,h2⟩:=ae4 vs os r (i + 1) (acc++ [l.1])
  simp only [af,hf,List.all_cons]
  cases hm:madeB vs os l with
  |false=>simp
  |true=>
   simp only [cond_true,Bool.true_and]
   refine⟨h1,fun h=> ?_⟩
   rw [h2 h];simp
theorem amT(k:Nat)(u v:ByteArray)(ins vs os:List ByteArray)(ls:List LN)(l:LN)(hl:ls[k]? =some l)(hn:l.2.length≤1048576)(h1:leN ins.length 9223372036854775807=true)(h2:leN vs.length 9223372036854775807=true):
  dC.fin ((0:Int),(k:Int),u,v,ins,vs,os,ls)=true∧(dC.res ((0:Int),(k:Int),u,v,ins,vs,os,ls)).1=bif !l.2.all (usedB ins vs)then 0 else 1:=by
 have hkl:=(List.getElem?_eq_some_iff.1 hl).1
 have hgl: ∀ d,Option.getD ls[k]? d=l:=fun d=>by rw [hl];rfl
 have ha2:vp (k:Int) ls=l.2:=by simp only [vp,Int.toNat_natCast];exact congrArg Prod.snd (hgl _)
 have c0:Ie (k:Int)=true:=bv (by omega)
 have c1:Ig (k:Int) ls=true:=et (by omega)
 have c2:CG (k:Int) ls=true:=by simp only [CG,Int.toNat_natCast];exact gu hkl
 have iY:=dC.along2 (fun i (_:Unit)=>((i:Int),(k:Int),u,v,ins,vs,os,ls)) (fun _=>()) (fun(b:TM) (_:Unit)=>bif !usedB ins vs b then .inl 0 else .inr ()) 1 (fun _ _=>True) l.2 () trivial (by omega)
  (fun i b a hb hI=> ?_) (fun a hI=> ?_)
 ·rw [iQ (P:=fun b=> !usedB ins vs b) (j:=0) (fun b=>rfl),Th]at iY
  exact⟨iY.1,by rw [show ((0:Int),(k:Int),u,v,ins,vs,os,ls)=(((0:Nat):Int),(k:Int),u,v,ins,vs,os,ls) from rfl,iY.2]⟩
 ·have eB:=(List.getElem?_eq_some_iff.1 hb).1
  have hw:IntKind.i64.wrap ((i:Int) + 1)=((i + 1:Nat):Int):=by rw [bc (by omega) (by omega)];omega
  have vL:leI (0:Int) (i:Int)=true:=bv (by omega)
  have hg2:vq (i:Int) (k:Int) ls=b:=by simp only [vq,ha2,Int.toNat_natCast,hb,Option.getD_some]
  have hg3:sL (i:Int) (k:Int) ls=true:=by simp only [sL,ha2];exact et (by omega)
  have c4:Pb (i:Int)=true:=vL
  have c5:Ih (i:Int) (k:Int) ls=true:=by simp only [Ih,ha2,Int.toNat_natCast];exact gu eB
  obtain⟨r1,r2⟩:=ags b.2.1 ins vs h1 h2
  have c6:Ii (i:Int) (k:Int) ins vs ls=true:=by simp only [Ii,hg2,r2,Bool.or_true]
  have c7:Ij (i:Int) (k:Int) ins vs ls= !usedB ins vs b:=by
   simp only [Ij,Hd,hg2,r1,usedB]
   cases b.1==1 <;> simp
  have c8:Pc (i:Int)=((i + 1:Nat):Int):=hw
  refine⟨?_,?_,?_,fun _ _=>trivial⟩
  ·simp only [dC,uV,LT.nds,allT,c0,c1,c2,c4,c5,c6,c7,hg3,cond_true,Bool.and_self]
   cases usedB ins vs b <;> simp [LT.nds]
  ·simp only [dC,uV,LT.each,c7,c8,hg3]
   cases usedB ins vs b <;> simp [LT.each]
  ·simp only [dC,uV,LT.fn,c7,hg3,cond_true]
 ·have bW:sL (l.2.length:Int) (k:Int) ls=false:=by simp only [sL,ha2];exact Pa (by omega)
  simp [dC,uV,LT.out,allT,c0,c1,c2,bW]
theorem aoO(u v:ByteArray)(ins vs os:List ByteArray)(ls:List LN)(hN:ls.length≤1048576)(hL: ∀ l∈ls,l.2.length≤1048576)(h1:leN ins.length 9223372036854775807=true)(h2:leN vs.length 9223372036854775807=true):
  dR.fin ((0:Int),u,v,ins,vs,os,ls)=true∧(dR.res ((0:Int),u,v,ins,vs,os,ls)).1=bif !ls.all (fun l=>l.2.all (usedB ins vs))then 0 else 1:=by
 have iY:=dR.along2 (fun i (_:Unit)=>((i:Int),u,v,ins,vs,os,ls)) (fun _=>()) (fun(b:LN) (_:Unit)=>bif !b.2.all (usedB ins vs)then .inl 0 else .inr ()) 1 (fun _ _=>True) ls () trivial (by omega)
  (fun i b a hb hI=> ?_) (fun a hI=> ?_)
 ·rw [iQ (P:=fun b:LN=> !b.2.all (usedB ins vs)) (j:=0) (fun b=>rfl),Th]at iY
  exact⟨iY.1,by rw [show ((0:Int),u,v,ins,vs,os,ls)=(((0:Nat):Int),u,v,ins,vs,os,ls) from rfl,iY.2]⟩
 ·have eB:=(List.getElem?_eq_some_iff.1 hb).1
  have hw:IntKind.i64.wrap ((i:Int) + 1)=((i + 1:Nat):Int):=by rw [bc (by omega) (by omega)];omega
  obtain⟨k1,k2⟩:=amT i u v ins vs os ls b hb (hL b (List.mem_of_getElem? hb)) h1 h2
  have c0:MT (i:Int) ls=true:=et (by omega)
  have c1:Sw (i:Int) u v ins vs os ls=true:=k1
  have c2:MU (i:Int) u v ins vs os ls= !b.2.all (usedB ins vs):=by
   simp only [MU,Ll,k2]
   cases b.2.all (usedB ins vs) <;> rfl
  have c3:Sx (i:Int)=((i + 1:Nat):Int):=hw
  refine⟨?_,?_,?_,fun _ _=>trivial⟩
  ·simp only [dR,As,LT.nds,allT,c0,c1,c2,cond_true]
   cases b.2.all (usedB ins vs) <;> simp [LT.nds]
  ·simp only [dR,As,LT.each,c0,c2,c3]
   cases b.2.all (usedB ins vs) <;> simp [LT.each]
  ·simp only [dR,As,LT.fn,c0,c2,cond_true]
 ·have bW:MT (ls.length:Int) ls=false:=Pa (by omega)
  simp [dR,As,LT.out,bW]
theorem akg(nm:ByteArray)(ins vs os:List ByteArray)(g:ByteArray)(ls:List LN)(h:prOk nm ins vs os g ls=true):
  (Mc nm g ins vs os ls==0)=anT ins vs os g ls∧Md nm g ins vs os ls=true:=by
 obtain⟨h1,h2,h3,h4,h5,h6,h7⟩:=Qp.1 h
 obtain⟨hn,hA⟩:=Nr.1 h7
 have hL: ∀ l∈ls,l.2.length≤1048576:=fun l hl=>(Nx.1 (hA l hl).2).1
 obtain⟨l1,l2,l3⟩:=ak5 h2 h3 h4
 obtain⟨w1,w2⟩:=adS nm g ins vs os ls [] (by omega) l2 l3 hn rfl
 obtain⟨t1,t2⟩:=ae4 vs os ls 0 []
 obtain⟨u1,u2⟩:=aoO nm g ins vs os ls hn hL l1 l2
 obtain⟨r1,r2⟩:=ags g ins vs l1 l2
 have a4:FL nm g ins vs os ls= !ls.all (madeB vs os):=by
  simp only [FL,AQ,KE,w2,t1]
  cases ls.all (madeB vs os) <;> rfl
 have a5:ls.all (madeB vs os)=true→AR nm g ins vs os ls=ls.map Prod.fst:=fun hm=>by
  simp only [AR,AQ,KE,w2,pI]
  rw [t2 hm];rfl
 have a6:ls.all (madeB vs os)=true→KF nm g ins vs os ls= !leN (vs.length + os.length) ls.length:=fun hm=>by
  simp only [KF,a5 hm,List.length_map]
  rw [bc (by omega) (by omega),Bool.eq_iff_iff,ag8,Bool.not_eq_true',← Bool.not_eq_true,io]
  omega
 have e7:(Lp.res dR (KG nm g ins vs os ls)).1=bif !ls.all (fun l=>l.2.all (usedB ins vs))then 0 else 1:=u2
 have e8:Lp.fin dR (KG nm g ins vs os ls)=true:=u1
 have hnil:(g.toList==ByteArray.toList { data:= #[] })=(g.toList== []):=by rw [Nu]
 refine⟨?_,?_⟩
 ·simp only [Mc,ur,wW,hnil,r1,a4,e7,anT]
  cases hm:ls.all (madeB vs os)with
  |false=>
   have hm2:(ls.all fun l=>ma vs l.1||ma os l.1)=false:=hm
   rw [hm2]
   generalize rl (ins++vs++os)=p1
   generalize (g.toList== [])=p2
   generalize Vh ins vs g=p3
   cases p1 <;> cases p2 <;> cases p3 <;> rfl
  |true=>
   have hm2:(ls.all fun l=>ma vs l.1||ma os l.1)=true:=hm
   rw [hm2,a5 hm,a6 hm]
   generalize rl (ins++vs++os)=p1
   generalize (g.toList== [])=p2
   generalize Vh ins vs g=p3
   generalize rl (ls.map Prod.fst)=p4
   generalize leN (vs.length + os.length) ls.length=p5
   generalize (ls.all fun l=>l.2.all (usedB ins vs))=p6
   cases p1 <;> cases p2 <;> cases p3 <;> cases p4 <;> cases p5 <;> cases p6 <;> rfl
 ·have f1:leN (ins.length + vs.length + os.length) 2000000=true:=dm h6
  have f2:leN (ins++vs++os).length 9223372036854775807=true:=dm (by simp;omega)
  have f3:Lp.fin dl (AQ nm g ins vs os ls)=true:=w1
  simp only [Md,ur,wW,f1,f2,f3,r2,a4,e8,allT,Bool.or_true,cond_true]
  cases hm:ls.all (madeB vs os)with
  |false=>simp
  |true=>
   have f4:leN (ls.map Prod.fst).length 9223372036854775807=true:=dm (by rw [List.length_map];omega)
   rw [a5 hm,f4]
   simp
def cB(b:ByteArray×(List (Int×(ByteArray×Int)))):(List ByteArray)→Nat ⊕ (List ByteArray)
 |y3=>(.inr (y3++([b.1])))
def bH(y2:List (ByteArray×(List (Int×(ByteArray×Int)))))(i:Nat):(List ByteArray)→aW
 |y3=>((i:Int),(↑y2.length:Int),y2,y3)
def nO:aW→List ByteArray
 |(_,_,_,y3)=>y3
theorem Gn(y2:List (ByteArray×(List (Int×(ByteArray×Int)))))(y3:List ByteArray)(hn:y2.length≤9223372036854775807)(hN:y2.length≤1048576)(h3:y3.length=0):
  aj.fin ((0:Int),(↑y2.length:Int),y2,y3)=true∧aj.res ((0:Int),(↑y2.length:Int),y2,y3)=((af (cB) 0 y2 0 y3).1,(bH y2) (af (cB) 0 y2 0 y3).2.1 (af (cB) 0 y2 0 y3).2.2):=by
 have iY:=aj.along (bH y2) nO (cB) 0 (fun i a=>a.length=i) y2 y3 h3 (by simp only [aj,bH];omega) (fun i b a hb hI=> ?_) (fun a hI=> ?_)
 ·exact iY
 ·obtain y3:=a
  have eB:=(List.getElem?_eq_some_iff.1 hb).1
  have gZ: ∀ d,Option.getD y2[i]? d=b:=fun d=>by rw [hb];rfl
  have hw:=sX eB hn
  have bW:ltI (i:Int) (y2.length:Int)=true:=et (by omega)
  have vL:leI (0:Int) (i:Int)=true:=bv (by omega)
  have im:ltN i y2.length=true:=gu eB
  refine⟨?_,?_,?_,?_⟩
  ·have hg2:bn (i:Int) y2= [b.1]:=by simp only [bn,Int.toNat_natCast];exact congrArg (fun z:LN=> [z.1]) (gZ _)
   have l1: ∀ s:ByteArray,leN (a.length + List.length [s]) 9223372036854775807=true:=fun s=>dm (by rw [List.length_singleton];omega)
   have l2: ∀ s:ByteArray,leN ((a.length + List.length [s]) * 16) 140737488355328=true:=fun s=>dm (by rw [List.length_singleton];omega)
   simp only [fu,fv,fw,fy,fA,fB,fC,fD,fl,aj,LT.nds,allT,bH,bW,vL,im,hg2,l1,l2,Int.toNat_natCast,cond_true,Bool.and_self]
  ·simp [bn,fu,fv,fw,fy,fA,fB,fC,fD,fl,aj,LT.each,bH,nO,hw]
  ·have hg2:bn (i:Int) y2= [b.1]:=by simp only [bn,Int.toNat_natCast];exact congrArg (fun z:LN=> [z.1]) (gZ _)
   simp only [fu,fv,fw,fy,fA,fB,fC,fD,fl,aj,LT.fn,bH,nO,cB,bW,hg2,cond_true]
  ·intro a' hf
   simp only [cB,Sum.inr.injEq]at hf
   subst hf;simp [hI]
 ·obtain y3:=a
  simp [bn,fu,fv,fw,fy,fA,fB,fC,fD,fl,aj,LT.out,bH]
theorem akN: ∀ (ls:List LN) (acc:List ByteArray),ls.foldl (fun a l=>a++ [l.1]) acc=acc++ls.map Prod.fst
 | [],acc=>by simp
 |l::r,acc=>by rw [List.foldl_cons,akN r];simp
def gC(y3:List ByteArray)(b:ByteArray):(Unit)→Nat ⊕ (Unit)
 |_=>(bif(lR b y3)then(.inl 0)else(.inr ()))
def bZ(y2 y3:List ByteArray)(i:Nat):(Unit)→bj
 |_=>((i:Int),(↑y2.length:Int),y2,y3)
def oL:bj→Unit
 |(_,_,_,_)=>()
theorem Hz(y2 y3:List ByteArray) (hn:y2.length≤9223372036854775807) (hm:leN y3.length 9223372036854775807=true):
  ah.fin ((0:Int),(↑y2.length:Int),y2,y3)=true∧ah.res ((0:Int),(↑y2.length:Int),y2,y3)=((af (gC y3) 1 y2 0 ()).1,(bZ y2 y3) (af (gC y3) 1 y2 0 ()).2.1 (af (gC y3) 1 y2 0 ()).2.2):=by
 have iY:=ah.along (bZ y2 y3) oL (gC y3) 1 (fun _ _=>True) y2 () (by trivial) (by simp only [ah,bZ];omega) (fun i b a hb hI=> ?_) (fun a hI=> ?_)
 ·exact iY
 ·obtain⟨⟩:=a
  have eB:=(List.getElem?_eq_some_iff.1 hb).1
  have gZ: ∀ d,Option.getD y2[i]? d=b:=fun d=>by rw [hb];rfl
  have hw:=sX eB hn
  have bW:ltI (i:Int) (y2.length:Int)=true:=et (by omega)
  have vL:leI (0:Int) (i:Int)=true:=bv (by omega)
  have im:ltN i y2.length=true:=gu eB
  refine⟨?_,?_,?_,?_⟩
  ·have h4:dN y3=true:=by simp only [dN,lT,hm,allT,cond_true]
   simp only [gN,gO,gP,gQ,gw,ah,LT.nds,allT,bZ,h4,bW,vL,im,Int.toNat_natCast,cond_true,Bool.and_self]
   cases gR (i:Int) y2 y3 <;> simp [LT.nds]
  ·simp [gN,gO,gP,gQ,dN,gR,kK,gw,ah,LT.each,bZ,oL,hw]
  ·simp only [gN,gO,gP,gQ,dN,gR,kK,gw,ah,LT.fn,bZ,oL,gC,Int.toNat_natCast,bW,vL,im,gZ,cond_true,Bool.cond_self]
  ·exact fun _ _=>trivial
 ·obtain⟨⟩:=a
  simp [gN,gO,gP,gQ,dN,gR,kK,gw,ah,LT.out,bZ]
def gD(y3:List ByteArray)(b:ByteArray):(Unit)→Nat ⊕ (Unit)
 |_=>(bif(lU b y3)then(.inl 0)else(.inr ()))
def cd(y2 y3:List ByteArray)(i:Nat):(Unit)→bk
 |_=>((i:Int),(↑y2.length:Int),y2,y3)
def oM:bk→Unit
 |(_,_,_,_)=>()
theorem HA(y2 y3:List ByteArray) (hn:y2.length≤9223372036854775807) (hm:leN y3.length 9223372036854775807=true):
  ai.fin ((0:Int),(↑y2.length:Int),y2,y3)=true∧ai.res ((0:Int),(↑y2.length:Int),y2,y3)=((af (gD y3) 1 y2 0 ()).1,(cd y2 y3) (af (gD y3) 1 y2 0 ()).2.1 (af (gD y3) 1 y2 0 ()).2.2):=by
 have iY:=ai.along (cd y2 y3) oM (gD y3) 1 (fun _ _=>True) y2 () (by trivial) (by simp only [ai,cd];omega) (fun i b a hb hI=> ?_) (fun a hI=> ?_)
 ·exact iY
 ·obtain⟨⟩:=a
  have eB:=(List.getElem?_eq_some_iff.1 hb).1
  have gZ: ∀ d,Option.getD y2[i]? d=b:=fun d=>by rw [hb];rfl
  have hw:=sX eB hn
  have bW:ltI (i:Int) (y2.length:Int)=true:=et (by omega)
  have vL:leI (0:Int) (i:Int)=true:=bv (by omega)
  have im:ltN i y2.length=true:=gu eB
  refine⟨?_,?_,?_,?_⟩
  ·have h4:dO y3=true:=by simp only [dO,lV,hm,allT,cond_true]
   simp only [gS,gT,gU,gV,gx,ai,LT.nds,allT,cd,h4,bW,vL,im,Int.toNat_natCast,cond_true,Bool.and_self]
   cases gW (i:Int) y2 y3 <;> simp [LT.nds]
  ·simp [gS,gT,gU,gV,dO,gW,kL,gx,ai,LT.each,cd,oM,hw]
  ·simp only [gS,gT,gU,gV,dO,gW,kL,gx,ai,LT.fn,cd,oM,gD,Int.toNat_natCast,bW,vL,im,gZ,cond_true,Bool.cond_self]
  ·exact fun _ _=>trivial
 ·obtain⟨⟩:=a
  simp [gS,gT,gU,gV,dO,gW,kL,gx,ai,LT.out,cd]
theorem apl(a b:List ByteArray)(ha:leN a.length 9223372036854775807=true)(hb:leN b.length 9223372036854775807=true):
  cT a b=(a.any fun s=> !ma b s)∧ch a b=a∧kG a b=b∧kH a b=true:=by
 obtain⟨w1,w2⟩:=Hz a b (io.1 ha) hb
 rw [iQ (P:=fun s=> !ma b s) (j:=0) (fun s=>rfl)]at w2
 refine⟨?_,Bool.cond_self _ _,Bool.cond_self _ _,?_⟩
 ·simp only [cT,qV,iA,lP,w2,bZ]
  cases (a.any fun s=> !ma b s) <;> simp [Nat.beq,OV.1,OV.2]
 ·simp only [kH,qW,iA,w1,allT,cond_true]
theorem apm(a b:List ByteArray)(ha:leN a.length 9223372036854775807=true)(hb:leN b.length 9223372036854775807=true):
  kI a b=(a.any fun s=> !ma b s)∧vW a b=a∧vX a b=b∧kJ a b=true:=by
 obtain⟨w1,w2⟩:=HA a b (io.1 ha) hb
 rw [iQ (P:=fun s=> !ma b s) (j:=0) (fun s=>rfl)]at w2
 refine⟨?_,Bool.cond_self _ _,Bool.cond_self _ _,?_⟩
 ·simp only [kI,qX,iB,lQ,w2,cd]
  cases (a.any fun s=> !ma b s) <;> simp [Nat.beq,OV.1,OV.2]
 ·simp only [kJ,qY,iB,w1,allT,cond_true]
def fO(y5 y6:List ByteArray)(b:Int×(ByteArray×Int)):(Unit)→Nat ⊕ (Unit)
 |_=>(bif(eO b.1 (b.2.1) y5 y6)then(.inl 0)else(.inr ()))
def cJ(y2 y3:ByteArray)(y4:List (Int×(ByteArray×Int)))(y5 y6 y7:List ByteArray)(y8:List (ByteArray×(List (Int×(ByteArray×Int)))))(i:Nat):(Unit)→bD
 |_=>((i:Int),(↑y4.length:Int),y2,y3,y4,y5,y6,y7,y8)
def qN:bD→Unit
 |(_,_,_,_,_,_,_,_,_)=>()
theorem KL(y2 y3:ByteArray)(y4:List (Int×(ByteArray×Int)))(y5 y6 y7:List ByteArray)(y8:List (ByteArray×(List (Int×(ByteArray×Int))))) (hn:y4.length≤9223372036854775807) (h5:leN y5.length 9223372036854775807=true) (h6:leN y6.length 9223372036854775807=true):
  aB.fin ((0:Int),(↑y4.length:Int),y2,y3,y4,y5,y6,y7,y8)=true∧aB.res ((0:Int),(↑y4.length:Int),y2,y3,y4,y5,y6,y7,y8)=((af (fO y5 y6) 1 y4 0 ()).1,(cJ y2 y3 y4 y5 y6 y7 y8) (af (fO y5 y6) 1 y4 0 ()).2.1 (af (fO y5 y6) 1 y4 0 ()).2.2):=by
 have iY:=aB.along (cJ y2 y3 y4 y5 y6 y7 y8) qN (fO y5 y6) 1 (fun _ _=>True) y4 () (by trivial) (by simp only [aB,cJ];omega) (fun i b a hb hI=> ?_) (fun a hI=> ?_)
 ·exact iY
 ·obtain⟨⟩:=a
  have eB:=(List.getElem?_eq_some_iff.1 hb).1
  have gZ: ∀ d,Option.getD y4[i]? d=b:=fun d=>by rw [hb];rfl
  have hw:=sX eB hn
  have bW:ltI (i:Int) (y4.length:Int)=true:=et (by omega)
  have vL:leI (0:Int) (i:Int)=true:=bv (by omega)
  have im:ltN i y4.length=true:=gu eB
  refine⟨?_,?_,?_,?_⟩
  ·have hg2:bw (i:Int) y4=b:=by simp only [bw,Int.toNat_natCast];exact gZ _
   have h4:jz (i:Int) y4 y5 y6=true:=by simp only [jz,jH,h5,h6,allT,Bool.or_true,cond_true]
   simp only [jy,mX,mY,mZ,iW,aB,LT.nds,allT,cJ,h4,bW,vL,im,Int.toNat_natCast,cond_true,Bool.and_self]
   cases jA (i:Int) y4 y5 y6 <;> simp [LT.nds]
  ·simp [bw,jy,mX,mY,mZ,jz,jA,rM,iW,aB,LT.each,cJ,qN,hw]
  ·have hg2:bw (i:Int) y4=b:=by simp only [bw,Int.toNat_natCast];exact gZ _
   simp only [jy,jA,iW,aB,LT.fn,cJ,qN,fO,bW,hg2,cond_true]
  ·exact fun _ _=>trivial
 ·obtain⟨⟩:=a
  simp [bw,jy,mX,mY,mZ,jz,jA,rM,iW,aB,LT.out,cJ]
theorem aiy(u v:ByteArray)(ins vs os:List ByteArray)(ls:List LN)(ts:List TM)(hn:ts.length≤1048576)(h1:leN ins.length 9223372036854775807=true)(h2:leN vs.length 9223372036854775807=true):
  dh u v ins vs os ls ts= !ts.all (usedB ins vs)∧fm u v ins vs os ls ts=true:=by
 obtain⟨w1,w2⟩:=KL u v ts ins vs os ls (by omega) h1 h2
 rw [iQ (P:=fun b=> !usedB ins vs b) (j:=0) (fun b=>by
  simp only [fO,eO,iZ,usedB,Vh]
  cases b.1==1 <;> cases ma ins b.2.1 <;> cases ma vs b.2.1 <;> rfl),Th]at w2
 refine⟨?_,?_⟩
 ·simp only [dh,rH,tB,kg,oc,w2,cJ]
  cases ts.all (usedB ins vs) <;> simp [Nat.beq,OV.1,OV.2]
 ·simp only [fm,rI,tC,kg,w1,allT,cond_true]
def fN(y2 y3:ByteArray)(y4 y5 y6:List ByteArray)(y7:List (ByteArray×(List (Int×(ByteArray×Int)))))(b:ByteArray×(List (Int×(ByteArray×Int)))):(Unit)→Nat ⊕ (Unit)
 |_=>(bif(dh y2 y3 y4 y5 y6 y7 b.2)then(.inl 0)else(.inr ()))
def cI(y2 y3:ByteArray)(y4 y5 y6:List ByteArray)(y7:List (ByteArray×(List (Int×(ByteArray×Int)))))(i:Nat):(Unit)→bC
 |_=>((i:Int),(↑y7.length:Int),y2,y3,y4,y5,y6,y7)
def qM:bC→Unit
 |(_,_,_,_,_,_,_,_)=>()
theorem KK(y2 y3:ByteArray)(y4 y5 y6:List ByteArray)(y7:List (ByteArray×(List (Int×(ByteArray×Int))))) (hn:y7.length≤9223372036854775807) (hL: ∀ l∈y7,l.2.length≤1048576) (h4:leN y4.length 9223372036854775807=true) (h5:leN y5.length 9223372036854775807=true):
  aA.fin ((0:Int),(↑y7.length:Int),y2,y3,y4,y5,y6,y7)=true∧aA.res ((0:Int),(↑y7.length:Int),y2,y3,y4,y5,y6,y7)=((af (fN y2 y3 y4 y5 y6 y7) 1 y7 0 ()).1,(cI y2 y3 y4 y5 y6 y7) (af (fN y2 y3 y4 y5 y6 y7) 1 y7 0 ()).2.1 (af (fN y2 y3 y4 y5 y6 y7) 1 y7 0 ()).2.2):=by
 have iY:=aA.along (cI y2 y3 y4 y5 y6 y7) qM (fN y2 y3 y4 y5 y6 y7) 1 (fun _ _=>True) y7 () (by trivial) (by simp only [aA,cI];omega) (fun i b a hb hI=> ?_) (fun a hI=> ?_)
 ·exact iY
 ·obtain⟨⟩:=a
  have eB:=(List.getElem?_eq_some_iff.1 hb).1
  have gZ: ∀ d,Option.getD y7[i]? d=b:=fun d=>by rw [hb];rfl
  have hw:=sX eB hn
  have bW:ltI (i:Int) (y7.length:Int)=true:=et (by omega)
  have vL:leI (0:Int) (i:Int)=true:=bv (by omega)
  have im:ltN i y7.length=true:=gu eB
  refine⟨?_,?_,?_,?_⟩
  ·have hg2:cF (i:Int) y7=b.2:=by simp only [cF,Int.toNat_natCast];exact congrArg Prod.snd (gZ _)
   have k4:jw (i:Int) y2 y3 y4 y5 y6 y7=true:=by simp only [jw,hg2];exact(aiy y2 y3 y4 y5 y6 y7 b.2 (hL b (List.mem_of_getElem? hb)) h4 h5).2
   simp only [jv,mU,mV,mW,iV,aA,LT.nds,allT,cI,k4,bW,vL,im,Int.toNat_natCast,cond_true,Bool.and_self]
   cases jx (i:Int) y2 y3 y4 y5 y6 y7 <;> simp [LT.nds]
  ·simp [cF,jv,mU,mV,mW,jw,jx,rL,iV,aA,LT.each,cI,qM,hw]
  ·have hg2:cF (i:Int) y7=b.2:=by simp only [cF,Int.toNat_natCast];exact congrArg Prod.snd (gZ _)
   simp only [jv,jx,iV,aA,LT.fn,cI,qM,fN,bW,hg2,cond_true]
  ·exact fun _ _=>trivial
 ·obtain⟨⟩:=a
  simp [cF,jv,mU,mV,mW,jw,jx,rL,iV,aA,LT.out,cI]
theorem aoN(u v:ByteArray)(ins vs os:List ByteArray)(ls:List LN)(hN:ls.length≤1048576)(hL: ∀ l∈ls,l.2.length≤1048576)(h1:leN ins.length 9223372036854775807=true)(h2:leN vs.length 9223372036854775807=true):
  mL u v ls ins vs os= !ls.all (fun l=>l.2.all (usedB ins vs))∧mM u v ls ins vs os=true:=by
 obtain⟨w1,w2⟩:=KK u v ins vs os ls (by omega) hL h1 h2
 rw [TB (g:=fun(b:LN) (_:Unit)=>bif !b.2.all (usedB ins vs)then(.inl 0:Nat ⊕ Unit)else .inr ()) (fun b hb a=>by
  simp only [fN,(aiy u v ins vs os ls b.2 (hL b hb) h1 h2).1]),iQ (P:=fun b:LN=> !b.2.all (usedB ins vs)) (j:=0) (fun b=>rfl),Th]at w2
 refine⟨?_,?_⟩
 ·simp only [mL,tz,kf,w2,cI]
  cases ls.all (fun l=>l.2.all (usedB ins vs)) <;> simp [Nat.beq,OV.1,OV.2]
 ·simp only [mM,tA,kf,w1,allT,cond_true]
theorem ajZ(nm:ByteArray)(ins vs os:List ByteArray)(g:ByteArray)(ls:List LN)(h:prOk nm ins vs os g ls=true):
  (kX nm g ins vs os ls==0)=anT ins vs os g ls∧kY nm g ins vs os ls=true:=by
 obtain⟨h1,h2,h3,h4,h5,h6,h7⟩:=Qp.1 h
 obtain⟨hn,hA⟩:=Nr.1 h7
 have hL: ∀ l∈ls,l.2.length≤1048576:=fun l hl=>(Nx.1 (hA l hl).2).1
 obtain⟨l1,l2,l3⟩:=ak5 h2 h3 h4
 obtain⟨w1,w2⟩:=Gn ls [] (by omega) hn rfl
 rw [JY (f:=cB) (g:=fun a (l:LN)=>a++ [l.1]) (fun b a=>rfl),akN]at w2
 have a3:al ls=ls.map Prod.fst:=by
  simp only [al,kE,w2,bH,List.nil_append]
 have a4:am vs os=vs++os:=by simp [am]
 have n0:aV ins vs os=ins++vs++os:=by simp [aV,gE]
 have k1:leN (ls.map Prod.fst).length 9223372036854775807=true:=dm (by rw [List.length_map];omega)
 have k2:leN (vs++os).length 9223372036854775807=true:=dm (by rw [List.length_append];omega)
 obtain⟨s1,s2,s3,s4⟩:=apl (ls.map Prod.fst) (vs++os) k1 k2
 obtain⟨v1,v2,v3,v4⟩:=apm (vs++os) (ls.map Prod.fst) k2 k1
 obtain⟨u1,u2⟩:=aoN nm g ins vs os ls hn hL l1 l2
 have hnil:(g.toList==ByteArray.toList { data:= #[] })=(g.toList== []):=by rw [Nu]
 have hmade:((ls.map Prod.fst).any fun s=> !ma (vs++os) s)= !ls.all (fun l=>ma vs l.1||ma os l.1):=by
  rw [Th,List.all_map]
  congr 2
  funext l
  simp only [Function.comp,agc]
 have a5:kF vs os ls=(vs++os).any fun s=> !ma (ls.map Prod.fst) s:=by
  simp only [kF,a3,a4,s2,s3,v1]
 refine⟨?_,?_⟩
 ·simp only [kX,n0,dI,kD,hnil,a3,a4,s1,s2,u1,hmade,a5,anT,Vh]
  cases p1:rl (ins++vs++os)with
  |true=>rfl
  |false=>
   cases p3:(ls.all fun l=>ma vs l.1||ma os l.1)with
   |false=>
    generalize (g.toList== [])=q1
    generalize ma ins g=q2
    generalize ma vs g=q3
    cases q1 <;> cases q2 <;> cases q3 <;> rfl
   |true=>
    cases p4:rl (ls.map Prod.fst)with
    |true=>
     generalize (g.toList== [])=q1
     generalize ma ins g=q2
     generalize ma vs g=q3
     cases q1 <;> cases q2 <;> cases q3 <;> rfl
    |false=>
     rw [aov p1 p3 p4]
     generalize (g.toList== [])=q1
     generalize ma ins g=q2
     generalize ma vs g=q3
     generalize leN (vs.length + os.length) ls.length=q4
     generalize (ls.all fun l=>l.2.all (usedB ins vs))=q5
     cases q1 <;> cases q2 <;> cases q3 <;> cases q4 <;> cases q5 <;> rfl
 ·have f1:Lp.fin aj (kE ls)=true:=w1
  have f2:(leN [vs,os].length 1000&&leN (Hx [vs,os]) 2000000)=true:=by
   rw [Bool.and_eq_true];exact⟨rfl,dm (by simp [Hx];omega)⟩
  have f3:kZ ins vs os=true:=by
   have:(leN [ins,vs,os].length 1000&&leN (Hx [ins,vs,os]) 2000000)=true:=by
    rw [Bool.and_eq_true];exact⟨rfl,dm (by simp [Hx];omega)⟩
   simp only [kZ,gE,this,allT,cond_true]
  have f4:leN (ins++vs++os).length 9223372036854775807=true:=dm (by simp;omega)
  simp only [kY,f1,f2,f3,n0,f4,a3,a4,s2,s3,s4,v2,v3,v4,u2,l1,l2,k1,k2,allT,Bool.or_true,cond_true]
def mI(nm:ByteArray)(ins vs os:List ByteArray)(g:ByteArray)(ls:List LN):Bool:=agG nm ins vs os g ls&&anT ins vs os g ls
theorem aki(nm:ByteArray)(ins vs os:List ByteArray)(g:ByteArray)(ls:List LN)(h:prOk nm ins vs os g ls=true):
  Sq nm g ins vs os ls=mI nm ins vs os g ls∧Sr nm g ins vs os ls=true:=by
 obtain⟨a1,a2⟩:=aij nm ins vs os g ls h
 obtain⟨b1,b2⟩:=akg nm ins vs os g ls h
 simp only [Sq,Sr,a1,a2,b1,b2,mI,allT,Bool.or_true,cond_true,and_true]
 cases agG nm ins vs os g ls <;> rfl
theorem aj0(nm:ByteArray)(ins vs os:List ByteArray)(g:ByteArray)(ls:List LN)(h:prOk nm ins vs os g ls=true):
  RO nm g ins vs os ls=mI nm ins vs os g ls∧RP nm g ins vs os ls=true:=by
 obtain⟨a1,a2⟩:=ahH nm ins vs os g ls h
 obtain⟨b1,b2⟩:=ajZ nm ins vs os g ls h
 simp only [RO,RP,a1,a2,b1,b2,mI,allT,Bool.or_true,cond_true,and_true]
 cases agG nm ins vs os g ls <;> rfl
def YT:List SV→List Entry→Option Out
 | [.one ⟨true,[.val (.string x0),.ref 0,.ref 1,.ref 2,.val (.string x1),.ref 3]⟩],[.row false 9 (.str) x2,.row false 9 (.str) x3,.row false 9 (.str) x4,.row false 204 (.pair (.str) (.sl 178 (.pair (.int .i64) (.pair (.str) (.int .i64))))) x5]=>some ⟨.one ⟨false,[.val (.bool (mI x0 x2 x3 x4 x1 x5))]⟩,[.row false 9 ahF x2,.row false 9 ahF x3,.row false 9 ahF x4,.row false 204 (CTy.pair CTy.str (CTy.sl (178:TypeId) afk)) x5],[],[prOk x0 x2 x3 x4 x1 x5]⟩
 |_,_=>none
def va:PF prog:=PF.alt ah5 YT (by
 intro args es o h cE;unfold YT at h;split at h
 ·rename_i x0 x1 x2 x3 x4 x5
  cases h
  have cE:=mH cE
  have hh:=aki x0 x2 x3 x4 x1 x5 cE
  obtain⟨e0,en⟩:=hh
  exact rV rfl (md en) (by simp only [e0] <;> rfl) rfl rfl
 ·cases h)
def YO:List SV→List Entry→Option Out
 | [.one ⟨true,[.val (.string x0),.ref 0,.ref 1,.ref 2,.val (.string x1),.ref 3]⟩],[.row false 9 (.str) x2,.row false 9 (.str) x3,.row false 9 (.str) x4,.row false 204 (.pair (.str) (.sl 178 (.pair (.int .i64) (.pair (.str) (.int .i64))))) x5]=>some ⟨.one ⟨false,[.val (.bool (mI x0 x2 x3 x4 x1 x5))]⟩,[.row false 9 ahF x2,.row false 9 ahF x3,.row false 9 ahF x4,.row false 204 (CTy.pair CTy.str (CTy.sl (178:TypeId) afk)) x5],[],[prOk x0 x2 x3 x4 x1 x5]⟩
 |_,_=>none
def uY:PF prog:=PF.alt ah0 YO (by
 intro args es o h cE;unfold YO at h;split at h
 ·rename_i x0 x1 x2 x3 x4 x5
  cases h
  have cE:=mH cE
  have hh:=aj0 x0 x2 x3 x4 x1 x5 cE
  obtain⟨e0,en⟩:=hh
  exact rV rfl (md en) (by simp only [e0] <;> rfl) rfl rfl
 ·cases h)
end Go.SX
