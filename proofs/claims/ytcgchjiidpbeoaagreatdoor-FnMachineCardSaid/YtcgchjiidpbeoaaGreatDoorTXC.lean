import Derived.Test.YtcgchjiidpbeoaaGreatDoorTXA
import Derived.Laws.Slices
import Derived.Laws.Tables
import Derived.Laws.StructEq
import Derived.Laws.StandIn
import Derived.Lib.Bytealg
import Derived.Laws.BytesArg
import Derived.Laws.Concat
import Derived.Laws.CopyRow
import Derived.Laws.IdiomCopy
import Derived.Lib.AppendZeros
set_option linter.unusedSimpArgs false
set_option linter.unusedVariables false
open Nat renaming eq_of_beq_eq_true → q8
open Option renaming map_eq_some_iff → q9
open Option.some renaming injEq → w5
open Bool renaming and_eq_true → j6
open List renaming length_append → j7
open List renaming length_take → j8
open Array renaming toArray_toList → j9
open List renaming map_cons → k7
open List renaming length_replicate → k8
open List renaming getElem?_eq_some_iff → k9
open List renaming replicate → v5
open Nat renaming le_of_ble_eq_true → v6
open List renaming mem_singleton → v7
open List renaming length_set → v8
namespace Go.SX
open Go.RowKit
section
variable{P:Program}{tr:Bool}{s:St}{look:Nat→Option SS}{ent:Nat→Option Entry}{A:List (Nat×Bool)}{nid:Nat}{o:Oper}{r:Raw}{B:Base}{ρ:Nm}{a:Act}{w:World}{K:Act→World→Prop}{Q:Exit→Act→World→Prop}
theorem ak3{isS:Bool}{len cap:Nat}{lo hi:Option Value}{l h:Int}(hlo:(lo=none∧l=0)∨ ∃ k,lo=some (.int k l))(hhi:(hi=none∧h=len)∨ ∃ k,hi=some (.int k h))(h0:0≤l)(h1:l≤h)(h2:h≤len)(h3:len≤cap):
  (Instr.sliceBounds isS len cap lo hi none).run P w= .ok (l.toNat,h.toNat,cap) w:=by
 have e0:0≤h:=by omega
 have e1:h≤(cap:Int):=by omega
 have eh:(h.toNat:Int)=h:=Int.toNat_of_nonneg e0
 rcases hlo with⟨rfl,rfl⟩ | ⟨k,rfl⟩ <;> rcases hhi with⟨rfl,rfl⟩ | ⟨k',rfl⟩ <;>
  simp [Instr.sliceBounds,run_sliceBound,h0,h1,e0,e1,eh]
theorem NZ(c:Ctx B ρ s a w look ent A){x:Option Operand}{d l:Int}(h:bnd look A x d=some l):(x.map a.eval=none∧l=d)∨ ∃ k,x.map a.eval=some (.int k l):=by
 cases x with
 |none=>simp only [bnd,w5]at h;exact .inl ⟨rfl,h.symm⟩
 |some y=>
  simp only [bnd]at h
  obtain⟨k,hk⟩:=c.evI h
  exact .inr ⟨k,by simp [hk]⟩
theorem acT{T e:TypeId}{inf:TypeInfo}{lo hi:Option Value}{l h:Int}{b:Option Addr}{len cap:Nat}(hT:P.underlying T=some (.slice e))(EC:P.info? e=some inf)
  (hlo:(lo=none∧l=0)∨ ∃ k,lo=some (.int k l)) (hhi:(hi=none∧h=len)∨ ∃ k,hi=some (.int k h)) (h0:0≤l) (h1:l≤h) (h2:h≤len) (h3:len≤cap):
  (Instr.sliceAt T (.slice b len cap) lo hi none).run P w= .ok (.slice (if cap=l.toNat then b else b.map (·.add (l.toNat * inf.size))) (h.toNat - l.toNat) (cap - l.toNat)) w:=by
 have:=ak3 (P:=P) (w:=w) (isS:=true) hlo hhi h0 h1 h2 h3
 simp [Instr.sliceAt,Instr.slice,run_underlying hT,this,sizeOf,typeInfo,EC]
theorem IX.part{H:Nat→Option Obj}{t:CTy}{v:Value}{xs:List (E t)}(h:IX H t v xs){l m z:Nat}(hl:l≤m)(hm:m≤xs.length)(hz:z=t.size){b:Option Addr}{len cap:Nat}(hv:v= .slice b len cap):
  IX H t (.slice (if cap=l then b else b.map (·.add (l * z))) (m - l) (cap - l)) ((xs.take m).drop l):=by
 subst hz
 have tG:((xs.take m).drop l).length=m - l:=by rw [List.length_drop,j8];omega
 rcases h with⟨h,hn⟩ | ⟨b',off,cap',arr,T,fz,h1,h2,h3,h4,h5⟩
 ·subst hn
  simp only [List.length_nil,Nat.le_zero_eq]at hm
  subst hm
  simp only [Nat.le_zero_eq]at hl;subst hl
  rcases h with h | ⟨b',h⟩
  ·rw [hv]at h;cases h
   exact .inl ⟨.inl (by simp),by simp⟩
  ·rw [hv]at h;cases h
   exact .inl ⟨.inr ⟨b',by simp⟩,by simp⟩
 ·rw [hv]at h1;cases h1
  by_cases hc:cap=l
  ·subst hc
   have:m=cap:=by omega
   subst this
   refine .inr ⟨b',off,0,arr,T,fz,by rw [tG];simp,by rw [tG];omega,by omega,h4,fun i x hx=> ?_⟩
   have:=(k9.1 hx).1
   rw [tG]at this;omega
  ·refine .inr ⟨b',off + l * t.size,cap - l,arr,T,fz,by rw [tG];simp [hc,NJ],by rw [tG];omega,by omega,h4,fun i x hx=> ?_⟩
   have hlt:=(k9.1 hx).1
   rw [List.getElem?_drop,List.getElem?_take,if_pos (by omega)]at hx
   have:=h5 _ _ hx
   rwa [Nat.add_mul,← Nat.add_assoc]at this
theorem apV{e:TypeId}{t:CTy}{v:Value}{n m z:Nat}{cs:List Value}(h:Mh w e t.size v n cs)(hm:m≤n){b:Option Addr}{len cap:Nat}(hv:v= .slice b len cap):
  Mh w e t.size (.slice (if cap=0 then b else b.map (·.add (0 * z))) (m - 0) (cap - 0)) m (cs.take (m * t.size))∧
   jQ (.slice (if cap=0 then b else b.map (·.add (0 * z))) (m - 0) (cap - 0))=jQ v:=by
 have Xb:m * t.size≤n * t.size:=Nat.mul_le_mul_right _ hm
 have hl:(cs.take (m * t.size)).length=m * t.size:=by rw [j8,h.1];omega
 rcases h.2 with⟨hz,hn⟩ | ⟨g,cap',cur,h1,h2,h3,h4,h5,h6,h7⟩
 ·subst hn
  have:m=0:=by omega
  subst this
  rcases hz with hz | ⟨b',hz⟩
  ·rw [hv]at hz;cases hz
   exact⟨⟨hl,.inl ⟨.inl (by simp),rfl⟩⟩,by rw [hv];simp⟩
  ·rw [hv]at hz;cases hz
   exact⟨⟨hl,.inl ⟨.inr ⟨b',by simp⟩,rfl⟩⟩,by rw [hv];simp⟩
 ·rw [hv]at h1;cases h1
  have he:(if cap=0 then some (⟨g,0,none⟩:Addr)else(some (⟨g,0,none⟩:Addr)).map (·.add (0 * z)))=some ⟨g,0,none⟩:=by
   split
   ·rfl
   ·simp [NJ]
  rw [he]
  refine⟨⟨hl,.inr ⟨g,cap,cur,rfl,h2,h3,by omega,h5,h6,?_⟩⟩,by rw [hv];rfl⟩
  rw [← h7,List.take_take,Nat.min_eq_left Xb]
theorem qu.take{H:Nat→Option Obj}{t:CTy}{cs:List Value}{xs:List (E t)}(h:qu H t cs xs){m:Nat}(hm:m≤xs.length):qu H t (cs.take (m * t.size)) (xs.take m):=by
 have Xb:m * t.size≤xs.length * t.size:=Nat.mul_le_mul_right _ hm
 refine⟨by rw [j8,j8,h.1];rw [Nat.min_eq_left Xb,Nat.min_eq_left hm],fun i x hx=> ?_⟩
 have hlt:=(k9.1 hx).1
 rw [j8]at hlt
 rw [List.getElem?_take,if_pos (by omega)]at hx
 have:=h.2 i x hx
 have hc:=yV (z:=t.size) (show i < m by omega)
 rw [List.drop_take,List.take_take,Nat.min_eq_left (by omega)]
 exact this
theorem asw(c:Ctx B ρ s a w look ent A){T:TypeId}{x:Operand}{lo hi mx:Option Operand}{fr:Bool}(ho:o.op= .slice T x lo hi mx)(h:au2 P look ent A nid fr T x lo hi mx=some r)(pA: ∀ i∈r.new,s.used i=false)(cL: ∀ b∈r.nd,b=true)(hC:rY B s ρ r o a K):o.wp P a w K Q:=by
 obtain⟨dst,op,ty,pos,after,guard⟩:=o
 simp only at ho;subst ho
 unfold au2 at h
 split at h
 ·rename_i str hx
  split at h
  ·rename_i l m hl hm hT
   cases h
   have h0:0≤l:=by simpa using cL (decide (0≤l)) (by simp)
   have h1:l≤m:=by simpa using cL (decide (l≤m)) (by simp)
   have h2:m≤str.size:=by simpa using cL (decide (m≤str.size)) (by simp)
   have yW:=(c.evC hx).1
   simp only [Cell.conc]at yW
   have hr:=ak3 (P:=P) (w:=w) (isS:=false) (cap:=str.size) (NZ c hl) (NZ c hm) h0 h1 h2 (Nat.le_refl _)
   refine ba (w':=w) ?_ (rY.same (v:=one (.val (.string (str.extract l.toNat m.toNat)))) rfl hC c.hp)
   simp [execOp,Instr.sliceAt,Instr.slice,run_underlying hT,yW,hr,one,SV.conc,V1.conc,Cell.conc]
  ·cases h
 ·rename_i id hx
  split at h
  ·rename_i own e t xs he
   split at h
   ·rename_i l m hl hm
    cases lO:TW P T t with
    |false=>simp [lO]at h
    |true=>
     simp only [lO,cond_true]at h
     unfold TW at lO
     split at lO
     ·rename_i e' hT
      split at lO
      ·rename_i inf EC
       have TY:=q8 lO
       have QR:=c.hE _ _ he
       obtain⟨hh,lN,_⟩:=c.hp.he _ _ QR
       have yW:=(c.evC hx).1
       simp only [Cell.conc]at yW
       have hsl: ∃ b cap,ρ id= .slice b xs.length cap∧xs.length≤cap:=by
        rcases aeP hh c.hp.hf.dat with⟨hv,hn⟩ | ⟨b,off,cap,news,hv,_,Xb,_⟩
        ·subst hn;obtain⟨b0,hb0⟩:=Yg hv;exact⟨b0,0,hb0,Nat.le_refl _⟩
        ·exact⟨_,cap,hv,Xb⟩
       obtain⟨b,cap,hv,Xb⟩:=hsl
       have hun:s.used nid=false:=by
        split at h <;> cases h <;> exact pA nid (by simp)
       split at h
       ·cases h
        have h1:0≤m:=by simpa using cL (decide (0≤m)) (by simp)
        have h2:m≤xs.length:=by simpa using cL (decide (m≤xs.length)) (by simp)
        have hl0:l=0:=by simpa [bnd] using hl.symm
        subst hl0
        obtain⟨cs,g1,g2,g3⟩:=hh
        have hr:=acT (P:=P) (w:=w) (b:=b) (len:=xs.length) (cap:=cap) (lo:=none) (l:=0) hT EC (.inl ⟨rfl,rfl⟩) (NZ c hm) (Int.le_refl _) h1 h2 Xb
        obtain⟨k1,k2⟩:=apV (w:=w) (z:=inf.size) (m:=m.toNat) g1 (by omega) hv
        have tG:(xs.take m.toNat).length=m.toNat:=by rw [j8];omega
        obtain⟨hX,hp⟩:=c.hp.rowTo (xs':=xs.take m.toNat) QR hun (Chg.refl _ _) (by rw [tG];exact k1) (g2.take (by omega)) fun b hb=> .inr (by rw [k2]at hb;exact hb)
        refine ba (w':=w) (u:= .slice (if cap=0 then b else b.map (·.add (0 * inf.size))) (m.toNat - 0) (cap - 0)) ?_ (hC _ _ w hX ?_ hp)
        ·simp only [execOp,yW,hv,Option.map_none]
         simp only [Int.toNat_zero]at hr
         simp [hr]
        ·simp only [one,SV.conc,V1.conc,Cell.conc]
         rw [lz _ _ rfl]
       ·rename_i hne
        cases h
        have h0:0≤l:=by simpa using cL (decide (0≤l)) (by simp)
        have h1:l≤m:=by simpa using cL (decide (l≤m)) (by simp)
        have h2:m≤xs.length:=by simpa using cL (decide (m≤xs.length)) (by simp)
        have hr:=acT (P:=P) (w:=w) (b:=b) (len:=xs.length) (cap:=cap) hT EC (NZ c hl) (NZ c hm) h0 h1 h2 Xb
        obtain⟨ρ1,n1,x1,hp1⟩:=c.hp.freezes c.hE [id]
        have hrow:IX ρ1.mem t (ρ1 id) xs:=by
         have:bS s.ent (frz ent [id]) id=some (.row false e t xs):=by
          cases own with
          |true=>simp only [bS,look?_frz_mem (v7.2 rfl) he]
          |false=>
           have:look? (frz ent [id]) id=none:=by simp [frz,he,look?]
           simp only [bS,this];exact QR
         exact(hp1.he _ _ this).1
        rw [Nm.of_nm n1,hv]at hrow
        have hpart:=hrow.part (l:=l.toNat) (m:=m.toNat) (z:=inf.size) (by omega) (by omega) TY rfl
        obtain⟨hX,hp⟩:=hp1.names (ρ':=upd ρ1 nid (.slice (if cap=l.toNat then b else b.map (·.add (l.toNat * inf.size))) (m.toNat - l.toNat) (cap - l.toNat)))
         (es:= [(nid,.row false e t ((xs.take m.toNat).drop l.toNat))]) (new:= [nid]) (TV hun _ _) rfl fun i x hl=>by
          obtain⟨rfl,rfl⟩:=look?_one hl
          refine⟨?_,by simp [dp,memN],trivial,rfl⟩
          simp only [Entry.holds]
          rw [lz _ _ rfl]
          exact hpart
        rw [Fe]at hp
        refine ba (u:= .slice (if cap=l.toNat then b else b.map (·.add (l.toNat * inf.size))) (m.toNat - l.toNat) (cap - l.toNat)) (w':=w) ?_ (hC _ _ w (x1.trans hX fun _ h=>h) ?_ hp)
        ·simp only [execOp,yW,hv]
         simp only [Sem.run_bind,Option.map_none,hr,Result.andThen_ok,Sem.run_pure]
        ·simp only [one,SV.conc,V1.conc,Cell.conc]
         rw [lz _ _ rfl]
      ·cases lO
     ·cases lO
   ·cases h
  ·cases h
 ·cases h
end
end Go.SX
namespace Go.SX
open Go.RowKit
section
variable{P:Program}{tr:Bool}{s:St}{look:Nat→Option SS}{ent:Nat→Option Entry}{A:List (Nat×Bool)}{nid:Nat}{o:Oper}{r:Raw}{B:Base}{ρ:Nm}{a:Act}{w:World}{K:Act→World→Prop}{Q:Exit→Act→World→Prop}
theorem ard(off:Nat): ∀ (ns:List Value) (k:Nat) (cells:List Value),off + k + ns.length≤cells.length→
  (ns.zipIdx k).foldl (fun(cs:Array Value) p=>cs.setIfInBounds (off + p.2) p.1) cells.toArray=(cells.take (off + k)++ns++cells.drop (off + k + ns.length)).toArray
 | [],k,cells,h=>by simp
 |x::ns,k,cells,h=>by
  simp only [List.length_cons]at h
  simp only [List.zipIdx_cons,List.foldl_cons,List.setIfInBounds_toArray]
  rw [ard off ns (k + 1) (cells.set (off + k) x) (by rw [v8];omega)]
  congr 1
  have hk:off + k < cells.length:=by omega
  apply List.ext_getElem?
  intro j
  simp only [List.getElem?_append,List.getElem?_take,List.getElem?_drop,List.getElem?_set,j7,j8,v8,List.length_cons]
  rw [Nat.min_eq_left (show off + (k + 1)≤cells.length by omega),Nat.min_eq_left (show off + k≤cells.length by omega)]
  by_cases h1:j < off + k
  ·simp [h1,show j < off + (k + 1) by omega,show ¬ off + k=j by omega,show j < off + (k + 1) + ns.length by omega,show j < off + k + (ns.length + 1) by omega]
  ·by_cases h2:j=off + k
   ·subst h2
    simp [show off + k < off + (k + 1) by omega,hk,show off + k < off + (k + 1) + ns.length by omega]
   ·by_cases h3:j < off + (k + 1) + ns.length
    ·simp [h1,h3,show ¬ j < off + (k + 1) by omega,show j < off + k + (ns.length + 1) by omega]
     rw [show j - (off + k)=j - (off + (k + 1)) + 1 by omega,List.getElem?_cons_succ]
    ·simp [h3,show ¬ j < off + k + (ns.length + 1) by omega,show ¬ off + k=off + (k + 1) + ns.length + (j - (off + (k + 1) + ns.length)) by omega]
     congr 1;omega
theorem ah4{pl:Nat→Option (Nat×Nat)}: ∀ {vs:List (Nat×V1)} {cells cs:List Cell},amj pl cells vs=some cs→
  Instr.fill pl (cells.map (Cell.conc ρ)).toArray (vs.map fun p=>(p.1,p.2.conc ρ))=some (cs.map (Cell.conc ρ)).toArray
 | [],cells,cs,h=>by simp only [amj,w5]at h;subst h;rfl
 |(i,v)::vs,cells,cs,h=>by
  simp only [amj]at h
  split at h
  ·rename_i off size ns hp hns
   cases hb:(Nat.beq ns.length size&&Nat.ble (off + ns.length) cells.length)with
   |false=>simp [hb]at h
   |true=>
    simp only [hb,cond_true]at h
    simp only [j6]at hb
    have h1:=q8 hb.1
    have h2:=v6 hb.2
    have hc:=V1.cells?_conc ρ hns
    have ih:=ah4 h
    simp only [k7,Instr.fill,hp,hc]
    have TY:(ns.map (Cell.conc ρ)).toArray.size=size:=by simp [h1]
    have Xb: ¬ (off + (ns.map (Cell.conc ρ)).toArray.size > (cells.map (Cell.conc ρ)).toArray.size):=by simp;omega
    rw [TY]at Xb
    simp only [TY,ne_eq,not_true_eq_false]
    rw [if_neg (by simpa using Xb)]
    have hf:=ard off (ns.map (Cell.conc ρ)) 0 (cells.map (Cell.conc ρ)) (by simp;omega)
    rw [← Array.foldl_toList,Array.toList_zipIdx]
    simp only [Nat.add_zero]at hf
    rw [hf]
    simpa [List.map_take,List.map_drop] using ih
  ·cases h
theorem aq9{U:Nat→Bool}{pl:Nat→Option (Nat×Nat)}: ∀ {vs:List (Nat×V1)} {cells cs:List Cell},amj pl cells vs=some cs→(∀ c∈cells,c.inU U)→(∀ p∈vs,p.2.inU U)→ ∀ c∈cs,c.inU U
 | [],cells,cs,h,hc,_=>by simp only [amj,w5]at h;subst h;exact hc
 |(i,v)::vs,cells,cs,h,hc,hv=>by
  simp only [amj]at h
  split at h
  ·rename_i off size ns hp hns
   cases hb:(Nat.beq ns.length size&&Nat.ble (off + ns.length) cells.length)with
   |false=>simp [hb]at h
   |true=>
    simp only [hb,cond_true]at h
    refine aq9 h (fun c hm=> ?_) fun p hp=>hv p (by simp [hp])
    simp only [List.append_assoc,List.mem_append]at hm
    rcases hm with hm | hm | hm
    ·exact hc c (List.mem_of_mem_take hm)
    ·exact V1.cells?_inU (hv (i,v) (by simp)) hns c hm
    ·exact hc c (List.mem_of_mem_drop hm)
  ·cases h
theorem akK(c:Ctx B ρ s a w look ent A): ∀ {xs:List (Nat×Operand)} {vs:List (Nat×V1)},awe look A xs=some vs→(xs.map fun p=>(p.1,a.eval p.2))=(vs.map fun p=>(p.1,p.2.conc ρ))∧ ∀ p∈vs,p.2.inU s.used
 | [],vs,h=>by simp [awe]at h;subst h;simp
 |(i,x)::xs,vs,h=>by
  simp only [awe]at h
  split at h
  ·rename_i v vs' h1 h2
   cases h
   obtain⟨e1,i1⟩:=c.ev1 h1
   obtain⟨e2,i2⟩:=akK c h2
   refine⟨by simp [e1,e2],fun u hu=> ?_⟩
   rcases List.mem_cons.1 hu with rfl | hu
   ·exact i1
   ·exact i2 u hu
  ·cases h
theorem arp: ∀ (fs:List Field),(fs.all fun fd=>(P.info? fd.type).isSome)=true→ ∃ places,fs.mapM (fun f=>(P.info? f.type).map fun i=>(f.offset,i.size))=some places∧
  ∀ i,places[i]? =place P fs.toArray i
 | [],_=>⟨[],rfl,fun i=>by simp [place]⟩
 |f::fs,h=>by
  simp only [List.all_cons,j6]at h
  obtain⟨pl,h1,h2⟩:=arp fs h.2
  cases hi:P.info? f.type with
  |none=>rw [hi]at h;simp at h
  |some j=>
   refine⟨(f.offset,j.size)::pl,by simp [List.mapM_cons,hi,h1],fun i=> ?_⟩
   cases i with
   |zero=>simp [hi,place]
   |succ i=>simpa [place] using h2 i
theorem arM(c:Ctx B ρ s a w look ent A){T:TypeId}{parts:Array (Nat×Operand)}(ho:o.op= .build T parts)(h:aua P tr look A nid T parts=some r)(pA: ∀ i∈r.new,s.used i=false)(hC:rY B s ρ r o a K):o.wp P a w K Q:=by
 obtain⟨dst,op,ty,pos,after,guard⟩:=o
 simp only at ho;subst ho
 unfold aua at h
 split at h
 ·rename_i fs inf vs hT EC hvs
  split at h
  ·rename_i z hz
   split at h
   ·rename_i cs Tz
    cases aet:fs.all (fun fd=>(P.info? fd.type).isSome)with
    |false=>simp [aet]at h
    |true=>
     simp only [aet,cond_true]at h
     cases h
     obtain⟨e1,i1⟩:=akK c hvs
     have hfl:=ah4 (ρ:=ρ) Tz
     rw [aat]at hfl
     have FK:=aq9 Tz (fun c hc=>by obtain⟨v,_,rfl⟩:=List.mem_map.1 hc;trivial) i1
     obtain⟨places,hp1,hp2⟩:=arp (P:=P) fs.toList (by rw [← Array.all_toList]at aet;exact aet)
     have hpl:(fun i=>places.toArray[i]?)=place P fs:=by
      funext i
      simp only [List.getElem?_toArray,hp2]
     have hb:P.built T (parts.map fun(i,x)=>(i,a.eval x)).toList=some (cs.map (Cell.conc ρ)).toArray:=by
      simp only [Program.built,EC,hT,hz,hp1,hpl,Array.toList_map]
      rw [show (List.map (fun p:Nat×Operand=>(p.1,a.eval p.2)) parts.toList)=_ from e1]
      exact hfl
     have hr:=run_build (P:=P) w T _ _ hb
     obtain⟨ρ',hX,_,hp,hcc,_⟩:=afu (P:=P) (tr:=tr) (T:=T) (n:=nid) (v:=⟨true,cs⟩) c.hp FK pA
     refine ba (w':=w) (u:= .agg (cs.map (Cell.conc ρ)).toArray) ?_ (hC ρ' _ w hX hcc.symm hp)
     simp [execOp,hr]
   ·cases h
  ·cases h
 ·cases h
theorem XK(z:Array Value)(n:Nat):(madeCells z (n * z.size)).toList=vA (v5 n z.toList):=by
 have hl: ∀ n,(vA (v5 n z.toList)).length=n * z.size:=by
  intro n
  induction n with
  |zero=>simp [vA]
  |succ n ih=>simp only [List.replicate_succ,vA,j7,ih,Array.length_toList,Nat.add_mul,Nat.one_mul];omega
 have hg: ∀ n j,j < n * z.size→(vA (v5 n z.toList))[j]? =z.toList[j % z.size]? :=by
  intro n
  induction n with
  |zero=>intro j hj;omega
  |succ n ih=>
   intro j hj
   simp only [List.replicate_succ,vA]
   by_cases hlt:j < z.size
   ·rw [List.getElem?_append_left (by simpa using hlt),Nat.mod_eq_of_lt hlt]
   ·rw [List.getElem?_append_right (by simpa using Nat.le_of_not_lt hlt),Array.length_toList,ih _ (by rw [Nat.add_mul,Nat.one_mul]at hj;omega),← Nat.mod_eq_sub_mod (Nat.le_of_not_lt hlt)]
 apply List.ext_getElem?
 intro j
 by_cases hj:j < n * z.size
 ·rw [hg n j hj]
  have hp:0 < z.size:=by
   rcases Nat.eq_zero_or_pos z.size with h0 | h0
   ·rw [h0]at hj;omega
   ·exact h0
  have hm:=Nat.mod_lt j hp
  simp [madeCells,hj,hm,getElem!_pos]
 ·rw [List.getElem?_eq_none (by rw [Array.length_toList,size_madeCells];omega),List.getElem?_eq_none (by rw [hl];omega)]
theorem qu.replicate{H:Nat→Option Obj}{t:CTy}{cs:List Value}{x:E t}(h:Rep H t cs x): ∀ n,qu H t (vA (v5 n cs)) (v5 n x)
 |0=>qu.nil _ _
 |n + 1=>by
  simp only [List.replicate_succ,vA]
  exact(qu.one h).append (qu.replicate h n)
theorem Rep.any{H H':Nat→Option Obj}(h: ∀ b o,H b=some o→H' b=some o){t:CTy}{cs:List Value}{x:E t}(hr:Rep H t cs x):Rep H' t cs x:=Rep.mono h t cs x hr
theorem awu{H:Nat→Option Obj}{t:CTy}{c:Cell}{xs:List (E t)}{ids:List Nat}(h:axI (fun _=>none) t c=some (xs,ids)):IX H t (c.conc ρ) xs:=by
 unfold axI at h
 split at h
 ·cases h
 ·cases h;exact .inl ⟨.inl rfl,rfl⟩
 ·cases h
theorem aft{H:Nat→Option Obj}: ∀ (t:CTy) (cs:List Cell) (x:E t) (ids:List Nat),KF (fun _=>none) t cs=some (x,ids)→Rep H t (cs.map (Cell.conc ρ)) x
 | .int k,cs,x,ids,hc=>by
  simp only [KF]at hc
  unfold awi at hc
  split at hc
  ·split at hc
   ·rename_i hk;subst hk
    cases hc
    exact rfl
   ·cases hc
  ·cases hc
 | .bool,cs,x,ids,hc=>by
  simp only [KF]at hc
  unfold aq4 at hc
  split at hc
  ·cases hc;exact rfl
  ·cases hc
 | .str,cs,x,ids,hc=>by
  simp only [KF]at hc
  unfold awz at hc
  split at hc
  ·cases hc;exact rfl
  ·cases hc
 | .sl e t,cs,x,ids,hc=>by
  simp only [KF]at hc
  unfold slC at hc
  split at hc
  ·simp only [Rep]
   exact⟨_,rfl,awu hc⟩
  ·cases hc
 | .pair a b,cs,x,ids,hc=>by
  simp only [KF]at hc
  split at hc
  ·rename_i x1 l1 y1 m1 h1 h2
   cases hc
   simp only [Rep]
   refine⟨(cs.take a.size).map (Cell.conc ρ),(cs.drop a.size).map (Cell.conc ρ),?_,aft a _ _ _ h1,aft b _ _ _ h2⟩
   rw [← List.map_append,List.take_append_drop]
  ·cases hc
end
end Go.SX
namespace Go.SX
open Go.RowKit
section
variable{P:Program}{tr:Bool}{s:St}{look:Nat→Option SS}{ent:Nat→Option Entry}{A:List (Nat×Bool)}{nid:Nat}{o:Oper}{r:Raw}{B:Base}{ρ:Nm}{a:Act}{w:World}{K:Act→World→Prop}{Q:Exit→Act→World→Prop}
theorem amq{α:Type}: ∀ (l r:List (List α)),vA (l++r)=vA l++vA r
 | [],r=>rfl
 |a::l,r=>by simp only [List.cons_append,vA,amq l r,List.append_assoc]
theorem Ak{α:Type}(z:List α): ∀ n,(vA (v5 n z)).length=n * z.length
 |0=>by simp [vA]
 |n + 1=>by simp only [List.replicate_succ,vA,j7,Ak z n,Nat.add_mul,Nat.one_mul];omega
theorem YJ{α:Type}(z:List α){n m:Nat}(h:n≤m):(vA (v5 m z)).take (n * z.length)=vA (v5 n z):=by
 obtain⟨k,rfl⟩: ∃ k,m=n + k:=⟨m - n,by omega⟩
 rw [← List.replicate_append_replicate,amq,List.take_append_of_le_length (by rw [Ak];exact Nat.le_refl _),List.take_of_length_le (by rw [Ak];exact Nat.le_refl _)]
theorem ari{α β:Type}(f:α→β): ∀ (l:List (List α)),(vA l).map f=vA (l.map (List.map f))
 | []=>rfl
 |a::l=>by simp only [vA,List.map_append,k7,ari f l]
theorem anl(c:Ctx B ρ s a w look ent A){T:TypeId}{l m:Operand}(ho:o.op= .makeSlice T l m)(h:akS P tr look A nid T l m=some r)(pA: ∀ i∈r.new,s.used i=false)(cL: ∀ b∈r.nd,b=true)(hC:rY B s ρ r o a K):o.wp P a w K Q:=by
 obtain⟨dst,op,ty,pos,after,guard⟩:=o
 simp only at ho;subst ho
 unfold akS at h
 split at h
 ·rename_i n k e hl hm hT
  split at h
  ·rename_i inf t EC ht
   split at h
   ·rename_i z hz
    split at h
    ·rename_i x0 ids hcl
     cases lO:(Nat.beq inf.size t.size&&Nat.beq z.cells.size t.size)with
     |false=>simp [lO]at h
     |true=>
      simp only [lO,cond_true]at h
      simp only [j6]at lO
      have k1:=q8 lO.1
      have k2:=q8 lO.2
      cases htr:(tr&& !t.flat)with
      |true=>
       rw [htr]at h
       simp only [cond_true]at h
       split at h
       ·rename_i y0 ids' hcl'
        cases h
        have n0:0≤n:=by simpa using cL (decide (0≤n)) (by simp)
        have n1:n≤k:=by simpa using cL (decide (n≤k)) (by simp)
        have n2:(inf.bytes:Int) * k≤281474976710656:=by simpa using cL (decide ((inf.bytes:Int) * k≤281474976710656)) (by simp)
        have n3:k≤9223372036854775807:=by simpa using cL (decide (k≤9223372036854775807)) (by simp)
        obtain⟨kl,hlv⟩:=c.evI hl
        obtain⟨kc,hmv⟩:=c.evI hm
        have hr:=run_make (P:=P) w T e inf z hT EC hz kl kc n k n0 n1 n2 n3
        have zK:=asX (w':=w) c.hp hcl'
        rw [aat]at zK
        have tG:(v5 n.toNat y0).length=n.toNat:=by simp
        have hcells:(madeCells z.cells (k.toNat * inf.size)).toList.take (n.toNat * t.size)=vA (v5 n.toNat z.cells.toList):=by
         rw [k1,← k2,XK]
         have:=YJ z.cells.toList (n:=n.toNat) (m:=k.toNat) (by omega)
         rwa [Array.length_toList]at this
        have xG:(w.alloc (.cells (madeCells z.cells (k.toNat * inf.size)) e)).ownsRow 0 e t.size (.slice (some ⟨w.heap.size,0,none⟩) n.toNat k.toNat) (v5 n.toNat y0).length (vA (v5 n.toNat z.cells.toList)):=by
         rw [tG]
         refine⟨by rw [Ak,Array.length_toList,k2],.inr ⟨w.heap.size,k.toNat,_,rfl,Nat.zero_le _,heap_alloc_new w _,by omega,HK (by omega),by rw [size_madeCells,k1],hcells⟩⟩
        have hT: ∀ m:Nat,Zm w ρ t (vA (v5 m z.cells.toList)) (v5 m y0) (v5 m []) none:=by
         intro m
         induction m with
         |zero=>exact Zm.nil _ _ _
         |succ m ih=>
          rw [List.replicate_succ,List.replicate_succ,List.replicate_succ]
          exact(Zm.one1 zK).append ih (by simpa using zK.length) (fun b hb=>by simp [ue]at hb)
        obtain⟨ρ',hv,hX,hp⟩:=c.hp.treeNew (nid:=nid) (G:= []) (pA nid (by simp)) (World.grownBy_alloc w _ none) (Yk xG) (hT _) (fun g hg=>by cases hg) (fun b hb=>Nat.le_of_eq (YH hb).symm) (fun b hb=>by rw [apq]at hb;cases hb)
        refine ba ?_ (hC ρ' (.slice (some ⟨w.heap.size,0,none⟩) n.toNat k.toNat) _ hX ?_ hp)
        ·simp [execOp,hlv,hmv,hr]
        ·simp only [one,SV.conc,V1.conc,Cell.conc]
         exact hv.symm
       ·cases h
      |false=>
      rw [htr]at h
      simp only [cond_false]at h
      cases h
      have n0:0≤n:=by simpa using cL (decide (0≤n)) (by simp)
      have n1:n≤k:=by simpa using cL (decide (n≤k)) (by simp)
      have n2:(inf.bytes:Int) * k≤281474976710656:=by simpa using cL (decide ((inf.bytes:Int) * k≤281474976710656)) (by simp)
      have n3:k≤9223372036854775807:=by simpa using cL (decide (k≤9223372036854775807)) (by simp)
      obtain⟨kl,hlv⟩:=c.evI hl
      obtain⟨kc,hmv⟩:=c.evI hm
      have hr:=run_make (P:=P) w T e inf z hT EC hz kl kc n k n0 n1 n2 n3
      have zK:=aft (ρ:=ρ) (H:=ρ.mem) t _ _ _ hcl
      rw [aat]at zK
      have tG:(v5 n.toNat x0).length=n.toNat:=by simp
      have hcells:(madeCells z.cells (k.toNat * inf.size)).toList.take (n.toNat * t.size)=vA (v5 n.toNat z.cells.toList):=by
       rw [k1,← k2,XK]
       have:=YJ z.cells.toList (n:=n.toNat) (m:=k.toNat) (by omega)
       rwa [Array.length_toList]at this
      have xG:(w.alloc (.cells (madeCells z.cells (k.toNat * inf.size)) e)).ownsRow 0 e t.size (.slice (some ⟨w.heap.size,0,none⟩) n.toNat k.toNat) (v5 n.toNat x0).length (vA (v5 n.toNat z.cells.toList)):=by
       rw [tG]
       refine⟨by rw [Ak,Array.length_toList,k2],.inr ⟨w.heap.size,k.toNat,_,rfl,Nat.zero_le _,heap_alloc_new w _,by omega,HK (by omega),by rw [size_madeCells,k1],hcells⟩⟩
      obtain⟨hX,hp⟩:=c.hp.rowNew (nid:=nid) (pA nid (by simp)) (World.grownBy_alloc w _ none) (Yk xG) (qu.replicate zK _) (fun b hb=>Nat.le_of_eq (YH hb).symm)
      refine ba ?_ (hC _ (.slice (some ⟨w.heap.size,0,none⟩) n.toNat k.toNat) _ hX ?_ hp)
      ·simp [execOp,hlv,hmv,hr]
      ·simp only [one,SV.conc,V1.conc,Cell.conc]
       rw [lz _ _ rfl]
    ·cases h
   ·cases h
  ·cases h
 ·cases h
theorem amd{ent e0:Nat→Option Entry}{used:Nat→Bool}(hs: ∀ id e,e0 id=some e→ent id=some e){l:List Nat}(h:Hp B ρ (bS ent (frz e0 l)) used w){t:CTy}: ∀ {n:Nat} {cs:List Cell} {xs:List (E t)} {ids:List Nat},am7 e0 t cs n=some (xs,ids)→(∀ id∈ids,id∈l)→
  qu ρ.mem t (cs.map (Cell.conc ρ)) xs∧xs.length=n
 |0,[],xs,ids,hc,_=>by simp [am7]at hc;obtain⟨rfl,_⟩:=hc;exact⟨qu.nil _ _,rfl⟩
 |0,_::_,xs,ids,hc,_=>by simp [am7]at hc
 |n + 1,cs,xs,ids,hc,hl=>by
  simp only [am7]at hc
  split at hc
  ·rename_i x1 l1 ys m1 h1 h2
   cases hc
   have a1:=UU hs h t _ _ _ h1 fun i hi=>hl i (by simp [hi])
   obtain⟨a2,a3⟩:=amd hs h h2 fun i hi=>hl i (by simp [hi])
   refine⟨?_,by simp [a3]⟩
   have:=(qu.one a1).append a2
   rw [← List.map_append,List.take_append_drop]at this
   exact this
  ·cases hc
theorem afG: ∀ {L:List Nat},afF L=true→L.Nodup
 | [],_=>List.nodup_nil
 |i::r,h=>by
  simp only [afF,j6,Bool.not_eq_true']at h
  refine List.nodup_cons.2 ⟨fun hm=> ?_,afG h.2⟩
  rw [memN_mem.2 hm]at h;cases h.1
theorem amc(c:Ctx B ρ s a w look ent A){T:TypeId}{len:Nat}{parts:Array (Nat×Operand)}(ho:o.op= .buildSlice T len parts)(h:ahX P tr look ent A nid T len parts=some r)(pA: ∀ i∈r.new,s.used i=false)(hC:rY B s ρ r o a K):o.wp P a w K Q:=by
 obtain⟨dst,op,ty,pos,after,guard⟩:=o
 simp only at ho;subst ho
 unfold ahX at h
 split at h
 ·rename_i e vs hT hvs
  split at h
  ·rename_i inf t EC ht
   split at h
   ·rename_i z hz
    split at h
    ·rename_i cs Tz
     have hrun: ∀ (cs0:List Cell),cs0=cs→Nat.beq inf.size t.size=true→Nat.beq z.cells.size t.size=true→Nat.ble (len * t.size) 16777216=true→
       (Instr.buildSlice T len (parts.map fun(i,x)=>(i,a.eval x))).run P w= .ok (.slice (some ⟨w.heap.size,0,none⟩) len len) (w.alloc (.cells (cs.map (Cell.conc ρ)).toArray e)):=by
      intro cs0 _ k1 k2 k3
      have k1:=q8 k1
      have k2:=q8 k2
      have k3:=v6 k3
      obtain⟨e1,i1⟩:=akK c hvs
      have hfl:=ah4 (ρ:=ρ) Tz
      rw [ari,List.map_replicate,aat,← XK,j9,k2]at hfl
      rw [← e1]at hfl
      have hz0: ∀ zz:Array Value,(zz=z.cells∨len * t.size=0)→(Array.range (len * t.size)).map (zz[· % zz.size]!)=madeCells z.cells (len * t.size):=by
       intro zz hzz
       rcases hzz with rfl | h0
       ·rfl
       ·rw [h0];simp [madeCells]
      by_cases h0:len * t.size=0
      ·have hq:=hz0 #[] (.inr h0)
       simp [Instr.buildSlice,run_underlying hT,sizeOf,typeInfo,EC,k1,h0]
       rw [h0]at hq hfl
       simp at hq
       rw [hq]
       simp [hfl,newRow]
      ·simp [Instr.buildSlice,run_underlying hT,sizeOf,typeInfo,zeroValue,EC,hz,k1,show ¬ 16777216 < len * t.size by omega,h0]
       have hq:=hz0 z.cells (.inl rfl)
       rw [hq]
       simp [hfl,newRow]
     cases htr:(tr&& !t.flat)with
     |true=>
      rw [htr]at h
      simp only [cond_true]at h
      split at h
      ·rename_i xs l hcl
       cases lO:(Nat.beq inf.size t.size&&Nat.beq z.cells.size t.size&&Nat.ble (len * t.size) 16777216&&afF (ue l))with
       |false=>simp [lO]at h
       |true=>
        simp only [lO,cond_true]at h
        cases h
        simp only [j6]at lO
        obtain⟨⟨⟨k1,k2⟩,k3⟩,k4⟩:=lO
        have hr:=hrun cs rfl k1 k2 k3
        have k3:=v6 k3
        have hp0:Hp B ρ ent s.used w:=⟨fun id e he=>c.hp.he id e (c.hE _ _ he),fun id id' e e' b he he'=>c.hp.hi id id' e e' b (c.hE _ _ he) (c.hE _ _ he'),c.hp.hf⟩
        obtain⟨Ls,t1,t2,t3,t4,t5⟩:=ajS hp0 hcl (afG k4)
        have TY:((cs.map (Cell.conc ρ)).toArray).size=len * t.size:=by rw [List.size_toArray,List.length_map,t5]
        have hm:len≤maxLen:=by
         refine HK ?_
         have:=Nat.le_mul_of_pos_right len (EL t)
         omega
        have xG:=World.ownsRow_lit (base:=0) (size:=t.size) (e:=e) w (cs.map (Cell.conc ρ)).toArray len (Nat.zero_le _) hm TY
        rw [← t4,List.toList_toArray]at xG
        have hun:s.used nid=false:=pA nid (by simp)
        obtain⟨ρ',hv,hX,hp⟩:=c.hp.treeNew (nid:=nid) (G:=ue l) hun (World.grownBy_alloc w _ none) (Yk xG) t1 (fun g hg=>by
         obtain⟨e0,he0⟩:=t3 g hg
         exact(hp0.he g e0 he0).2.1) (fun b hb=>Nat.le_of_eq (YH hb).symm) (fun b hb=>by
         obtain⟨k,l0,hl0,hb0⟩:=rB.1 hb
         obtain⟨ids,hids,i,hi,e0,he0,hb1⟩:=t2 k l0 hl0 b hb0
         exact⟨i,rB.2 ⟨k,ids,hids,hi⟩,e0,c.hE _ _ he0,hb1⟩)
        rw [t4]at hv
        refine ba ?_ (hC ρ' (.slice (some ⟨w.heap.size,0,none⟩) len len) _ hX ?_ hp)
        ·simp only [execOp]
         simp [hr]
        ·simp only [one,SV.conc,V1.conc,Cell.conc]
         exact hv.symm
      ·cases h
     |false=>
     rw [htr]at h
     simp only [cond_false]at h
     split at h
     ·rename_i xs l hcl
      cases lO:(Nat.beq inf.size t.size&&Nat.beq z.cells.size t.size&&Nat.ble (len * t.size) 16777216)with
      |false=>simp [lO]at h
      |true=>
       simp only [lO,cond_true]at h
       cases h
       simp only [j6]at lO
       obtain⟨⟨k1,k2⟩,k3⟩:=lO
       have hr:=hrun cs rfl k1 k2 k3
       have k3:=v6 k3
       obtain⟨ρ1,n1,x1,hp1⟩:=c.hp.freezes c.hE l
       obtain⟨zK,tG⟩:=amd c.hE hp1 hcl fun i hi=>hi
       rw [aii n1]at zK
       have TY:((cs.map (Cell.conc ρ)).toArray).size=len * t.size:=by rw [List.size_toArray,zK.1,tG]
       have hm:len≤maxLen:=by
        refine HK ?_
        have:=Nat.le_mul_of_pos_right len (EL t)
        omega
       have xG:=World.ownsRow_lit (base:=0) (size:=t.size) (e:=e) w (cs.map (Cell.conc ρ)).toArray len (Nat.zero_le _) hm TY
       rw [← tG,List.toList_toArray]at xG
       have hun:s.used nid=false:=pA nid (by simp)
       obtain⟨hX,hp⟩:=hp1.rowNew (nid:=nid) hun (World.grownBy_alloc w _ none) (Yk xG) zK (fun b hb=>Nat.le_of_eq (YH hb).symm)
       rw [Fe]at hp
       rw [tG]at hX hp
       refine ba ?_ (hC _ (.slice (some ⟨w.heap.size,0,none⟩) len len) _ (x1.trans hX fun _ h=>h) ?_ hp)
       ·simp only [execOp]
        simp [hr]
       ·simp only [one,SV.conc,V1.conc,Cell.conc]
        rw [lz _ _ rfl]
     ·cases h
    ·cases h
   ·cases h
  ·cases h
 ·cases h
end
end Go.SX
namespace Go.SX
open Go.RowKit
def Cell.ids:Cell→List Nat
 | .val _=> []
 | .ptr id _=> [id]
 | .ref id=> [id]
 | .el id _ _ _=> [id]
 | .vw id _ _=> [id]
 | .clo _ caps=>caps
 | .bnd _ vs=>adz vs
def V1.ids(v:V1):List Nat:=vA (v.cs.map Cell.ids)
def SV.ids:SV→List Nat
 | .one v=>v.ids
 | .tup vs=>vA (vs.map V1.ids)
def Entry.ids:Entry→List Nat
 | .box _ cs=>vA (cs.map Cell.ids)
 | .tree _ _ _ (some (_,cs))=>vA (cs.map Cell.ids)
 |_=> []
def akC(acc:List Nat):List Nat→List Nat
 | []=>acc
 |i::r=>bif memN acc i then akC acc r else akC (acc++ [i]) r
def ah3(ent:Nat→Option Entry)(i:Nat):List Nat:=
 match ent i with
 |some e=>e.ids
 |none=> []
def aaa(ent:Nat→Option Entry):Nat→List Nat→List Nat
 |0,l=>l
 |f + 1,l=>aaa ent f (akC l (vA (l.map (ah3 ent))))
def zf{α β:Type}(f:α→Option β):List α→Option (List β)
 | []=>some []
 |a::r=>match f a,zf f r with
  |some b,some bs=>some (b::bs)
  |_,_=>none
def abs:List Nat→Nat→Option Nat
 | [],_=>none
 |p::r,i=>bif Nat.beq p i then some 0 else(abs r i).map (· + 1)
def aao(f:Nat→Option Nat):Nat×Option Value→Option (Nat×Option Value)
 |(id,none)=>(f id).map (·,none)
 |(id,some v)=>some (id,some v)
def Cell.ren(f:Nat→Option Nat):Cell→Option Cell
 | .val v=>some (.val v)
 | .ptr id off=>(f id).map (Cell.ptr · off)
 | .ref id=>(f id).map .ref
 | .el id z i off=>(f id).map (Cell.el · z i off)
 | .vw id z k=>(f id).map (Cell.vw · z k)
 | .clo k caps=>(zf f caps).map (.clo k)
 | .bnd k vs=>(zf (aao f) vs).map (.bnd k)
def V1.ren(f:Nat→Option Nat)(v:V1):Option V1:=(zf (Cell.ren f) v.cs).map (V1.mk v.agg)
def SV.ren(f:Nat→Option Nat):SV→Option SV
 | .one v=>(v.ren f).map .one
 | .tup vs=>(zf (V1.ren f) vs).map .tup
def Entry.ren(f:Nat→Option Nat):Entry→Option Entry
 | .box T cs=>(zf (Cell.ren f) cs).map (.box T)
 | .row own e t xs=>some (.row own e t xs)
 | .tree e t xs none=>some (.tree e t xs none)
 | .tree e t xs (some (k,cs))=>(zf (Cell.ren f) cs).map fun c=> .tree e t xs (some (k,c))
 | .wk e t xs=>some (.wk e t xs)
 | .gone=>some .gone
def aim:List Nat→Bool
 | []=>true
 |i::r=> !memN r i&&aim r
def anX(L:List Nat)(j:Nat):Option Nat:=L[j]?
def aeW(ent:Nat→Option Entry):List Nat→List Entry→List (Nat×Entry)
 |i::r,e::es=>match ent i with
  |some (.row false _ _ _)=>aeW ent r es
  |_=>(i,e)::aeW ent r es
 |_,_=> []
def aoL(ent:Nat→Option Entry)(kp:List Nat)(n:Nat):Nat→List Nat→List Entry→List (Nat×Entry)
 |j,i::r,e::es=>match ent i with
  |some (.row false _ _ _)=>aoL ent kp n (j + 1) r es
  |_=>bif Nat.blt j n&&memN kp j then aoL ent kp n (j + 1) r es else(i,e)::aoL ent kp n (j + 1) r es
 |_,_,_=> []
def atC(ent:Nat→Option Entry)(L:List Nat)(i:Nat):Option Entry:=
 match ent i with
 |some e=>e.ren (abs L)
 |none=>none
def asR{P:Program}(tbl:List (PF P))(ent:Nat→Option Entry)(nid:Nat)(k:FuncId)(args:List SV)(L:List Nat):Option Raw:=
 match zf (SV.ren (abs L)) args,zf (atC ent L) L with
 |some args',some es'=>match afs tbl k args' es' with
  |some (out,kp)=>
   let ns:=bw nid out.new.length
   match out.res.ren (anX (L++ns)),zf (Entry.ren (anX (L++ns))) (out.es++out.new)with
   |some v,some es=>bif aim L then some ⟨v,aoL ent kp L.length 0 (L++ns) es,ns,out.nd⟩else none
   |_,_=>none
  |none=>none
 |_,_=>none
def atv(P:Program)(k:FuncId):Bool:=
 match P.funcs[k]? with
 |some fn=> !(fn.name== "runtime.NumGoroutine")&& !fn.body.isNone
 |none=>false
def asU(caps:List Nat):List SV:=caps.map fun id=>one (.ptr id 0)
def axZ:Nat×Option Value→Cell
 |(id,none)=> .ref id
 |(_,some v)=> .val v
def awI(vs:List (Nat×Option Value)):SV:= .one ⟨true,vs.map axZ⟩
def awK(P:Program)(tbl:List (PF P))(look:Nat→Option SS)(ent:Nat→Option Entry)(A:List (Nat×Bool))(nid:Nat)(f:Operand)(args:List Operand):Option Raw:=
 match evC look A f,evs look A args with
 |some (.val (.func (.func k) fi ca)),some vs=>match fi.toList,ca.toList with
  | [],[]=>bif atv P k then asR tbl ent nid k vs (aaa ent 4 (akC [] (vA (vs.map SV.ids))))else none
  |_,_=>none
 |some (.clo k caps),some vs=>bif atv P k then asR tbl ent nid k (vs++asU caps) (aaa ent 4 (akC [] (vA ((vs++asU caps).map SV.ids))))else none
 |some (.bnd k bs),some vs=>bif atv P k then asR tbl ent nid k (awI bs::vs) (aaa ent 4 (akC [] (vA ((awI bs::vs).map SV.ids))))else none
 |_,_=>none
theorem anD{ρ ρ':Nm}{f:Nat→Option Nat}: ∀ {vs js:List (Nat×Option Value)},zf (aao f) vs=some js→(∀ i∈adz vs,∀ j,f i=some j→ρ' j=ρ i)→js.map (bcV ρ')=vs.map (bcV ρ)
 | [],js,h,_=>by simp [zf]at h;subst h;rfl
 |(id,none)::r,js,h,hf=>by
  simp only [zf,aao]at h
  cases hq:f id with
  |none=>simp [hq]at h
  |some j=>
   cases hr:zf (aao f) r with
   |none=>simp [hq,hr]at h
   |some ks=>
    simp [hq,hr]at h;subst h
    rw [k7,k7,anD hr fun i hi=>hf i (List.mem_cons_of_mem _ hi)]
    simp only [bcV,hf id (List.mem_cons_self ..) j hq]
 |(id,some v)::r,js,h,hf=>by
  simp only [zf,aao]at h
  cases hr:zf (aao f) r with
  |none=>simp [hr]at h
  |some ks=>
   simp [hr]at h;subst h
   rw [k7,k7,anD hr fun i hi=>hf i hi]
   rfl
theorem aeO{f:Nat→Option Nat}{p:Nat→Prop}: ∀ {vs js:List (Nat×Option Value)},zf (aao f) vs=some js→(∀ i∈adz vs,∀ j,f i=some j→p j)→ ∀ j∈adz js,p j
 | [],js,h,_=>by simp [zf]at h;subst h;intro j hj;cases hj
 |(id,none)::r,js,h,hf=>by
  simp only [zf,aao]at h
  cases hq:f id with
  |none=>simp [hq]at h
  |some j=>
   cases hr:zf (aao f) r with
   |none=>simp [hq,hr]at h
   |some ks=>
    simp [hq,hr]at h;subst h
    intro k hk
    rcases List.mem_cons.1 hk with rfl | hk
    ·exact hf id (List.mem_cons_self ..) _ hq
    ·exact aeO hr (fun i hi=>hf i (List.mem_cons_of_mem _ hi)) k hk
 |(id,some v)::r,js,h,hf=>by
  simp only [zf,aao]at h
  cases hr:zf (aao f) r with
  |none=>simp [hr]at h
  |some ks=>
   simp [hr]at h;subst h
   exact aeO (vs:=r) (js:=ks) hr (fun i hi=>hf i hi)
theorem anE{f:Nat→Option Nat}: ∀ {vs:List (Nat×Option Value)},(∀ i∈adz vs,∃ j,f i=some j)→ ∃ js,zf (aao f) vs=some js
 | [],_=>⟨[],rfl⟩
 |(id,none)::r,h=>by
  obtain⟨j,hj⟩:=h id (List.mem_cons_self ..)
  obtain⟨ks,hk⟩:=anE (vs:=r) fun i hi=>h i (List.mem_cons_of_mem _ hi)
  exact⟨(j,none)::ks,by simp [zf,aao,hj,hk]⟩
 |(id,some v)::r,h=>by
  obtain⟨ks,hk⟩:=anE (vs:=r) fun i hi=>h i hi
  exact⟨(id,some v)::ks,by simp [zf,aao,hk]⟩
theorem ak2{f g:Nat→Option Nat}(h: ∀ i j k,f i=some j→g j=some k→k=i): ∀ {vs js ks:List (Nat×Option Value)},zf (aao f) vs=some js→zf (aao g) js=some ks→ks=vs
 | [],js,ks,h1,h2=>by simp [zf]at h1;subst h1;simp [zf]at h2;exact h2
 |(id,none)::r,js,ks,h1,h2=>by
  simp only [zf,aao]at h1
  cases hq:f id with
  |none=>simp [hq]at h1
  |some j=>
   cases hr:zf (aao f) r with
   |none=>simp [hq,hr]at h1
   |some l=>
    simp [hq,hr]at h1;subst h1
    simp only [zf,aao]at h2
    cases hq2:g j with
    |none=>simp [hq2]at h2
    |some k=>
     cases hr2:zf (aao g) l with
     |none=>simp [hq2,hr2]at h2
     |some m=>
      simp [hq2,hr2]at h2;subst h2
      rw [ak2 h hr hr2,h id j k hq hq2]
 |(id,some v)::r,js,ks,h1,h2=>by
  simp only [zf,aao]at h1
  cases hr:zf (aao f) r with
  |none=>simp [hr]at h1
  |some l=>
   simp [hr]at h1;subst h1
   simp only [zf,aao]at h2
   cases hr2:zf (aao g) l with
   |none=>simp [hr2]at h2
   |some m=>
    simp [hr2]at h2;subst h2
    rw [ak2 h hr hr2]
theorem NM{α β:Type}{f:α→Option β}: ∀ {l:List α} {r:List β},zf f l=some r→r.length=l.length∧ ∀ (i:Nat),(∀ y,r[i]? =some y→ ∃ x,l[i]? =some x∧f x=some y)
 | [],r,h=>by simp [zf]at h;subst h;simp
 |a::l,r,h=>by
  simp only [zf]at h
  split at h
  ·rename_i b bs h1 h2
   cases h
   obtain⟨e1,e2⟩:=NM h2
   refine⟨by simp [e1],fun i y hy=> ?_⟩
   cases i with
   |zero=>simp at hy;subst hy;exact⟨a,rfl,h1⟩
   |succ i=>simp at hy;simpa using e2 i y hy
  ·cases h
theorem NN{α β γ:Type}{f:α→Option β}{g:β→γ}{h:α→γ}: ∀ {l:List α} {r:List β},zf f l=some r→(∀ x∈l,∀ y,f x=some y→g y=h x)→r.map g=l.map h
 | [],r,he,_=>by simp [zf]at he;subst he;rfl
 |a::l,r,he,hg=>by
  simp only [zf]at he
  split at he
  ·rename_i b bs h1 h2
   cases he
   simp only [k7,hg a (by simp) b h1,NN h2 fun x hx=>hg x (by simp [hx])]
  ·cases he
theorem Gv{α β:Type}{f:α→Option β}{p:β→Prop}: ∀ {l:List α} {r:List β},zf f l=some r→(∀ x∈l,∀ y,f x=some y→p y)→ ∀ y∈r,p y
 | [],r,he,_=>by simp [zf]at he;subst he;simp
 |a::l,r,he,hg=>by
  simp only [zf]at he
  split at he
  ·rename_i b bs h1 h2
   cases he
   intro y hy
   rcases List.mem_cons.1 hy with rfl | hy
   ·exact hg a (by simp) _ h1
   ·exact Gv h2 (fun x hx=>hg x (by simp [hx])) y hy
  ·cases he
section
variable{f:Nat→Option Nat}{U U':Nat→Bool}{ρ ρ':Nm}
theorem Cell.ren_conc(hf: ∀ i j,U i=true→f i=some j→ρ' j=ρ i){c c':Cell}(hc:c.inU U)(h:c.ren f=some c'):c'.conc ρ'=c.conc ρ:=by
 cases c with
 |val v=>simp [Cell.ren]at h;subst h;rfl
 |ptr id off=>
  simp only [Cell.ren,q9]at h
  obtain⟨j,hj,rfl⟩:=h
  simp only [Cell.conc,hf id j hc hj]
 |ref id=>
  simp only [Cell.ren,q9]at h
  obtain⟨j,hj,rfl⟩:=h
  simp only [Cell.conc,hf id j hc hj]
 |el id z i off=>
  simp only [Cell.ren,q9]at h
  obtain⟨j,hj,rfl⟩:=h
  simp only [Cell.conc,hf id j hc hj]
 |vw id z k=>
  simp only [Cell.ren,q9]at h
  obtain⟨j,hj,rfl⟩:=h
  simp only [Cell.conc,hf id j hc hj]
 |clo k caps=>
  simp only [Cell.ren,q9]at h
  obtain⟨js,hj,rfl⟩:=h
  simp only [Cell.conc]
  rw [NN hj fun x hx y hy=>by rw [hf x y (hc x hx) hy]]
 |bnd k vs=>
  simp only [Cell.ren,q9]at h
  obtain⟨js,hj,rfl⟩:=h
  simp only [Cell.conc]
  rw [anD hj fun i hi j hij=>hf i j (hc i hi) hij]
theorem Cell.ren_inU(hf: ∀ i j,f i=some j→U' j=true){c c':Cell}(h:c.ren f=some c'):c'.inU U':=by
 cases c with
 |val v=>simp [Cell.ren]at h;subst h;trivial
 |ptr id off=>
  simp only [Cell.ren,q9]at h
  obtain⟨j,hj,rfl⟩:=h
  exact hf id j hj
 |ref id=>
  simp only [Cell.ren,q9]at h
  obtain⟨j,hj,rfl⟩:=h
  exact hf id j hj
 |el id z i off=>
  simp only [Cell.ren,q9]at h
  obtain⟨j,hj,rfl⟩:=h
  exact hf id j hj
 |vw id z k=>
  simp only [Cell.ren,q9]at h
  obtain⟨j,hj,rfl⟩:=h
  exact hf id j hj
 |clo k caps=>
  simp only [Cell.ren,q9]at h
  obtain⟨js,hj,rfl⟩:=h
  exact Gv hj fun x _ y hy=>hf x y hy
 |bnd k vs=>
  simp only [Cell.ren,q9]at h
  obtain⟨js,hj,rfl⟩:=h
  exact aeO hj fun i _ j hij=>hf i j hij
theorem V1.ren_conc(hf: ∀ i j,U i=true→f i=some j→ρ' j=ρ i){v v':V1}(hc:v.inU U)(h:v.ren f=some v'):v'.conc ρ'=v.conc ρ:=by
 obtain⟨g,cs⟩:=v
 simp only [V1.ren,q9]at h
 obtain⟨cs',Tz,rfl⟩:=h
 have hm:cs'.map (Cell.conc ρ')=cs.map (Cell.conc ρ):=NN Tz fun x hx y hy=>Cell.ren_conc hf (hc x hx) hy
 simp only [V1.conc]
 cases g with
 |true=>simp only [hm]
 |false=>
  have hl:=congrArg List.length hm
  simp only [List.length_map]at hl
  cases cs with
  |nil=>rw [List.eq_nil_of_length_eq_zero hl]
  |cons x xr=>
   cases cs' with
   |nil=>cases hl
   |cons y yr=>
    cases xr with
    |nil=>
     cases yr with
     |nil=>simpa using hm
     |cons _ _=>simp at hl
    |cons _ _=>
     cases yr with
     |nil=>simp at hl
     |cons _ _=>rfl
theorem SV.ren_conc(hf: ∀ i j,U i=true→f i=some j→ρ' j=ρ i){v v':SV}(hc:v.inU U)(h:v.ren f=some v'):v'.conc ρ'=v.conc ρ:=by
 cases v with
 |one v=>
  simp only [SV.ren,q9]at h
  obtain⟨u,hu,rfl⟩:=h
  exact V1.ren_conc hf hc hu
 |tup vs=>
  simp only [SV.ren,q9]at h
  obtain⟨u,hu,rfl⟩:=h
  simp only [SV.conc]
  rw [NN hu fun x hx y hy=>V1.ren_conc hf (hc x hx) hy]
end
theorem Im: ∀ {L:List Nat} {i j:Nat},abs L i=some j→L[j]? =some i
 | [],i,j,h=>by simp [abs]at h
 |p::r,i,j,h=>by
  simp only [abs]at h
  cases hb:Nat.beq p i with
  |true=>simp [hb]at h;subst h;simp [q8 hb]
  |false=>
   simp only [hb,cond_false,q9]at h
   obtain⟨k,hk,rfl⟩:=h
   simpa using Im hk
theorem ain: ∀ {L:List Nat},aim L=true→L.Nodup
 | [],_=>List.nodup_nil
 |i::r,h=>by
  simp only [aim,j6,Bool.not_eq_true']at h
  refine List.nodup_cons.2 ⟨fun hm=> ?_,ain h.2⟩
  rw [memN_mem.2 hm]at h;cases h.1
theorem ans{L:List Nat}(hn:L.Nodup){j j' i:Nat}(h:L[j]? =some i)(h':L[j']? =some i):j=j':=
 (List.getElem?_inj (k9.1 h).1 hn).1 (h.trans h'.symm)
def ayt(ent:Nat→Option Entry)(i:Nat):Prop:= ∀ e t xs,ent i≠some (.row false e t xs)
theorem anR{ent:Nat→Option Entry}: ∀ {L:List Nat} {es:List Entry} {i:Nat} {e:Entry},look? (aeW ent L es) i=some e→ ∃ j:Nat,L[j]? =some i∧es[j]? =some e
 | [],es,i,e,h=>by simp [aeW,look?]at h
 |_::_,[],i,e,h=>by simp [aeW,look?]at h
 |k::r,x::es,i,e,h=>by
  simp only [aeW]at h
  split at h
  ·obtain⟨j,h1,h2⟩:=anR h;exact⟨j + 1,by simpa using h1,by simpa using h2⟩
  ·simp only [look?]at h
   cases hb:Nat.beq k i with
   |true=>simp [hb]at h;subst h;exact⟨0,by simp [q8 hb],rfl⟩
   |false=>simp [hb]at h;obtain⟨j,h1,h2⟩:=anR h;exact⟨j + 1,by simpa using h1,by simpa using h2⟩
theorem atX{ent:Nat→Option Entry}: ∀ {L:List Nat} {es:List Entry} {i j:Nat},L[j]? =some i→es.length=L.length→ayt ent i→ ∃ e,look? (aeW ent L es) i=some e
 | [],es,i,j,h,_,_=>by simp at h
 |_::_,[],i,j,_,h,_=>by simp at h
 |k::r,x::es,i,j,h,hl,hd=>by
  simp only [aeW]
  cases j with
  |zero=>
   simp at h;subst h
   split
   ·rename_i e t xs he;exact(hd _ _ _ he).elim
   ·exact⟨x,look?_same _ _ _⟩
  |succ j=>
   simp at h hl
   obtain⟨e,he⟩:=atX h hl hd
   split
   ·exact⟨e,he⟩
   ·simp only [look?]
    cases Nat.beq k i with
    |true=>exact⟨x,rfl⟩
    |false=>exact⟨e,he⟩
theorem akT{α β:Type}{f:α→Option β}{g:β→Option α}: ∀ {l:List α} {m:List β} {n:List α},zf f l=some m→zf g m=some n→(∀ x∈l,∀ y z,f x=some y→g y=some z→z=x)→n=l
 | [],m,n,h1,h2,_=>by simp [zf]at h1;subst h1;simp [zf]at h2;exact h2
 |a::l,m,n,h1,h2,hr=>by
  simp only [zf]at h1
  split at h1
  ·rename_i b bs e1 e2
   cases h1
   simp only [zf]at h2
   split at h2
   ·rename_i c cs e3 e4
    cases h2
    rw [hr a (by simp) b c e1 e3,akT e2 e4 fun x hx=>hr x (by simp [hx])]
   ·cases h2
  ·cases h1
section
variable{f g:Nat→Option Nat}
theorem Cell.ren_round(h: ∀ i j k,f i=some j→g j=some k→k=i){c c1 c2:Cell}(h1:c.ren f=some c1)(h2:c1.ren g=some c2):c2=c:=by
 cases c with
 |val v=>simp [Cell.ren]at h1;subst h1;simp [Cell.ren]at h2;exact h2.symm
 |ptr id off=>
  simp only [Cell.ren,q9]at h1
  obtain⟨j,hj,rfl⟩:=h1
  simp only [Cell.ren,q9]at h2
  obtain⟨k,hk,rfl⟩:=h2
  rw [h _ _ _ hj hk]
 |ref id=>
  simp only [Cell.ren,q9]at h1
  obtain⟨j,hj,rfl⟩:=h1
  simp only [Cell.ren,q9]at h2
  obtain⟨k,hk,rfl⟩:=h2
  rw [h _ _ _ hj hk]
 |el id z i off=>
  simp only [Cell.ren,q9]at h1
  obtain⟨j,hj,rfl⟩:=h1
  simp only [Cell.ren,q9]at h2
  obtain⟨k,hk,rfl⟩:=h2
  rw [h _ _ _ hj hk]
 |vw id z q=>
  simp only [Cell.ren,q9]at h1
  obtain⟨j,hj,rfl⟩:=h1
  simp only [Cell.ren,q9]at h2
  obtain⟨k,hk,rfl⟩:=h2
  rw [h _ _ _ hj hk]
 |clo q caps=>
  simp only [Cell.ren,q9]at h1
  obtain⟨j,hj,rfl⟩:=h1
  simp only [Cell.ren,q9]at h2
  obtain⟨k,hk,rfl⟩:=h2
  rw [akT hj hk fun x _ y z h1 h2=>h x y z h1 h2]
 |bnd q vs=>
  simp only [Cell.ren,q9]at h1
  obtain⟨j,hj,rfl⟩:=h1
  simp only [Cell.ren,q9]at h2
  obtain⟨k,hk,rfl⟩:=h2
  rw [ak2 h hj hk]
theorem Entry.ren_round(h: ∀ i j k,f i=some j→g j=some k→k=i){e e1 e2:Entry}(h1:e.ren f=some e1)(h2:e1.ren g=some e2):e2=e:=by
 have hc: ∀ {cs cs1 cs2:List Cell},zf (Cell.ren f) cs=some cs1→zf (Cell.ren g) cs1=some cs2→cs2=cs:=fun h1 h2=>akT h1 h2 fun x _ y z q1 q2=>Cell.ren_round h q1 q2
 cases e with
 |box T cs=>
  simp only [Entry.ren,q9]at h1
  obtain⟨j,hj,rfl⟩:=h1
  simp only [Entry.ren,q9]at h2
  obtain⟨k,hk,rfl⟩:=h2
  rw [hc hj hk]
 |row own e t xs=>simp only [Entry.ren,w5]at h1;subst h1;simp only [Entry.ren,w5]at h2;exact h2.symm
 |tree e t xs ho=>
  cases ho with
  |none=>simp only [Entry.ren,w5]at h1;subst h1;simp only [Entry.ren,w5]at h2;exact h2.symm
  |some q=>
   obtain⟨n,cs⟩:=q
   simp only [Entry.ren,q9]at h1
   obtain⟨j,hj,rfl⟩:=h1
   simp only [Entry.ren,q9]at h2
   obtain⟨k,hk,rfl⟩:=h2
   rw [hc hj hk]
 |wk e t xs=>simp only [Entry.ren,w5]at h1;subst h1;simp only [Entry.ren,w5]at h2;exact h2.symm
 |gone=>simp only [Entry.ren,w5]at h1;subst h1;simp only [Entry.ren,w5]at h2;exact h2.symm
end
theorem look?_ne_mem{es:List (Nat×Entry)}{i:Nat}(h: ∀ e,(i,e)∉es):look? es i=none:=by
 induction es with
 |nil=>rfl
 |cons p r ih=>
  obtain⟨k,x⟩:=p
  simp only [look?]
  cases hb:Nat.beq k i with
  |true=>rw [q8 hb]at h;exact(h x (by simp)).elim
  |false=>simp only [cond_false];exact ih fun e he=>h e (by simp [he])
theorem amW{ent:Nat→Option Entry}{kp:List Nat}{n:Nat}: ∀ {M:List Nat} {es:List Entry} {j i:Nat} {e:Entry},(i,e)∈aoL ent kp n j M es→i∈M
 | [],es,j,i,e,h=>by simp [aoL]at h
 |_::_,[],j,i,e,h=>by simp [aoL]at h
 |k::r,x::es,j,i,e,h=>by
  simp only [aoL]at h
  split at h
  ·exact List.mem_cons_of_mem _ (amW h)
  ·cases hb:(Nat.blt j n&&memN kp j)with
   |true=>rw [hb]at h;exact List.mem_cons_of_mem _ (amW h)
   |false=>
    rw [hb]at h
    rcases List.mem_cons.1 h with h | h
    ·cases h;exact List.mem_cons_self ..
    ·exact List.mem_cons_of_mem _ (amW h)
theorem atY{ent e0:Nat→Option Entry}{kp:List Nat}{n:Nat}(hE: ∀ id e,ent id=some e→e0 id=some e): ∀ {M:List Nat} {es:List Entry} {j:Nat},M.Nodup→
  (∀ q i e,M[q]? =some i→es[q]? =some e→(Nat.blt (j + q) n&&memN kp (j + q))=true→ent i=some e)→bS e0 (aoL ent kp n j M es)=bS e0 (aeW ent M es)
 | [],es,j,_,_=>by simp [aoL,aeW]
 |_::_,[],j,_,_=>by simp [aoL,aeW]
 |k::r,x::es,j,hn,hk=>by
  obtain⟨hn1,hn2⟩:=List.nodup_cons.1 hn
  have ih:=atY (e0:=e0) (n:=n) (j:=j + 1) (kp:=kp) hE (M:=r) (es:=es) hn2 fun q i e h1 h2 h3=>hk (q + 1) i e (by simpa using h1) (by simpa using h2) (by rw [show j + (q + 1)=j + 1 + q by omega];exact h3)
  simp only [aoL,aeW]
  split
  ·exact ih
  ·funext id
   have ihd:=congrFun ih id
   cases hb:(Nat.blt j n&&memN kp j)with
   |false=>
    simp only [cond_false,bS,look?]
    cases Nat.beq k id with
    |true=>rfl
    |false=>exact ihd
   |true=>
    simp only [cond_true,bS,look?]
    cases hq:Nat.beq k id with
    |false=>exact ihd
    |true=>
     have hkid:=q8 hq
     subst hkid
     have h1:=hk 0 k x rfl rfl hb
     rw [look?_ne_mem fun e he=>hn1 (amW he)]
     exact hE _ _ h1
end Go.SX
namespace Go.SX
open Go.RowKit
section
variable{P:Program}{tbl:List (PF P)}{s:St}{look:Nat→Option SS}{ent:Nat→Option Entry}{A:List (Nat×Bool)}{nid:Nat}{o:Oper}{r:Raw}{B:Base}{ρ:Nm}{a:Act}{w:World}{K:Act→World→Prop}{Q:Exit→Act→World→Prop}
def aoZ(ent:Nat→Option Entry)(ρ:Nm)(L:List Nat)(b:Nat):Prop:= ∃ i∈L,∃ e,ent i=some e∧b∈e.ob ρ i
open Classical in
 noncomputable def memBig (w:World) (ent:Nat→Option Entry) (ρ:Nm) (L:List Nat) (b:Nat):Option Obj:=if aoZ ent ρ L b then none else w.heap[b]?
theorem aoa{L:List Nat}{b:Nat}{o:Obj}(h:memBig w ent ρ L b=some o):w.heap[b]? =some o:=by
 unfold memBig at h;split at h
 ·cases h
 ·exact h
theorem apH{L:List Nat}{b:Nat}(h:aoZ ent ρ L b):memBig w ent ρ L b=none:=by
 unfold memBig;rw [if_pos h]
theorem UW{L:List Nat}{b:Nat}(h:memBig w ent ρ L b=none):aoZ ent ρ L b∨w.heap.size≤b:=by
 unfold memBig at h;split at h
 ·rename_i h';exact .inl h'
 ·right
  rcases Nat.lt_or_ge b w.heap.size with hlt | hge
  ·rw [Array.getElem?_eq_getElem hlt]at h;cases h
  ·exact hge
 noncomputable def subNm (ρ:Nm) (L:List Nat):Nm:=⟨fun j=>match L[j]? with | some i=>ρ.nm i | none=> .nilFunc,ρ.mem,fun j=>match L[j]? with | some i=>ρ.fp i | none=> []⟩
theorem tV{L:List Nat}{j i:Nat}(h:L[j]? =some i):subNm ρ L j=ρ i:=by
 simp only [Nm.of,subNm,h]
theorem amS{L:List Nat}{j i:Nat}(h:L[j]? =some i):(subNm ρ L).fp j=ρ.fp i:=by
 simp only [subNm,h]
theorem anF{ρ ρ':Nm}{i j:Nat}{own:Bool}{e:TypeId}{t:CTy}{xs:List (E t)}(h:ρ' j=ρ i):(Entry.row own e t xs).ob ρ' j=(Entry.row own e t xs).ob ρ i:=by
 cases own <;> simp only [Entry.ob,h]
theorem ace{B':Base}{ρ':Nm}{id id':Nat}{f:Nat→Option Nat}{U:Nat→Bool}{e:TypeId}{t:CTy}{xs:List (E t)}{h:Option (Nat×List Cell)}{e':Entry}(hh:(Entry.tree e t xs h).holds B ρ w id)(hr:(Entry.tree e t xs h).ren f=some e')
  (lN:ρ' id'=ρ id) (hfp:ρ'.fp id'=ρ.fp id) (hb: ∀ b∈(Entry.tree e t xs h).ob ρ id,B'.mem b=none∧ρ'.mem b=none) (FK:(Entry.tree e t xs h).inU U) (hc: ∀ i j,U i=true→f i=some j→ρ' j=ρ i):
  e'.holds B' ρ' w id'∧e'.ob ρ' id'=(Entry.tree e t xs h).ob ρ id:=by
 obtain⟨cs,Ls,k1,k2,k3,k4,_⟩:=hh
 cases h with
 |none=>
  simp only [Entry.ren,w5]at hr;subst hr
  refine⟨?_,by simp only [Entry.ob,lN,hfp]⟩
  simp only [Entry.holds,lN,hfp]
  exact⟨cs,Ls,k1,k2.keep (fun _ _=>rfl) (fun _ _ h=>by cases h),k3,k4,hb⟩
 |some p=>
  obtain⟨k,hc0⟩:=p
  simp only [Entry.ren,q9]at hr
  obtain⟨c1,hm,rfl⟩:=hr
  refine⟨?_,by simp only [Entry.ob,lN,hfp]⟩
  simp only [Entry.holds,lN,hfp]
  obtain⟨t1,t2,t3,t4⟩:=k2
  refine⟨cs,Ls,k1,⟨t1,fun j l he=> ?_,fun i x l hi hx hl=>t3 i x l (fun j l' he=> ?_) hx hl,t4⟩,k3,k4,hb⟩
  ·cases he
   obtain⟨a,b,c⟩:=t2 k hc0 rfl
   refine⟨a,b,?_⟩
   rw [c]
   exact(NN hm fun x hx y hy=>Cell.ren_conc hc (FK x hx) hy).symm
  ·cases he;exact hi _ _ rfl
theorem arB{ρ':Nm}{id id':Nat}{f:Nat→Option Nat}{e:TypeId}{t:CTy}{xs:List (E t)}{h:Option (Nat×List Cell)}{e':Entry}(hr:(Entry.tree e t xs h).ren f=some e')(hh:e'.holds B ρ w id')
  (lN:ρ' id=ρ id') (hfp:ρ'.fp id=ρ.fp id') (Oj:ρ'.mem=ρ.mem) (hc: ∀ i j,f i=some j→ρ' i=ρ j):
  (Entry.tree e t xs h).holds B ρ' w id∧(Entry.tree e t xs h).ob ρ' id=e'.ob ρ id':=by
 cases h with
 |none=>
  simp only [Entry.ren,w5]at hr;subst hr
  obtain⟨cs,Ls,k1,k2,k3,k4,k5⟩:=hh
  refine⟨?_,by simp only [Entry.ob,lN,hfp]⟩
  simp only [Entry.holds,lN,hfp,Oj]
  exact⟨cs,Ls,k1,k2.keep (fun _ _=>rfl) (fun _ _ h=>by cases h),k3,k4,k5⟩
 |some p=>
  obtain⟨k,hc0⟩:=p
  simp only [Entry.ren,q9]at hr
  obtain⟨c1,hm,rfl⟩:=hr
  obtain⟨cs,Ls,k1,k2,k3,k4,k5⟩:=hh
  refine⟨?_,by simp only [Entry.ob,lN,hfp]⟩
  simp only [Entry.holds,lN,hfp,Oj]
  obtain⟨t1,t2,t3,t4⟩:=k2
  refine⟨cs,Ls,k1,⟨t1,fun j l he=> ?_,fun i x l hi hx hl=>t3 i x l (fun j l' he=> ?_) hx hl,t4⟩,k3,k4,k5⟩
  ·cases he
   obtain⟨a,b,c⟩:=t2 k c1 rfl
   refine⟨a,b,?_⟩
   rw [c]
   exact NN hm fun x hx y hy=>Cell.ren_conc (ρ:=ρ') (ρ':=ρ) (U:=fun _=>true) (fun i j _ hij=>(hc i j hij).symm) (by cases x <;> simp [Cell.inU]) hy
  ·cases he;exact hi _ _ rfl
theorem afN{f:Nat→Option Nat}{U':Nat→Bool}{e:TypeId}{t:CTy}{xs:List (E t)}{h:Option (Nat×List Cell)}{e':Entry}(hr:(Entry.tree e t xs h).ren f=some e')(hf: ∀ i j,f i=some j→U' j=true):e'.inU U':=by
 cases h with
 |none=>simp only [Entry.ren,w5]at hr;subst hr;trivial
 |some p=>
  obtain⟨k,hc0⟩:=p
  simp only [Entry.ren,q9]at hr
  obtain⟨c1,hm,rfl⟩:=hr
  exact Gv hm fun x _ y hy=>Cell.ren_inU hf hy
theorem YW{L:List Nat}{es:List Entry}(hE: ∀ id e,ent id=some e→s.ent id=some e)(h:zf (atC ent L) L=some es){j:Nat}{e':Entry}(hj:es[j]? =some e'):
  ∃ i e,L[j]? =some i∧s.ent i=some e∧e.ren (abs L)=some e':=by
 obtain⟨i,h1,h2⟩:=(NM h).2 j e' hj
 unfold atC at h2
 split at h2
 ·rename_i e he;exact⟨i,e,h1,hE _ _ he,h2⟩
 ·cases h2
theorem atB: ∀ {L:List Nat} {i:Nat},i∈L→ ∃ j,abs L i=some j
 | [],i,h=>by cases h
 |p::r,i,h=>by
  simp only [abs]
  cases hb:Nat.beq p i with
  |true=>exact⟨0,rfl⟩
  |false=>
   rcases List.mem_cons.1 h with rfl | h
   ·rw [show Nat.beq i i=true from Nat.beq_refl i]at hb;cases hb
   ·obtain⟨j,hj⟩:=atB h
    exact⟨j + 1,by rw [hj];rfl⟩
theorem lend(hE: ∀ id e,ent id=some e→s.ent id=some e)(hp:Hp B ρ s.ent s.used w){L:List Nat}(hn:L.Nodup){es:List Entry}(hes:zf (atC ent L) L=some es):
  HpL w (memBig w s.ent ρ L) es (subNm ρ L) w:=by
 have tG:=(NM hes).1
 have hpos: ∀ i j,(fun _:Nat=>true) i=true→abs L i=some j→subNm ρ L j=ρ i:=fun i j _ h=>tV (Im h)
 have hob: ∀ j e' i e,L[j]? =some i→s.ent i=some e→e.ren (abs L)=some e'→ ∀ b,b∈e'.ob (subNm ρ L) j→b∈e.ob ρ i:=by
  intro j e' i e h1 h2 h3 b hb
  cases e with
  |box T cs=>simp only [Entry.ren,q9]at h3;obtain⟨cs',_,rfl⟩:=h3;simp only [Entry.ob,tV h1]at hb ⊢;exact hb
  |row own e t xs=>simp only [Entry.ren,w5]at h3;subst h3;rw [anF (tV h1)]at hb;exact hb
  |tree e t xs ho=>rw [(ace (B':=B) (ρ':=subNm ρ L) (id':=j) (U:=fun _=>true) (hp.he _ _ h2).1 h3 (tV h1) (amS h1) (fun b hb=>(Entry.ob_lt (hp.he _ _ h2).1 hb).2) (Entry.inU_mono (fun _ _=>rfl) (hp.he _ _ h2).2.2) hpos).2]at hb;exact hb
  |wk e t xs=>simp only [Entry.ren,w5]at h3;subst h3;simp only [Entry.ob,tV h1]at hb ⊢;exact hb
  |gone=>simp only [Entry.ren,w5]at h3;subst h3;exact hb
 refine⟨fun j e' he'=> ?_,fun j j' e e' b he he' hb hb'=> ?_,rfl,rfl,rfl,Nat.le_refl _,fun b o hb=>aoa hb,hp.hf.dat,hp.hf.gl⟩
 ·obtain⟨i,e,h1,h2,h3⟩:=YW hE hes he'
  have hlt:j < es.length:=(k9.1 he').1
  obtain⟨g1,g2,g3⟩:=hp.he i e h2
  have hU: ∀ i j,abs L i=some j→Nat.blt j es.length=true:=fun i j h=>by
   have:=(k9.1 (Im h)).1
   simp only [Nat.blt,Nat.ble_eq];omega
  refine⟨?_,by simp only [Nat.blt,Nat.ble_eq];omega,?_⟩
  ·have xG: ∀ b∈e.ob ρ i,memBig w s.ent ρ L b=none:=fun b hb=>apH ⟨i,List.mem_of_getElem? h1,e,h2,hb⟩
   cases e with
   |box T cs=>
    simp only [Entry.ren,q9]at h3
    obtain⟨cs',Tz,rfl⟩:=h3
    obtain⟨b,k1,k2,k3,k4⟩:=g1
    refine⟨b,by rw [tV h1];exact k1,?_,xG b (by simp [Entry.ob,k1,jQ]),k4⟩
    rw [NN Tz fun x hx y hy=>Cell.ren_conc (U:=fun _=>true) hpos (by cases x <;> simp [Cell.inU]) hy]
    exact k2
   |row own e0 t xs=>
    simp only [Entry.ren,w5]at h3;subst h3
    cases own with
    |false=>simp only [Entry.holds];rw [tV h1];exact g1
    |true=>
     obtain⟨cs,k1,k2,k3⟩:=g1
     simp only [Entry.holds];rw [tV h1]
     exact⟨cs,k1,k2,fun b hb=>⟨xG b hb,(k3 b hb).2⟩⟩
   |tree e0 t xs ho=>exact(ace (ρ':=subNm ρ L) (id':=j) (U:=fun _=>true) g1 h3 (tV h1) (amS h1) (fun b hb=>⟨xG b hb,(Entry.ob_lt g1 hb).2.2⟩) (Entry.inU_mono (fun _ _=>rfl) g3) hpos).1
   |wk e0 t xs=>
    simp only [Entry.ren,w5]at h3;subst h3
    obtain⟨k1,k2,k3⟩:=g1
    simp only [Entry.holds];rw [tV h1]
    exact⟨k1,k2,fun b hb=>⟨xG b hb,(k3 b hb).2⟩⟩
   |gone=>simp only [Entry.ren,w5]at h3;subst h3;trivial
  ·cases e with
   |box T cs=>
    simp only [Entry.ren,q9]at h3
    obtain⟨cs',Tz,rfl⟩:=h3
    exact Gv Tz fun x _ y hy=>Cell.ren_inU hU hy
   |row own e0 t xs=>simp only [Entry.ren,w5]at h3;subst h3;trivial
   |tree e0 t xs ho=>exact afN h3 hU
   |wk e0 t xs=>simp only [Entry.ren,w5]at h3;subst h3;trivial
   |gone=>simp only [Entry.ren,w5]at h3;subst h3;trivial
 ·obtain⟨i,e1,h1,h2,h3⟩:=YW hE hes he
  obtain⟨i',e1',h1',h2',h3'⟩:=YW hE hes he'
  have:=hp.hi i i' e1 e1' b h2 h2' (hob j e i e1 h1 h2 h3 b hb) (hob j' e' i' e1' h1' h2' h3' b hb')
  subst this
  exact ans hn h1 h1'
theorem az0(hE: ∀ id e,ent id=some e→s.ent id=some e)(hp:Hp B ρ s.ent s.used w){L:List Nat}(hn:L.Nodup){es0 es1 es':List Entry}(hes:zf (atC ent L) L=some es0)
  {m:Nat} (pA: ∀ i∈bw nid m,s.used i=false) {ρc:Nm} {w':World} (tG:es1.length=L.length + m)
  (hx:Ext (memB w (memBig w s.ent ρ L)) (fun i=>Nat.blt i es0.length) (subNm ρ L) ρc) (h:HpL w (memBig w s.ent ρ L) es1 ρc w') (hr:zf (Entry.ren (anX (L++bw nid m))) es1=some es'):
  ∃ ρ':Nm,Ext B s.used ρ ρ'∧(∀ i j,Nat.blt i es1.length=true→anX (L++bw nid m) i=some j→ρ' j=ρc i)∧
   Hp B ρ' (bS s.ent (aeW ent (L++bw nid m) es')) (dp s.used (bw nid m)) w':=by
 have hL: ∀ i∈L,s.used i=true:=fun i hi=>by
  obtain⟨j,hj⟩:=List.mem_iff_getElem?.1 hi
  have hjl:=(k9.1 hj).1
  have:j < es0.length:=by rw [(NM hes).1];exact hjl
  obtain⟨i',e,h1,h2,_⟩:=YW hE hes (List.getElem?_eq_getElem this)
  rw [hj]at h1;cases h1
  exact(hp.he i e h2).2.1
 have hids: ∀ k n j:Nat,j < k→(bw n k)[j]? =some (n + j):=by
  intro k
  induction k with
  |zero=>intro n j hj;omega
  |succ k ih=>
   intro n j hj
   cases j with
   |zero=>simp [bw]
   |succ j=>simp only [bw,List.getElem?_cons_succ];rw [ih (n + 1) j (by omega)];congr 1;omega
 have hidl: ∀ k n:Nat,(bw n k).length=k:=by
  intro k
  induction k with
  |zero=>intro n;rfl
  |succ k ih=>intro n;simp [bw,ih]
 have hLL:(L++bw nid m).length=es1.length:=by rw [j7,hidl,tG]
 have hl0:es0.length=L.length:=(NM hes).1
 have hl':es'.length=es1.length:=(NM hr).1
 let ρ':Nm:=⟨fun id=>bif s.used id then ρ.nm id else ρc.nm (L.length + (id - nid)),ρc.mem,fun id=>match look? (aeW ent (L++bw nid m) es') id,abs (L++bw nid m) id with | some _,some i=>ρc.fp i | _,_=>ρ.fp id⟩
 have hold: ∀ id,s.used id=true→ρ' id=ρ id:=fun id lN=>by simp only [Nm.of,ρ',lN,cond_true]
 have nk: ∀ i j:Nat,(L++bw nid m)[i]? =some j→ρ' j=ρc i:=by
  intro i j hj
  by_cases hi:i < L.length
  ·rw [List.getElem?_append_left hi]at hj
   rw [hold j (hL j (List.mem_of_getElem? hj)),← tV hj]
   exact(hx.nm i (by simp only [Nat.blt,Nat.ble_eq];omega)).symm
  ·rw [List.getElem?_append_right (by omega)]at hj
   have hlt:i - L.length < m:=by
    have:=(k9.1 hj).1;rwa [hidl]at this
   rw [hids m nid _ hlt]at hj;cases hj
   have hu:=pA (nid + (i - L.length)) (List.mem_of_getElem? (hids m nid _ hlt))
   simp only [Nm.of,ρ',hu,cond_false]
   rw [show L.length + (nid + (i - L.length) - nid)=i by omega]
 have hnodup: ∀ i i' j:Nat,(L++bw nid m)[i]? =some j→(L++bw nid m)[i']? =some j→i=i':=by
  intro i i' j h1 h2
  by_cases hi:i < L.length
  ·rw [List.getElem?_append_left hi]at h1
   by_cases hi':i' < L.length
   ·rw [List.getElem?_append_left hi']at h2;exact ans hn h1 h2
   ·rw [List.getElem?_append_right (by omega)]at h2
    have:=pA j (List.mem_of_getElem? h2)
    rw [hL j (List.mem_of_getElem? h1)]at this;cases this
  ·rw [List.getElem?_append_right (by omega)]at h1
   have hlt:i - L.length < m:=by
    have:=(k9.1 h1).1;rwa [hidl]at this
   by_cases hi':i' < L.length
   ·rw [List.getElem?_append_left hi']at h2
    have:=pA j (List.mem_of_getElem? h1)
    rw [hL j (List.mem_of_getElem? h2)]at this;cases this
   ·rw [List.getElem?_append_right (by omega)]at h2
    have hlt':i' - L.length < m:=by
     have:=(k9.1 h2).1;rwa [hidl]at this
    rw [hids m nid _ hlt]at h1
    rw [hids m nid _ hlt']at h2
    cases h1
    have:=Option.some.inj h2
    omega
 have SF: ∀ b,aoZ s.ent ρ L b→Was s.ent ρ (aeW ent (L++bw nid m) es') b:=by
  rintro b ⟨i,hi,e,he,hb⟩
  obtain⟨j,hj⟩:=List.mem_iff_getElem?.1 hi
  have hjl:=(k9.1 hj).1
  obtain⟨e',he'⟩:=atX (ent:=ent) (es:=es') (i:=i) (j:=j) (L:=L++bw nid m) (by rw [List.getElem?_append_left hjl];exact hj) (by rw [hl',hLL]) (fun e0 t xs hh=>by
   rw [hE _ _ hh]at he;cases he;simp [Entry.ob]at hb)
  exact⟨i,e,e',he,hb,he'⟩
 have hBnone: ∀ b,memBig w s.ent ρ L b=none→B.mem b=none:=fun b hb=>by
  rcases UW hb with⟨i,_,e,he,hb⟩ | hge
  ·exact(Entry.ob_lt (hp.he i e he).1 hb).2.1
  ·cases hm:B.mem b with
   |none=>rfl
   |some o=>have:=(Array.getElem?_eq_some_iff.1 (hp.hf.mem _ _ hm)).1;omega
 have hren: ∀ i j,Nat.blt i es1.length=true→anX (L++bw nid m) i=some j→ρ' j=ρc i:=fun i j _ h=>nk i j h
 have hUj: ∀ i j,anX (L++bw nid m) i=some j→dp s.used (bw nid m) j=true:=fun i j hj=>by
  rcases List.mem_append.1 (List.mem_of_getElem? hj)with hm | hm
  ·exact jL _ (hL j hm)
  ·exact IV hm
 have hgfp: ∀ (i id:Nat) (e:Entry),(L++bw nid m)[i]? =some id→look? (aeW ent (L++bw nid m) es') id=some e→ρ'.fp id=ρc.fp i:=by
  intro i id e hi hl
  obtain⟨j,hj⟩:=atB (List.mem_of_getElem? hi)
  have:=hnodup _ _ _ (Im hj) hi
  subst this
  show (match look? (aeW ent (L++bw nid m) es') id,abs (L++bw nid m) id with | some _,some i=>ρc.fp i | _,_=>ρ.fp id)=_
  rw [hl,hj]
 have acC: ∀ id e,look? (aeW ent (L++bw nid m) es') id=some e→ ∃ (i:Nat) (e0:Entry),(L++bw nid m)[i]? =some id∧es1[i]? =some e0∧e0.ren (anX (L++bw nid m))=some e∧ρ'.fp id=ρc.fp i∧e.ob ρ' id=e0.ob ρc i:=by
  intro id e hl
  obtain⟨i,h1,h2⟩:=anR hl
  obtain⟨e0,h3,h4⟩:=(NM hr).2 i e h2
  have hf:=hgfp i id e h1 hl
  refine⟨i,e0,h1,h3,h4,hf,?_⟩
  have hg:=nk i id h1
  cases e0 with
  |box T cs=>simp only [Entry.ren,q9]at h4;obtain⟨cs',_,rfl⟩:=h4;simp only [Entry.ob,hg]
  |row own e t xs=>simp only [Entry.ren,w5]at h4;subst h4;exact anF hg
  |tree e0 t xs ho=>
   have g1:=h.he i _ h3
   exact(ace (B':=memB w (memBig w s.ent ρ L)) (U:=fun i=>Nat.blt i es1.length) g1.1 h4 hg hf (fun b hb=>(Entry.ob_lt g1.1 hb).2) g1.2.2 hren).2
  |wk e t xs=>simp only [Entry.ren,w5]at h4;subst h4;simp only [Entry.ob,hg]
  |gone=>simp only [Entry.ren,w5]at h4;subst h4;rfl
 have hchg:Chg w w' (aoZ s.ent ρ L):=⟨h.hf.os,h.hf.tape,h.hf.output,h.hf.size,fun k hk hX=>by
  have:memBig w s.ent ρ L k=w.heap[k]? :=by unfold memBig;rw [if_neg hX]
  rw [Array.getElem?_eq_getElem hk]at this ⊢
  exact h.hf.mem k _ this⟩
 have oe:=hp.chg (ρ':=ρ') (es:=aeW ent (L++bw nid m) es') (new:=bw nid m) hchg hold (fun b o hb=>hx.old b o hb) SF
  (fun b o hb=>(hx.new b o hb).imp (fun h=>h) fun hb'=>⟨h.hf.dat b o hb,hb'.2,(UW hb'.1).symm.imp (fun h=>h) (SF b)⟩)
  (fun id e hl=>by
   obtain⟨i,e0,h1,h2,h3,hfp0,_⟩:=acC id e hl
   obtain⟨g1,_,g3⟩:=h.he i e0 h2
   have hUid:dp s.used (bw nid m) id=true:=hUj i id h1
   refine⟨?_,hUid,?_⟩
   ·cases e0 with
    |box T cs=>
     simp only [Entry.ren,q9]at h3
     obtain⟨cs',Tz,rfl⟩:=h3
     obtain⟨b,k1,k2,k3,k4⟩:=g1
     refine⟨b,by rw [nk i id h1];exact k1,?_,hBnone b k3,k4⟩
     rw [NN Tz fun x hx y hy=>Cell.ren_conc hren (g3 x hx) hy]
     exact k2
    |row own e1 t xs=>
     simp only [Entry.ren,w5]at h3;subst h3
     cases own with
     |false=>simp only [Entry.holds];rw [nk i id h1];exact g1
     |true=>
      obtain⟨cs,k1,k2,k3⟩:=g1
      simp only [Entry.holds];rw [nk i id h1]
      exact⟨cs,k1,k2,fun b hb=>⟨hBnone b (k3 b hb).1,(k3 b hb).2⟩⟩
    |tree e1 t xs ho=>exact(ace (U:=fun i=>Nat.blt i es1.length) g1 h3 (nk i id h1) hfp0 (fun b hb=>⟨hBnone b (Entry.ob_lt g1 hb).2.1,(Entry.ob_lt g1 hb).2.2⟩) g3 hren).1
    |wk e1 t xs=>
     simp only [Entry.ren,w5]at h3;subst h3
     obtain⟨k1,k2,k3⟩:=g1
     simp only [Entry.holds];rw [nk i id h1]
     exact⟨k1,k2,fun b hb=>⟨hBnone b (k3 b hb).1,(k3 b hb).2⟩⟩
    |gone=>simp only [Entry.ren,w5]at h3;subst h3;trivial
   ·cases e0 with
    |box T cs=>
     simp only [Entry.ren,q9]at h3
     obtain⟨cs',Tz,rfl⟩:=h3
     exact Gv Tz fun x _ y hy=>Cell.ren_inU hUj hy
    |row own e1 t xs=>simp only [Entry.ren,w5]at h3;subst h3;trivial
    |tree e1 t xs ho=>exact afN h3 hUj
    |wk e1 t xs=>simp only [Entry.ren,w5]at h3;subst h3;trivial
    |gone=>simp only [Entry.ren,w5]at h3;subst h3;trivial)
  (fun id e b hl hb=>by
   obtain⟨i,e0,h1,h2,_,_,h4⟩:=acC id e hl
   rw [h4]at hb
   exact(UW (Entry.ob_lt (h.he i e0 h2).1 hb).2.1).symm.imp (fun h=>h) (SF b))
  (fun id id' e e' b hl hl' hb hb'=>by
   obtain⟨i,e0,h1,h2,_,_,h4⟩:=acC id e hl
   obtain⟨i',e0',h1',h2',_,_,h4'⟩:=acC id' e' hl'
   rw [h4]at hb;rw [h4']at hb'
   have:=h.hi i i' e0 e0' b h2 h2' hb hb'
   subst this
   rw [h1]at h1';exact Option.some.inj h1')
  (fun id _ hl=>by
   show (match look? (aeW ent (L++bw nid m) es') id,abs (L++bw nid m) id with | some _,some i=>ρc.fp i | _,_=>ρ.fp id)=_
   rw [hl])
 exact⟨ρ',oe.1,hren,oe.2⟩
end
end Go.SX
namespace Go.SX
open Go.RowKit
def awb(P:Program)(f:TypeId→V1→V1→Option Bool):List Field→List Cell→List Cell→Option Bool
 | [],_,_=>some true
 |fd::r,cx,cy=>match decide (fd.name= "_")with
  |true=>awb P f r cx cy
  |false=>match aia P fd.type fd.offset cx,aia P fd.type fd.offset cy with
   |some a,some b=>match f fd.type a b,awb P f r cx cy with
    |some u,some v=>some (bif u then v else false)
    |_,_=>none
   |_,_=>none
def eqC(P:Program):Nat→TypeId→V1→V1→Option Bool
 |0,_,_,_=>none
 |d + 1,t,x,y=>match P.underlying t with
  |some .bool=>match x,y with
   |⟨false,[.val (.bool a)]⟩,⟨false,[.val (.bool b)]⟩=>some (a==b)
   |_,_=>none
  |some (.int _)=>match x,y with
   |⟨false,[.val (.int k a)]⟩,⟨false,[.val (.int k' b)]⟩=>if k=k' then some (a==b)else none
   |_,_=>none
  |some .string=>match x,y with
   |⟨false,[.val (.string a)]⟩,⟨false,[.val (.string b)]⟩=>some (a==b)
   |_,_=>none
  |some (.struct fs)=>match x,y with
   |⟨true,cx⟩,⟨true,cy⟩=>bif P.stoodInHeld t then none else awb P (eqC P d) fs.toList cx cy
   |_,_=>none
  |_=>none
def eqV(P:Program)(look:Nat→Option SS)(A:List (Nat×Bool))(op:BinOp)(T:TypeId)(x y:Operand):Option Raw:=
 match op,ev1 look A x,ev1 look A y with
 | .eql,some ⟨true,cx⟩,some ⟨true,cy⟩=>bif P.eqGuardType P.depth T then none else match eqC P 12 T ⟨true,cx⟩ ⟨true,cy⟩with
  |some b=>some (.ofV (one (.val (.bool b))))
  |none=>none
 | .neq,some ⟨true,cx⟩,some ⟨true,cy⟩=>bif P.eqGuardType P.depth T then none else match eqC P 12 T ⟨true,cx⟩ ⟨true,cy⟩with
  |some b=>some (.ofV (one (.val (.bool (!b)))))
  |none=>none
 |_,_,_=>none
def aun(P:Program)(look:Nat→Option SS)(ent:Nat→Option Entry)(A:List (Nat×Bool))(op:BinOp)(T:TypeId)(x y:Operand):Option Raw:=
 match op,P.underlying T,evC look A x,evC look A y with
 | .eql,some (.slice _),some (.ref id),some (.val (.slice none 0 0))=>match ent id with
  |some (.row _ _ _ xs)=>some ⟨one (.val (.bool false)),[],[],[decide (0 < xs.length)]⟩
  |_=>none
 | .neq,some (.slice _),some (.ref id),some (.val (.slice none 0 0))=>match ent id with
  |some (.row _ _ _ xs)=>some ⟨one (.val (.bool true)),[],[],[decide (0 < xs.length)]⟩
  |_=>none
 |_,_,_,_=>none
section
variable{P:Program}{s:St}{look:Nat→Option SS}{ent:Nat→Option Entry}{A:List (Nat×Bool)}{nid:Nat}{o:Oper}{r:Raw}{B:Base}{ρ:Nm}{a:Act}{w:World}{K:Act→World→Prop}{Q:Exit→Act→World→Prop}
theorem akJ{f:TypeId→V1→V1→Option Bool}{d:Nat}(hf: ∀ t x y b,f t x y=some b→(Op.equalIn d t (x.conc ρ) (y.conc ρ)).run P w= .ok b w):
  ∀ (fs:List Field) (cx cy:List Cell) (b:Bool),awb P f fs cx cy=some b→(Op.eqFields d (cx.map (Cell.conc ρ)).toArray (cy.map (Cell.conc ρ)).toArray fs).run P w= .ok b w
 | [],_,_,b,h=>by simp only [awb,w5]at h;subst h;simp [Op.eqFields]
 |fd::r,cx,cy,b,h=>by
  simp only [awb]at h
  split at h
  ·rename_i hn
   have hn:=of_decide_eq_true hn
   simp only [Op.eqFields,hn,ne_eq,not_true_eq_false,if_false]
   exact akJ hf r cx cy b h
  ·rename_i hn
   have hn:=of_decide_eq_false hn
   split at h
   ·rename_i u v hu hv
    split at h
    ·rename_i e1 e2 h1 h2
     cases h
     have p1:=aqg (ρ:=ρ) (w:=w) hu
     have p2:=aqg (ρ:=ρ) (w:=w) hv
     have p3:=hf _ _ _ _ h1
     have ih:=akJ hf r cx cy e2 h2
     simp only [Op.eqFields,ne_eq,hn,not_false_eq_true,if_true,Sem.run_bind,p1,p2,p3,Result.andThen_ok]
     cases e1 with
     |true=>simpa using ih
     |false=>simp
    ·cases h
   ·cases h
theorem am9: ∀ (d D:Nat) (t:TypeId) (x y:V1) (b:Bool),eqC P d t x y=some b→(Op.equalIn (D + d) t (x.conc ρ) (y.conc ρ)).run P w= .ok b w
 |0,_,_,_,_,_,h=>by cases h
 |d + 1,D,t,x,y,b,h=>by
  simp only [eqC]at h
  split at h
  ·rename_i hu
   split at h
   ·cases h
    exact run_equalIn_bool w (D + d) t _ _ hu
   ·cases h
  ·rename_i k0 hu
   split at h
   ·rename_i k a k' b'
    split at h
    ·rename_i hk
     subst hk
     cases h
     exact run_equalIn_int w (D + d) t k k0 a b' hu
    ·cases h
   ·cases h
  ·rename_i hu
   split at h
   ·rename_i a' b'
    cases h
    have:=run_equalIn_string w (D + d) t a' b' hu
    rw [← beq_toListBytes]at this
    exact this
   ·cases h
  ·rename_i fs hu
   split at h
   ·rename_i cx cy
    cases hs:P.stoodInHeld t with
    |true=>rw [hs]at h;cases h
    |false=>
     rw [hs,cond_false]at h
     have hfs:P.fieldsOf t=fs:=by simp [Program.fieldsOf,hu]
     have hr:=run_equalIn_struct w (D + d) t (cx.map (Cell.conc ρ)).toArray (cy.map (Cell.conc ρ)).toArray (by rw [hfs];exact hu) hs
     rw [hfs]at hr
     exact hr.trans (akJ (fun t x y b hb=>am9 d D t x y b hb) fs.toList cx cy b h)
   ·cases h
  ·cases h
theorem awc(c:Ctx B ρ s a w look ent A){bop:BinOp}{T T':TypeId}{x y:Operand}(ho:o.op= .binOp bop T x y T')(h:eqV P look A bop T x y=some r)(hC:rY B s ρ r o a K):o.wp P a w K Q:=by
 obtain⟨dst,op,ty,pos,after,guard⟩:=o
 simp only at ho;subst ho
 unfold eqV at h
 split at h
 ·rename_i cx cy hx hy
  cases hg:P.eqGuardType P.depth T with
  |true=>rw [hg]at h;cases h
  |false=>
   rw [hg,cond_false]at h
   split at h
   ·rename_i b hb
    cases h
    have yW:=(c.ev1 hx).1
    have VD:=(c.ev1 hy).1
    have he:=am9 (ρ:=ρ) (w:=w) 12 9988 T _ _ b hb
    simp only [V1.conc]at yW VD he
    refine ba (w':=w) ?_ (rY.same (v:=one (.val (.bool b))) rfl hC c.hp)
    simp only [execOp,yW,VD,Sem.run_bind,run_eqGuard_agg w .eql T x y _ _ hg,Result.andThen_ok,run_eql_struct,he,one,SV.conc,V1.conc,Cell.conc]
    rfl
   ·cases h
 ·rename_i cx cy hx hy
  cases hg:P.eqGuardType P.depth T with
  |true=>rw [hg]at h;cases h
  |false=>
   rw [hg,cond_false]at h
   split at h
   ·rename_i b hb
    cases h
    have yW:=(c.ev1 hx).1
    have VD:=(c.ev1 hy).1
    have he:=am9 (ρ:=ρ) (w:=w) 12 9988 T _ _ b hb
    simp only [V1.conc]at yW VD he
    refine ba (w':=w) ?_ (rY.same (v:=one (.val (.bool (!b)))) rfl hC c.hp)
    simp only [execOp,yW,VD,Sem.run_bind,run_eqGuard_agg w .neq T x y _ _ hg,Result.andThen_ok,run_neq_struct,he,one,SV.conc,V1.conc,Cell.conc]
    rfl
   ·cases h
 ·cases h
theorem atG{own:Bool}{id:Nat}{e:TypeId}{t:CTy}{xs:List (E t)}(h:(Entry.row own e t xs).holds B ρ w id)(hf: ∀ b o,ρ.mem b=some o→w.heap[b]? =some o)(hx:0 < xs.length):
  ∃ b n cap,ρ id= .slice (some b) n cap:=by
 rcases aeP h hf with⟨_,hn⟩ | ⟨b,off,cap,news,hv,_⟩
 ·subst hn;cases hx
 ·exact⟨_,_,_,hv⟩
theorem aqf{T e:TypeId}(hT:P.underlying T=some (.slice e))(b:Addr)(n cap d:Nat):(Op.equalIn (d + 1) T (.slice (some b) n cap) (.slice none 0 0)).run P w= .ok false w:=by
 simp [Op.equalIn,run_underlying hT]
theorem atI{T e:TypeId}(hT:P.underlying T=some (.slice e))(b:Addr)(n cap:Nat)(x y:Operand):(do eqGuard .eql T x y (.slice (some b) n cap) (.slice none 0 0);binOp .eql T (.slice (some b) n cap) (.slice none 0 0):Sem Value).run P w= .ok (.bool false) w:=by
 have h:=aqf (w:=w) hT b n cap 9999
 have h0:(eqGuard .eql T x y (.slice (some b) n cap) (.slice none 0 0)).run P w= .ok () w:=rfl
 have h1:(binOp .eql T (.slice (some b) n cap) (.slice none 0 0)).run P w= .ok (.bool false) w:=by
  show (do pure (.bool (← Op.equalIn (9999 + 1) T (.slice (some b) n cap) (.slice none 0 0))):Sem Value).run P w=_
  rw [Sem.run_bind,h];rfl
 rw [Sem.run_bind,h0];exact h1
theorem atJ{T e:TypeId}(hT:P.underlying T=some (.slice e))(b:Addr)(n cap:Nat)(x y:Operand):(do eqGuard .neq T x y (.slice (some b) n cap) (.slice none 0 0);binOp .neq T (.slice (some b) n cap) (.slice none 0 0):Sem Value).run P w= .ok (.bool true) w:=by
 have h:=aqf (w:=w) hT b n cap 9999
 have h0:(eqGuard .neq T x y (.slice (some b) n cap) (.slice none 0 0)).run P w= .ok () w:=rfl
 have h1:(binOp .neq T (.slice (some b) n cap) (.slice none 0 0)).run P w= .ok (.bool true) w:=by
  show (do pure (.bool (!(← Op.equalIn (9999 + 1) T (.slice (some b) n cap) (.slice none 0 0)))):Sem Value).run P w=_
  rw [Sem.run_bind,h];rfl
 rw [Sem.run_bind,h0];exact h1
theorem arT(c:Ctx B ρ s a w look ent A){bop:BinOp}{T T':TypeId}{x y:Operand}(ho:o.op= .binOp bop T x y T')(h:aun P look ent A bop T x y=some r)(cL: ∀ b∈r.nd,b=true)(hC:rY B s ρ r o a K):o.wp P a w K Q:=by
 obtain⟨dst,op,ty,pos,after,guard⟩:=o
 simp only at ho;subst ho
 unfold aun at h
 split at h
 ·rename_i e id hT hx hy
  split at h
  ·rename_i own e' t xs he
   cases h
   have hl:0 < xs.length:=by simpa using cL (decide (0 < xs.length)) (by simp)
   have yW:=(c.evC hx).1
   have VD:=(c.evC hy).1
   simp only [Cell.conc]at yW VD
   obtain⟨b,n,cap,hv⟩:=atG (c.hp.he _ _ (c.hE _ _ he)).1 c.hp.hf.dat hl
   rw [hv]at yW
   refine ba (w':=w) ?_ (rY.same (v:=one (.val (.bool false))) rfl hC c.hp)
   have hr:=atI (w:=w) hT b n cap x y
   simp only [Sem.run_bind]at hr
   simp only [execOp,yW,VD,Sem.run_bind,hr,one,SV.conc,V1.conc,Cell.conc]
   rfl
  ·cases h
 ·rename_i e id hT hx hy
  split at h
  ·rename_i own e' t xs he
   cases h
   have hl:0 < xs.length:=by simpa using cL (decide (0 < xs.length)) (by simp)
   have yW:=(c.evC hx).1
   have VD:=(c.evC hy).1
   simp only [Cell.conc]at yW VD
   obtain⟨b,n,cap,hv⟩:=atG (c.hp.he _ _ (c.hE _ _ he)).1 c.hp.hf.dat hl
   rw [hv]at yW
   refine ba (w':=w) ?_ (rY.same (v:=one (.val (.bool true))) rfl hC c.hp)
   have hr:=atJ (w:=w) hT b n cap x y
   simp only [Sem.run_bind]at hr
   simp only [execOp,yW,VD,Sem.run_bind,hr,one,SV.conc,V1.conc,Cell.conc]
   rfl
  ·cases h
 ·cases h
end
end Go.SX
namespace Go.SX
open Go.RowKit
def avo:List GEnt→Nat→Option GEnt
 | [],_=>none
 |x::r,g=>bif Nat.beq x.g g then some x else avo r g
theorem ara: ∀ {l:List GEnt} {g:Nat} {x:GEnt},avo l g=some x→x∈l∧x.g=g
 | [],_,_,h=>by cases h
 |y::r,g,x,h=>by
  simp only [avo]at h
  cases hb:Nat.beq y.g g with
  |true=>rw [hb]at h;cases h;exact⟨by simp,q8 hb⟩
  |false=>rw [hb]at h;have:=ara (l:=r) h;exact⟨by simp [this.1],this.2⟩
def avt(P:Program)(T:TypeId)(x:Operand):Option GEnt:=
 match x with
 | .global g=>match avo GT g with
  |some G=>match P.underlying T with
   |some (.array n e)=>match P.info? e with
    |some inf=>bif Nat.beq inf.size G.t.size&&(Nat.beq n G.xs.length&&Nat.beq e G.e)then some G else none
    |none=>none
   |_=>none
  |none=>none
 |_=>none
def arW(P:Program)(look:Nat→Option SS)(A:List (Nat×Bool))(nid:Nat)(T:TypeId)(x ix:Operand):Option Raw:=
 match avt P T x,evI look A ix with
 |some G,some i=>some ⟨one (.el nid G.t.size i.toNat 0),[(nid,.row false G.e G.t G.xs)],[nid],[decide (0≤i),decide (i < G.xs.length)]⟩
 |_,_=>none
def arX(P:Program)(look:Nat→Option SS)(A:List (Nat×Bool))(nid:Nat)(T:TypeId)(x:Operand)(lo hi mx:Option Operand):Option Raw:=
 match mx,avt P T x with
 |none,some G=>match bnd look A lo 0,bnd look A hi G.xs.length with
  |some l,some h=>some ⟨one (.ref nid),[(nid,.row false G.e G.t ((G.xs.take h.toNat).drop l.toNat))],[nid],[decide (0≤l),decide (l≤h),decide (h≤G.xs.length)]⟩
  |_,_=>none
 |_,_=>none
section
variable{P:Program}{tbl:List (PF P)}{s:St}{look:Nat→Option SS}{ent:Nat→Option Entry}{A:List (Nat×Bool)}{nid:Nat}{o:Oper}{r:Raw}{B:Base}{ρ:Nm}{a:Act}{w:World}{K:Act→World→Prop}{Q:Exit→Act→World→Prop}
theorem an0{T:TypeId}{x:Operand}{G:GEnt}(h:avt P T x=some G):x= .global G.g∧G∈GT∧ ∃ e inf,P.underlying T=some (.array G.xs.length e)∧P.info? e=some inf∧inf.size=G.t.size:=by
 unfold avt at h
 split at h
 ·rename_i g
  split at h
  ·rename_i G' hG
   split at h
   ·rename_i n e hT
    split at h
    ·rename_i inf EC
     cases hb:(Nat.beq inf.size G'.t.size&&(Nat.beq n G'.xs.length&&Nat.beq e G'.e))with
     |false=>rw [hb]at h;cases h
     |true=>
      rw [hb]at h;cases h
      simp only [j6]at hb
      obtain⟨h1,h2⟩:=ara hG
      have:=q8 hb.2.1
      subst this
      exact⟨by rw [h2],h1,e,inf,hT,EC,q8 hb.1⟩
    ·cases h
   ·cases h
  ·cases h
 ·cases h
theorem as7{H:Nat→Option Obj}(h:GlOk H){G:GEnt}(hG:G∈GT):IX H G.t (.slice (some ⟨G.g,0,none⟩) G.xs.length G.xs.length) G.xs:=by
 obtain⟨h0,arr,T,fz,h1,_,h2⟩:=h G hG
 exact .inr ⟨G.g,0,G.xs.length,arr,T,fz,rfl,Nat.le_refl _,h0,h1,fun i x hx=>by rw [Nat.zero_add];exact h2 i x hx⟩
theorem avL(c:Ctx B ρ s a w look ent A){nid:Nat}{e:TypeId}{t:CTy}{xs:List (E t)}{v:Value}(hun:s.used nid=false)(hv:IX ρ.mem t v xs):
  Ext B s.used ρ (upd ρ nid v)∧Hp B (upd ρ nid v) (bS s.ent [(nid,.row false e t xs)]) (dp s.used [nid]) w:=
 c.hp.names (ρ':=upd ρ nid v) (es:= [(nid,.row false e t xs)]) (new:= [nid]) (TV hun _ _) rfl fun i x hl=>by
  obtain⟨rfl,rfl⟩:=look?_one hl
  refine⟨?_,by simp [dp,memN],trivial,rfl⟩
  simp only [Entry.holds]
  rw [lz _ _ (aas hv)]
  exact hv
theorem aqH(c:Ctx B ρ s a w look ent A){T:TypeId}{x ix:Operand}(ho:o.op= .indexAddr T x ix)(h:arW P look A nid T x ix=some r)(pA: ∀ i∈r.new,s.used i=false)(cL: ∀ b∈r.nd,b=true)
  (hC:rY B s ρ r o a K):o.wp P a w K Q:=by
 obtain⟨dst,op,ty,pos,after,guard⟩:=o
 simp only at ho;subst ho
 unfold arW at h
 split at h
 ·rename_i G i hG hi
  cases h
  obtain⟨rfl,hm,e,inf,hT,EC,TY⟩:=an0 hG
  have hun:=pA nid (by simp)
  have h0:0≤i:=by simpa using cL (decide (0≤i)) (by simp)
  have h1:i < G.xs.length:=by simpa using cL (decide (i < G.xs.length)) (by simp)
  obtain⟨k,hiv⟩:=c.evI hi
  obtain⟨hX,hp⟩:=avL c (e:=G.e) hun (as7 c.hp.hf.gl hm)
  refine ba (u:= .pointer (some ⟨G.g,i.toNat * G.t.size,none⟩)) (w':=w) ?_ (hC _ _ w hX ?_ hp)
  ·have yW:a.eval (.global G.g)= .pointer (some ⟨G.g,0,none⟩):=rfl
   simp [execOp,Instr.indexAt,yW,hiv,run_underlying hT,Va,h0,h1,sizeOf,typeInfo,EC,NJ,Instr.sureAddr,TY]
  ·simp only [one,SV.conc,V1.conc,VB]
   rw [lz _ _ rfl]
   simp [Xc,aio]
 ·cases h
theorem aqI(c:Ctx B ρ s a w look ent A){T:TypeId}{x:Operand}{lo hi mx:Option Operand}(ho:o.op= .slice T x lo hi mx)(h:arX P look A nid T x lo hi mx=some r)(pA: ∀ i∈r.new,s.used i=false)(cL: ∀ b∈r.nd,b=true)
  (hC:rY B s ρ r o a K):o.wp P a w K Q:=by
 obtain⟨dst,op,ty,pos,after,guard⟩:=o
 simp only at ho;subst ho
 unfold arX at h
 split at h
 ·rename_i G hG
  split at h
  ·rename_i l m hl hm
   cases h
   obtain⟨rfl,Oj,e,inf,hT,EC,TY⟩:=an0 hG
   have hun:=pA nid (by simp)
   have h0:0≤l:=by simpa using cL (decide (0≤l)) (by simp)
   have h1:l≤m:=by simpa using cL (decide (l≤m)) (by simp)
   have h2:m≤G.xs.length:=by simpa using cL (decide (m≤G.xs.length)) (by simp)
   have hpart:=(as7 c.hp.hf.gl Oj).part (l:=l.toNat) (m:=m.toNat) (z:=inf.size) (by omega) (by omega) TY rfl
   obtain⟨hX,hp⟩:=avL c (e:=G.e) hun hpart
   have hr:=ak3 (P:=P) (w:=w) (isS:=false) (len:=G.xs.length) (cap:=G.xs.length) (NZ c hl) (NZ c hm) h0 h1 h2 (Nat.le_refl _)
   refine ba (u:= .slice (if G.xs.length=l.toNat then some ⟨G.g,0,none⟩else(some (⟨G.g,0,none⟩:Addr)).map (·.add (l.toNat * inf.size))) (m.toNat - l.toNat) (G.xs.length - l.toNat)) (w':=w) ?_ (hC _ _ w hX ?_ hp)
   ·have yW:a.eval (.global G.g)= .pointer (some ⟨G.g,0,none⟩):=rfl
    simp only [execOp,yW,Option.map_none]
    simp only [Instr.sliceAt,Sem.run_bind,run_underlying hT,Result.andThen_ok,Instr.sureAddr,Sem.run_pure,hr,sizeOf,typeInfo,EC]
    split <;> simp_all
   ·simp only [one,SV.conc,V1.conc,Cell.conc]
    rw [lz _ _ (aas hpart)]
  ·cases h
 ·cases h
end
end Go.SX
namespace Go.SX
open Go.RowKit
def ibs(s:ByteArray)(c:Int):Int:=Go.Lib.indexByte s.data.toList c.toNat.toUInt8
theorem aw2{fn:Func}(h:fn.name= "internal/bytealg.IndexByteString"):Extern.find fn=some Extern.BytealgIndexByte.indexByte:=by
 obtain⟨name⟩:=fn
 simp only at h
 subst h
 unfold Extern.find
 kernel_rfl
def avB(P:Program)(k:FuncId):Bool:=
 match P.funcs[k]? with
 |some fn=>(fn.name== "internal/bytealg.IndexByteString")&&fn.body.isNone&&(Extern.findNext fn).isNone
 |none=>false
def ay8(P:Program)(look:Nat→Option SS)(A:List (Nat×Bool))(f:Operand)(args:List Operand):Option Raw:=
 match evC look A f,args with
 |some (.val (.func (.func k) fi ca)),[x,y]=>match fi.toList,ca.toList,evC look A x,evC look A y with
  | [],[],some (.val (.string s)),some (.val (.int .u8 c))=>bif avB P k then some (.ofV (one (.val (.int .i64 (ibs s c)))))else none
  |_,_,_,_=>none
 |_,_=>none
theorem ayG{P:Program}{k:FuncId}(h:avB P k=true)(s:ByteArray)(c:Int)(w:World):
  (callFunc k #[.string s,.int .u8 c]).run P w= .ok (.value (.int .i64 (ibs s c))) w:=by
 unfold avB at h
 split at h
 ·rename_i fn hf
  simp only [j6,beq_iff_eq]at h
  obtain⟨⟨h1,h2⟩,h3⟩:=h
  rw [run_callFunc_indexByte hf (by rw [h1];decide) h2 (Option.isNone_iff_eq_none.1 h3) (aw2 h1),Go.Lib.run_indexByteString]
  rfl
 ·cases h
section
variable{P:Program}{tbl:List (PF P)}{s:St}{look:Nat→Option SS}{ent:Nat→Option Entry}{A:List (Nat×Bool)}{nid:Nat}{o:Oper}{r:Raw}{B:Base}{ρ:Nm}{a:Act}{w:World}{K:Act→World→Prop}{Q:Exit→Act→World→Prop}
theorem auq(c:Ctx B ρ s a w look ent A){cl:Call}{f:Operand}(ho:o.op= .call cl)(hf:cl.callee= .value f)(h:ay8 P look A f cl.args.toList=some r)
  (hC:rY B s ρ r o a K):o.wp P a w K Q:=by
 obtain⟨dst,op,ty,pos,after,guard⟩:=o
 simp only at ho;subst ho
 unfold ay8 at h
 split at h
 ·rename_i k fi ca x y hk Mn
  split at h
  ·rename_i str v h1 h2 hx hy
   have e1:fi= #[]:=by rw [← j9 (xs:=fi),h1]
   have e2:ca= #[]:=by rw [← j9 (xs:=ca),h2]
   subst e1;subst e2
   cases lO:avB P k with
   |false=>simp [lO]at h
   |true=>
    simp only [lO,cond_true]at h
    cases h
    have hkv:=(c.evC hk).1
    have yW:=(c.evC hx).1
    have VD:=(c.evC hy).1
    simp only [Cell.conc]at hkv yW VD
    have NK:cl.args.map a.eval= #[.string str,.int .u8 v]:=by
     rw [← j9 (xs:=cl.args.map a.eval),Array.toList_map,Mn];simp [yW,VD]
    refine ba (w':=w) ?_ (rY.same (v:=one (.val (.int .i64 (ibs str v)))) rfl hC c.hp)
    simp [execOp,resolve,hf,Deferred.ofValue,hkv,invoke,NK,ayG lO,one,SV.conc,V1.conc,Cell.conc]
  ·cases h
 ·cases h
end
end Go.SX
namespace Go.SX
open Go.RowKit
def amp(P:Program)(S D:TypeId):Bool:=
 match P.underlying S,P.underlying D with
 |some (.slice e),some .string=>match P.underlying e with
  |some (.int .u8)=>true
  |_=>false
 |_,_=>false
def azt(P:Program)(look:Nat→Option SS)(ent:Nat→Option Entry)(A:List (Nat×Bool))(S D:TypeId)(x:Operand):Option Raw:=
 match evC look A x with
 |some (.ref id)=>match ent id with
  |some (.row _ _ (.int .u8) xs)=>bif amp P S D then some (.ofV (one (.val (.string (strOfNums xs)))))else none
  |_=>none
 |_=>none
def PF.raw(P:Program):PF P where
 k:=999997
 F:=fun _ _=>none
 ok:=fun _ _ _ h=>by cases h
def PF.rawed{P:Program}:List (PF P)→Bool
 | []=>false
 |p::_=>Nat.beq p.k 999997
def azn(fr:Bool)(look:Nat→Option SS)(A:List (Nat×Bool))(x:Operand):Option Raw:=
 bif fr then(match x,ev look A x with
  | .tmp _,some (.one v)=>some (Raw.ofV (.one v))
  |_,_=>none)else none
def PF.views(P:Program):PF P where
 k:=999996
 F:=fun _ _=>none
 ok:=fun _ _ _ h=>by cases h
def PF.viewed{P:Program}:List (PF P)→Bool
 | []=>false
 |p::_=>Nat.beq p.k 999996
theorem avU(t:CTy): ¬ t.size=0:=Nat.ne_of_gt (EL t)
def axR(fr:Bool)(P:Program)(look:Nat→Option SS)(ent:Nat→Option Entry)(A:List (Nat×Bool))(T:TypeId)(x:Operand)(lo hi mx:Option Operand):Option Raw:=
 bif fr then(match mx,hi,lo,evC look A x with
  |none,none,some y,some (.ref id)=>match ent id,evI look A y with
   |some (.row true _ t xs),some l=>bif TW P T t then some ⟨one (.vw id t.size l.toNat),[],[],[decide (0≤l),decide (l≤xs.length)]⟩else none
   |_,_=>none
  |_,_,_,_=>none)else none
def ayZ(look:Nat→Option SS)(A:List (Nat×Bool))(op:BinOp)(x y:Operand):Option Raw:=
 match op,evC look A x,evC look A y with
 | .add,some (.val (.string s)),some (.val (.string t))=>some ⟨one (.val (.string (s++t))),[],[],[decide (s.size + t.size≤9223372036854775807)]⟩
 |_,_,_=>none
def adi(n:Nat):List (E (.int .i64)):=v5 n (0:Int)
theorem afO(n:Nat):(adi n).length=n:=k8
def auf(P:Program)(look:Nat→Option SS)(ent:Nat→Option Entry)(A:List (Nat×Bool))(ts:Array TypeId)(x:Operand):Option Raw:=
 match evC look A x,ts.toList with
 |some (.ref id),[T]=>match ent id,P.underlying T with
  |some (.row true e (.int .i64) xs),some (.slice e')=>match P.info? e' with
   |some inf=>match inf.zero with
    |some (.int .i64 0)=>some ⟨.tup [],[(id,.row true e (.int .i64) (adi xs.length))],[],[]⟩
    |_=>none
   |none=>none
  |_,_=>none
 |_,_=>none
section
variable{P:Program}{tbl:List (PF P)}{s:St}{look:Nat→Option SS}{ent:Nat→Option Entry}{A:List (Nat×Bool)}{nid:Nat}{o:Oper}{r:Raw}{B:Base}{ρ:Nm}{a:Act}{w:World}{K:Act→World→Prop}{Q:Exit→Act→World→Prop}
theorem aus{α:Type}{xs:List α}{i:Nat}{d x:α}(h:xs[i]? =some x):x=xs.getD i d:=by rw [List.getD_eq_getElem?_getD,h];rfl
theorem ayH{S D:TypeId}(hT:amp P S D=true){own:Bool}{id:Nat}{e:TypeId}{xs:List (E (.int .u8))}(hh:(Entry.row own e (.int .u8) xs).holds B ρ w id)
  (hf: ∀ b o,ρ.mem b=some o→w.heap[b]? =some o):(convert S D (ρ id)).run P w= .ok (.string (strOfNums xs)) w:=by
 unfold amp at hT
 split at hT
 ·rename_i e' hS hD
  split at hT
  ·rename_i he
   have tG:aj8 (ρ id)∧xs= []∨ ∃ b off cap,ρ id= .slice (some ⟨b,off,none⟩) xs.length cap:=by
    cases own with
    |false=>
     rcases hh with⟨h4,hn⟩ | ⟨b,off,cap,arr,T',fz,h4,_⟩
     ·exact .inl ⟨h4,hn⟩
     ·exact .inr ⟨_,_,_,h4⟩
    |true=>
     obtain⟨cs,h4,_⟩:=hh
     rcases h4.2 with⟨hv,hn⟩ | ⟨g,cap,cur,hv,_⟩
     ·exact .inl ⟨hv,List.eq_nil_of_length_eq_zero hn⟩
     ·exact .inr ⟨_,_,_,hv⟩
   rcases tG with⟨hz,hn⟩ | ⟨b,off,cap,hv⟩
   ·have e0:strOfNums xs=ByteArray.empty:=by rw [hn];rfl
    rw [e0]
    rcases hz with hz | ⟨d,hz⟩
    ·rw [hz];exact run_convert_bytes_nil w S e' hS he 0 0 D hD
    ·rw [hz,run_convert_bytes_string w S D e' (some d) 0 0 hS he hD]
     exact run_bytesToString w d 0 0 [] (run_loadCells_list w d [] (fun j v hj=>by simp at hj))
   ·rw [hv]
    refine run_convert_bytes_arg w S e' hS he b off xs.length cap xs rfl (fun i hi=> ?_) D hD
    have hx:xs[i]? =some xs[i]:=List.getElem?_eq_getElem hi
    obtain⟨chunk,hr,hc⟩:=aru hh hf hx
    simp only [Rep]at hr
    have:=hc 0 (.int .u8 xs[i]) (by rw [hr];rfl)
    rw [hv]at this
    simp only [Xc,aio,CTy.size,Nat.mul_one,Nat.add_zero]at this
    rw [this]
    exact congrArg some (congrArg (Value.int .u8) (aus (α:=Int) hx))
  ·cases hT
 ·cases hT
theorem au7(c:Ctx B ρ s a w look ent A){S D:TypeId}{x:Operand}(ho:o.op= .convert S D x)(h:azt P look ent A S D x=some r)
  (hC:rY B s ρ r o a K):o.wp P a w K Q:=by
 obtain⟨dst,op,ty,pos,after,guard⟩:=o
 simp only at ho;subst ho
 unfold azt at h
 split at h
 ·rename_i id hx
  split at h
  ·rename_i own e xs he
   cases hT:amp P S D with
   |false=>simp [hT]at h
   |true=>
    simp only [hT,cond_true]at h
    cases h
    have yW:=(c.evC hx).1
    simp only [Cell.conc]at yW
    obtain⟨hh,_,_⟩:=c.hp.he _ _ (c.hE _ _ he)
    refine ba (w':=w) ?_ (rY.same (v:=one (.val (.string (strOfNums xs)))) rfl hC c.hp)
    simp [execOp,yW,ayH hT hh c.hp.hf.dat,one,SV.conc,V1.conc,Cell.conc]
  ·cases h
 ·cases h
def anJ(P:Program)(look:Nat→Option SS)(A:List (Nat×Bool))(T:TypeId)(x:Operand)(lo hi mx:Option Operand):Option Raw:=
 match mx,evC look A x with
 |none,some (.val (.slice none 0 0))=>match bnd look A lo 0,bnd look A hi 0,P.underlying T with
  |some l,some h,some (.slice e)=>match P.info? e with
   |some _=>some ⟨one (.val (.slice none 0 0)),[],[],[decide (0≤l),decide (l≤h),decide (h≤0)]⟩
   |none=>none
  |_,_,_=>none
 |_,_=>none
theorem aoJ(c:Ctx B ρ s a w look ent A){T:TypeId}{x:Operand}{lo hi mx:Option Operand}(ho:o.op= .slice T x lo hi mx)(h:anJ P look A T x lo hi mx=some r)
  (cL: ∀ b∈r.nd,b=true) (hC:rY B s ρ r o a K):o.wp P a w K Q:=by
 obtain⟨dst,op,ty,pos,after,guard⟩:=o
 simp only at ho;subst ho
 unfold anJ at h
 split at h
 ·rename_i hx
  split at h
  ·rename_i l m e hl hm hT
   split at h
   ·rename_i inf EC
    cases h
    have h0:0≤l:=by simpa using cL (decide (0≤l)) (by simp)
    have h1:l≤m:=by simpa using cL (decide (l≤m)) (by simp)
    have h2:m≤0:=by simpa using cL (decide (m≤0)) (by simp)
    have yW:=(c.evC hx).1
    simp only [Cell.conc]at yW
    have hm':bnd look A hi ((0:Nat):Int)=some m:=hm
    have hr:=acT (P:=P) (w:=w) (b:=none) (len:=0) (cap:=0) hT EC (NZ c hl) (NZ c hm') h0 h1 (by simpa using h2) (Nat.le_refl _)
    obtain rfl:l=0:=by omega
    obtain rfl:m=0:=by omega
    refine ba (w':=w) ?_ (rY.same (v:=one (.val (.slice none 0 0))) rfl hC c.hp)
    simp only [Int.toNat_zero]at hr
    simp [execOp,yW,hr,one,SV.conc,V1.conc,Cell.conc]
   ·cases h
  ·cases h
 ·cases h
def arH(P:Program)(look:Nat→Option SS)(ent:Nat→Option Entry)(A:List (Nat×Bool))(nid:Nat)(ts:Array TypeId)(x y:Operand):Option Raw:=
 match evC look A x,evC look A y,ts.toList with
 |some (.val (.slice none 0 0)),some (.ref jd),[t1,t2]=>match ent jd with
  |some (.row _ _ t ys)=>match P.underlying t1 with
   |some (.slice e)=>match P.info? e with
    |some inf=>match inf.zero with
     |some z=>bif Nat.beq t1 t2&&Nat.beq inf.size t.size&&Nat.beq z.cells.size t.size then
       some ⟨one (.ref nid),[(nid,.row true e t ys)],[nid],[decide (ys.length≤9223372036854775807),decide (ys.length * inf.bytes≤140737488355328)]⟩
      else none
     |none=>none
    |none=>none
   |_=>none
  |_=>none
 |_,_,_=>none
theorem aqE(c:Ctx B ρ s a w look ent A){cl:Call}{x y:Operand}(ho:o.op= .call cl)(hb:cl.callee= .builtin .append)(Mn:cl.args.toList= [x,y])(h:arH P look ent A nid cl.argTypes x y=some r)(pA: ∀ i∈r.new,s.used i=false)
  (cL: ∀ b∈r.nd,b=true) (hC:rY B s ρ r o a K):o.wp P a w K Q:=by
 obtain⟨dst,op,ty,pos,after,guard⟩:=o
 simp only at ho;subst ho
 have NK:cl.args= #[x,y]:=by rw [← j9 (xs:=cl.args),Mn]
 unfold arH at h
 split at h
 ·rename_i jd t1 t2 hx hy hts
  split at h
  ·rename_i own e2 t ys he2
   split at h
   ·rename_i e hT
    split at h
    ·rename_i inf EC
     split at h
     ·rename_i z hz
      cases lO:(Nat.beq t1 t2&&Nat.beq inf.size t.size&&Nat.beq z.cells.size t.size)with
      |false=>simp [lO]at h
      |true=>
       simp only [lO,cond_true]at h
       cases h
       simp only [j6]at lO
       obtain⟨⟨k1,k3⟩,k4⟩:=lO
       have k1:=q8 k1
       have k3:=q8 k3
       have k4:=q8 k4
       subst k1
       have n1:ys.length≤9223372036854775807:=by simpa using cL (decide (ys.length≤9223372036854775807)) (by simp)
       have n2:ys.length * inf.bytes≤140737488355328:=by simpa using cL (decide (ys.length * inf.bytes≤140737488355328)) (by simp)
       have hat:cl.argTypes= #[t1,t1]:=by rw [← j9 (xs:=cl.argTypes),hts]
       have yW:=(c.evC hx).1
       have VD:=(c.evC hy).1
       simp only [Cell.conc]at yW VD
       obtain⟨hh2,_,_⟩:=c.hp.he _ _ (c.hE _ _ he2)
       have hun:s.used nid=false:=pA nid (by simp)
       have h0:Mh w e t.size (.slice none 0 0) 0 []:=aeM w e t.size
       have fin: ∀ v' w' cs',(Builtin.append_ #[t1,t1] ty #[.slice none 0 0,ρ jd]).run P w= .ok v' w'→Mh w' e t.size v' ys.length cs'→qu ρ.mem t cs' ys→Chg w w' (fun k=>k∈jQ (.slice none 0 0))→(∀ b∈jQ v',w.heap.size≤b∨b∈jQ (.slice none 0 0))→
         Oper.wp P ⟨dst,.call cl,ty,pos,after,guard⟩ a w K Q:=by
        intro v' w' cs' hr xG zK hg hbl
        obtain⟨hX,hp⟩:=c.hp.rowNew hun ⟨hg.os,hg.tape,hg.output,hg.size,fun k hk _=>hg.block k hk (by simp [jQ])⟩ xG zK (fun b hb=>(hbl b hb).elim id (fun h=>by simp [jQ]at h))
        refine ba (u:=v') (w':=w') ?_ (hC _ v' w' hX ?_ hp)
        ·simp [execOp,resolve,hb,invoke,builtin,NK,yW,VD,hat,hr]
        ·simp only [one,SV.conc,V1.conc,Cell.conc]
         rw [lz _ _ (vF xG)]
       rcases aeP hh2 c.hp.hf.dat with⟨hv,hn⟩ | ⟨b,off,cap,news,hv,zK,Xb,hcm,hcells⟩
       ·subst hn
        rcases hv with hv | ⟨b,hv⟩
        ·have hr:=TE (P:=P) (w:=w) t1 ty e inf t.size hT EC (.slice none 0 0) 0 [] h0
         rw [← hv]at hr
         exact fin _ _ [] (by rw [hv]at hr ⊢;exact hr) (by simpa using h0) (qu.nil _ _) (Chg.refl _ _) fun b hb=>by simp [jQ]at hb
        ·obtain⟨v',w',hr,g1,g2,g3⟩:=Gw (P:=P) t1 ty e inf z t.size inf.bytes hT EC hz k3 rfl k4 (EL t) (.slice none 0 0) 0 [] h0 b 0 0 [] (by simp) (fun j u hj=>by simp at hj) (fun u hu=>by simp at hu) (HK (by simp)) (by simp)
         rw [← hv]at hr
         exact fin _ _ _ hr (by simpa using g1) (by simpa using qu.nil ρ.mem t) g2 g3
       ·obtain⟨v',w',hr,g1,g2,g3⟩:=Gw (P:=P) t1 ty e inf z t.size inf.bytes hT EC hz k3 rfl k4 (EL t) (.slice none 0 0) 0 [] h0 ⟨b,off,none⟩ ys.length cap news zK.1 hcells zK.cell_one (HK (by omega)) (by simpa using n2)
        rw [← hv]at hr
        refine fin _ _ _ hr (by simpa using g1) (by simpa using zK) g2 g3
     ·cases h
    ·cases h
   ·cases h
  ·cases h
 ·cases h
def anK(tr:Bool)(P:Program)(look:Nat→Option SS)(ent:Nat→Option Entry)(A:List (Nat×Bool))(nid:Nat)(T:TypeId)(x y:Operand):Option Raw:=
 bif tr then
  match evC look A x,evC look A y with
  |some (.ptr id off),some (.val (.slice none 0 0))=>match ent id with
   |some (.box U cs)=>
    let f:=Oi P true T nid ⟨false,[.val (.slice none 0 0)]⟩
    bif Hw P T off cs.length f.v.cs then some ⟨anM,(id,.box U (cs.take off++f.v.cs++cs.drop (off + f.v.cs.length)))::f.es,xH f.es,[]⟩else none
   |_=>none
  |_,_=>none
 else none
theorem aoK(c:Ctx B ρ s a w look ent A){tr:Bool}{T:TypeId}{x y:Operand}(ho:o.op= .store T x y)(h:anK tr P look ent A nid T x y=some r)(pA: ∀ i∈r.new,s.used i=false)
  (hC:rY B s ρ r o a K):o.wp P a w K Q:=by
 obtain⟨dst,op,ty,pos,after,guard⟩:=o
 simp only at ho;subst ho
 unfold anK at h
 cases tr with
 |false=>cases h
 |true=>
  simp only [cond_true]at h
  split at h
  ·rename_i id off hx hy
   split at h
   ·rename_i U cs he
    cases lO:Hw P T off cs.length (Oi P true T nid ⟨false,[.val (.slice none 0 0)]⟩).v.cs with
    |false=>simp [lO]at h
    |true=>
     simp only [lO,cond_true]at h
     cases h
     have QR:=c.hE _ _ he
     have yW:=(c.evC hx).1
     have VD:=(c.evC hy).1
     simp only [Cell.conc]at VD
     obtain⟨ρ',hX,_,hp,_,_,hcc⟩:=afu (P:=P) (tr:=true) (T:=T) (n:=nid) (v:=⟨false,[.val (.slice none 0 0)]⟩) c.hp (by intro c hc;simp only [v7]at hc;subst hc;trivial) pA
     have lN:=(c.hp.he _ _ QR).2.1
     have hlk:look? (Oi P true T nid ⟨false,[.val (.slice none 0 0)]⟩).es id=none:=by
      cases hl:look? (Oi P true T nid ⟨false,[.val (.slice none 0 0)]⟩).es id with
      |none=>rfl
      |some e=>
       have:=pA id (apB hl)
       rw [lN]at this;cases this
     have hent':bS s.ent (Oi P true T nid ⟨false,[.val (.slice none 0 0)]⟩).es id=some (.box U cs):=by simp only [bS,hlk,QR]
     obtain⟨⟨b,h1,h2,_⟩,_,FK⟩:=hp.he _ _ hent'
     have hnid:ρ' id=ρ id:=hX.nm id lN
     have hvc:(Value.slice none 0 0).cells=((Oi P true T nid ⟨false,[.val (.slice none 0 0)]⟩).v.cs.map (Cell.conc ρ')).toArray:=by rw [hcc];rfl
     have hr:=XT (P:=P) (ρ:=ρ') (w:=w) (b:=b) (off:=off) (v:= .slice none 0 0) lO (fun h=>by simpa using h) hvc h2
     obtain⟨hX2,hp2⟩:=hp.setBox hent' (ns:=cs.take off++(Oi P true T nid ⟨false,[.val (.slice none 0 0)]⟩).v.cs++cs.drop (off + (Oi P true T nid ⟨false,[.val (.slice none 0 0)]⟩).v.cs.length)) (fun c' hc=>by
      simp only [List.append_assoc,List.mem_append]at hc
      rcases hc with hc | hc | hc
      ·exact FK c' (List.mem_of_mem_take hc)
      ·exact as4 (U:=dp s.used (xH (Oi P true T nid ⟨false,[.val (.slice none 0 0)]⟩).es)) (by intro c hc;simp only [v7]at hc;subst hc;trivial) (fun i hi=>IV hi) c' hc
      ·exact FK c' (List.mem_of_mem_drop hc))
     have hbk:Xc (ρ' id)=b:=by rw [h1];rfl
     rw [hbk]at hp2
     rw [amF,← hnid,hbk]at yW
     refine Yf (w':=w.setRow b ((cs.take off++(Oi P true T nid ⟨false,[.val (.slice none 0 0)]⟩).v.cs++cs.drop (off + (Oi P true T nid ⟨false,[.val (.slice none 0 0)]⟩).v.cs.length)).map (Cell.conc ρ')).toArray) ?_
      (hC ρ' _ _ hX (SV.conc_ofValue ρ' undef).symm (by rw [Fe]at hp2;exact hp2))
     have hr':(storeVar T ⟨b,off,none⟩ (.slice none 0 0)).run P w= .ok () (w.setRow b ((cs.take off++(Oi P true T nid ⟨false,[.val (.slice none 0 0)]⟩).v.cs++cs.drop (off + (Oi P true T nid ⟨false,[.val (.slice none 0 0)]⟩).v.cs.length)).map (Cell.conc ρ')).toArray):=by
      rw [hr];simp [List.map_take,List.map_drop]
     simp [execOp,Instr.storeAt,yW,VD,Instr.sureAddr,hr']
   ·cases h
  ·cases h
theorem auQ(c:Ctx B ρ s a w look ent A){fr:Bool}{x:Operand}(ho:o.op= .move x)(h:azn fr look A x=some r)
  (hC:rY B s ρ r o a K):o.wp P a w K Q:=by
 obtain⟨dst,op,ty,pos,after,guard⟩:=o
 simp only at ho;subst ho
 unfold azn at h
 cases fr with
 |false=>cases h
 |true=>
  simp only [cond_true]at h
  split at h
  ·rename_i t v hx
   cases h
   have yW:=(c.ev hx).1
   refine ba (w':=w) ?_ (rY.same (v:= .one v) rfl hC c.hp)
   simp [execOp,yW,Sem.run_pure]
  ·cases h
theorem atV(c:Ctx B ρ s a w look ent A){fr:Bool}{T:TypeId}{x:Operand}{lo hi mx:Option Operand}(ho:o.op= .slice T x lo hi mx)(h:axR fr P look ent A T x lo hi mx=some r)
  (cL: ∀ b∈r.nd,b=true) (hC:rY B s ρ r o a K):o.wp P a w K Q:=by
 obtain⟨dst,op,ty,pos,after,guard⟩:=o
 simp only at ho;subst ho
 unfold axR at h
 cases fr with
 |false=>cases h
 |true=>
  simp only [cond_true]at h
  split at h
  ·rename_i y id hx
   split at h
   ·rename_i e t xs l he hl
    cases lO:TW P T t with
    |false=>simp [lO]at h
    |true=>
     simp only [lO,cond_true]at h
     cases h
     unfold TW at lO
     split at lO
     ·rename_i e' hT
      split at lO
      ·rename_i inf EC
       have TY:=q8 lO
       have h0:0≤l:=by simpa using cL (decide (0≤l)) (by simp)
       have h1:l≤xs.length:=by simpa using cL (decide (l≤(xs.length:Int))) (by simp)
       obtain⟨hh,_,_⟩:=c.hp.he _ _ (c.hE _ _ he)
       have yW:=(c.evC hx).1
       simp only [Cell.conc]at yW
       have hsl: ∃ b cap,ρ id= .slice b xs.length cap∧xs.length≤cap:=by
        rcases aeP hh c.hp.hf.dat with⟨hv,hn⟩ | ⟨b,off,cap,news,hv,_,Xb,_⟩
        ·subst hn;obtain⟨b0,hb0⟩:=Yg hv;exact⟨b0,0,hb0,Nat.le_refl _⟩
        ·exact⟨_,cap,hv,Xb⟩
       obtain⟨b,cap,hv,Xb⟩:=hsl
       have hb:bnd look A (some y) 0=some l:=hl
       have hr:=acT (P:=P) (w:=w) (b:=b) (len:=xs.length) (cap:=cap) (hi:=none) (h:=xs.length) hT EC (NZ c hb) (.inl ⟨rfl,rfl⟩) h0 h1 (Int.le_refl _) Xb
       refine ba (w':=w) ?_ (rY.same (v:=one (.vw id t.size l.toNat)) rfl hC c.hp)
       simp only [execOp,yW,hv,one,SV.conc,V1.conc,Cell.conc,vwN,if_neg (avU t),Pk]
       rw [TY]at hr
       simp only [Option.map_none,Sem.run_bind,hr,Result.andThen_ok,Sem.run_pure,Int.toNat_natCast]
      ·cases lO
     ·cases lO
   ·cases h
  ·cases h
theorem auV(H:Nat→Option Obj)(n:Nat):qu H (.int .i64) (v5 n (Value.int .i64 0)) (adi n):=by
 refine⟨by rw [afO,k8];exact(Nat.mul_one _).symm,fun i y hy=> ?_⟩
 have hy2:(v5 n (0:Int))[i]? =some y:=hy
 obtain⟨hlt,hye⟩:=k9.1 hy2
 have hl:i < (v5 n (Value.int .i64 0)).length:=by simpa using hlt
 have h0:(0:Int)=y:=by rw [← hye];exact(List.getElem_replicate _).symm
 simp only [Rep,CTy.size,Nat.mul_one]
 rw [List.drop_eq_getElem_cons hl,List.take_succ_cons,List.take_zero,List.getElem_replicate]
 exact congrArg (fun y=> [Value.int .i64 y]) h0
theorem arO(c:Ctx B ρ s a w look ent A){cl:Call}{x:Operand}(ho:o.op= .call cl)(hb:cl.callee= .builtin .clear)(Mn:cl.args.toList= [x])(h:auf P look ent A cl.argTypes x=some r)
  (hC:rY B s ρ r o a K):o.wp P a w K Q:=by
 obtain⟨dst,op,ty,pos,after,guard⟩:=o
 simp only at ho;subst ho
 have NK:cl.args= #[x]:=by rw [← j9 (xs:=cl.args),Mn]
 unfold auf at h
 split at h
 ·rename_i id T hx hts
  have hat:cl.argTypes= #[T]:=by rw [← j9 (xs:=cl.argTypes),hts]
  split at h
  ·rename_i e xs e' he hT
   split at h
   ·rename_i inf EC
    split at h
    ·rename_i hz
     cases h
     have QR:=c.hE _ _ he
     obtain⟨⟨cs,h1,h2,h3⟩,lN,_⟩:=c.hp.he _ _ QR
     have yW:=(c.evC hx).1
     simp only [Cell.conc]at yW
     have hzero: ∀ w',(zeroValue e').run P w'= .ok (.int .i64 0) w':=fun w'=>by simp [zeroValue,typeInfo,EC,hz]
     have tG:(adi xs.length).length=xs.length:=afO _
     have fin: ∀ W cs',(Builtin.clear_ #[T] ty #[ρ id]).run P w= .ok (.tuple #[]) W→Mh W e (CTy.int IntKind.i64).size (ρ id) (adi xs.length).length cs'→qu ρ.mem (.int .i64) cs' (adi xs.length)→Chg w W (fun k=>k∈jQ (ρ id))→
       Oper.wp P ⟨dst,.call cl,ty,pos,after,guard⟩ a w K Q:=by
      intro W cs' hr xG zK hg
      obtain⟨hX,hp⟩:=c.hp.rowSet (xs':=adi xs.length) QR hg xG zK
      refine ba (u:= .tuple #[]) (w':=W) ?_ (hC ρ _ W hX rfl (by simpa [aqz] using hp))
      simp [execOp,resolve,hb,invoke,builtin,NK,hat,yW,hr]
     have zK:qu ρ.mem (.int .i64) (v5 xs.length (Value.int .i64 0)) (adi xs.length):=auV _ _
     rcases h1.2 with⟨hv,hn⟩ | ⟨g,cap,cur,hv,hc0,hg,Xb,hcm,TY,htk⟩
     ·have hn:xs.length=0:=hn
      have Tz:cs= []:=List.length_eq_zero_iff.1 (by rw [h1.1,hn,Nat.zero_mul])
      have e0:adi xs.length= []:=by rw [hn];rfl
      refine fin w [] ?_ (by rw [e0];exact⟨by simp,.inl ⟨hv,rfl⟩⟩) (by rw [e0];exact qu.nil _ _) (Chg.refl _ _)
      rcases hv with hv | ⟨d,hv⟩ <;> simp [Builtin.clear_,hv,run_underlying hT]
     ·have TY:cur.size=cap:=by rw [TY];exact Nat.mul_one _
      by_cases hn:xs.length=0
      ·have Tz:cs= []:=List.length_eq_zero_iff.1 (by rw [h1.1,hn,Nat.zero_mul])
       have e0:adi xs.length= []:=by rw [hn];rfl
       refine fin w [] ?_ (by rw [e0];rw [hn,Tz]at h1;exact h1) (by rw [e0];exact qu.nil _ _) (Chg.refl _ _)
       rw [hv,hn];simp [Builtin.clear_,run_underlying hT]
      ·obtain⟨m,hm⟩: ∃ m,xs.length=m + 1:=⟨xs.length - 1,by omega⟩
       have hst:=run_storeCells_at P g 0 e (v5 xs.length (Value.int .i64 (0:Int))) 0 cur w hg (by simp;omega) (fun u hu=>by rw [List.eq_of_mem_replicate hu];rfl)
       obtain⟨W,hW⟩: ∃ W,W=w.setRow g (cur.toList.take 0++v5 xs.length (Value.int .i64 0)++cur.toList.drop (0 + xs.length)).toArray:=⟨_,rfl⟩
       have hzc:(Builtin.zeroCells (Value.int .i64 0).cells xs.length).toList=v5 xs.length (Value.int .i64 0):=by
        simp only [Value.cells,Builtin.zeroCells]
        apply List.ext_getElem
        ·simp
        ·intro i h1 h2
         simp [Nat.mod_one]
       refine fin W _ ?_ ?_ zK ?_
       ·rw [hv]
        rw [hm]at hst hzc hW ⊢
        have hst2:(storeCells ⟨g,0,none⟩ (v5 (m + 1) (Value.int .i64 0))).run P w= .ok () W:=by rw [hW];simpa using hst
        simp only [Builtin.clear_]
        simp [run_underlying hT,hzero,hzc,hst2]
       ·refine⟨by rw [afO,k8];exact(Nat.mul_one _).symm,.inr ⟨g,cap,_,by rw [tG];exact hv,hc0,by rw [hW];exact setRow_heap w g _ _ e _ hg,by rw [tG];exact Xb,hcm,?_,?_⟩⟩
        ·simp only [List.size_toArray,j7,j8,k8,List.length_drop,Array.length_toList]
         show _=cap * 1
         omega
        ·show (_:List Value).take ((adi xs.length).length * 1)=_
         rw [tG,Nat.mul_one];simp
       ·refine Chg.own (v:=ρ id) ?_ ?_
        ·rw [hv,hW]
         exact⟨rfl,rfl,rfl,by simp [World.setRow],fun k _ hk=>setRow_other w g k _ fun e=>hk (by simp [Value.ownBlock,e])⟩
        ·intro k hk
         rw [hv]at hk ⊢;simp only [Value.ownBlock,w5]at hk;rw [uu hc0,← hk];simp
    ·cases h
   ·cases h
  ·cases h
 ·cases h
theorem aud(c:Ctx B ρ s a w look ent A){bop:BinOp}{T T':TypeId}{x y:Operand}(ho:o.op= .binOp bop T x y T')(h:ayZ look A bop x y=some r)(cL: ∀ b∈r.nd,b=true)(hC:rY B s ρ r o a K):o.wp P a w K Q:=by
 obtain⟨dst,op,ty,pos,after,guard⟩:=o
 simp only at ho;subst ho
 unfold ayZ at h
 split at h
 ·rename_i u v hx hy
  cases h
  have hz:u.size + v.size≤9223372036854775807:=by simpa using cL (decide (u.size + v.size≤9223372036854775807)) (by simp)
  have yW:=(c.evC hx).1
  have VD:=(c.evC hy).1
  simp only [Cell.conc]at yW VD
  refine ba (w':=w) ?_ (rY.same (v:=one (.val (.string (u++v)))) rfl hC c.hp)
  simp [execOp,eqGuard,yW,VD,binOp_string_add,run_string_add_sum w u v hz,one,SV.conc,V1.conc,Cell.conc]
 ·cases h
def alD(P:Program)(look:Nat→Option SS)(ent:Nat→Option Entry)(A:List (Nat×Bool))(nid:Nat)(T:TypeId)(x y:Operand):Option Raw:=
 match evC look A x,ev1 look A y with
 |some (.el id z i off),some v=>match ent id,v.cells? with
  |some (.row true e t xs),some ns=>bif Nat.beq z t.size&&(Hw P T off t.size ns&& !(t.flat||Nat.beq off 0&&Nat.beq ns.length t.size))then
    match KF (bS ent (SC t (xs[i]?.getD (vB t)) nid)) t ((Ab t (xs[i]?.getD (vB t)) nid).take off++ns++(Ab t (xs[i]?.getD (vB t)) nid).drop (off + ns.length))with
    |some (y',l)=>bif memN l id then none else some ⟨anM,((id,.row true e t (xs.set i y'))::frz (bS ent (SC t (xs[i]?.getD (vB t)) nid)) l)++SC t (xs[i]?.getD (vB t)) nid,bw nid t.nsl,[decide (i < xs.length)]⟩
    |none=>none
   else none
  |_,_=>none
 |_,_=>none
theorem anL(c:Ctx B ρ s a w look ent A){T:TypeId}{x y:Operand}(ho:o.op= .store T x y)(h:alD P look ent A nid T x y=some r)(pA: ∀ i∈r.new,s.used i=false)(cL: ∀ b∈r.nd,b=true)(hC:rY B s ρ r o a K):o.wp P a w K Q:=by
 obtain⟨dst,op,ty,pos,after,guard⟩:=o
 simp only at ho;subst ho
 unfold alD at h
 split at h
 ·rename_i id z i off v hx hy
  split at h
  ·rename_i e t xs ns he hns
   cases lO:(Nat.beq z t.size&&(Hw P T off t.size ns&& !(t.flat||Nat.beq off 0&&Nat.beq ns.length t.size)))with
   |false=>simp only [lO,cond_false]at h;cases h
   |true=>
    simp only [lO,cond_true]at h
    simp only [j6]at lO
    obtain⟨k1,k2,_⟩:=lO
    have:=q8 k1;subst this
    split at h
    ·rename_i y' l hcl
     cases hm:memN l id with
     |true=>simp [hm]at h
     |false=>
      simp only [hm,cond_false]at h
      cases h
      have hi:i < xs.length:=by simpa using cL (decide (i < xs.length)) (by simp)
      have QR:=c.hE _ _ he
      have yW:=(c.evC hx).1
      obtain⟨VD,hyin⟩:=c.ev1 hy
      have hnin:=V1.cells?_inU hyin hns
      obtain⟨⟨cs0,p1,p2,p3⟩,hidu,_⟩:=c.hp.he _ _ QR
      obtain⟨ρ',m',f',k',e',r'⟩:=afJ t _ _ nid ρ (p2.2 i _ (afw (d:=vB t) hi))
      have RP: ∀ id,s.used id=true→ρ' id=ρ id:=fun id lN=>k' id (by
       have: ¬ (nid≤id∧id < nid + t.nsl):=fun hh=>by
        have:=pA id (memN_mem.1 (xz.2 hh))
        rw [this]at lN;cases lN
       omega)
      obtain⟨hX0,hp0⟩:=c.hp.names (es:=SC t (xs[i]?.getD (vB t)) nid) (new:=bw nid t.nsl) RP m' (hfp:=fun id _ _=>by rw [f']) fun id e he=>by
       obtain⟨⟨e0,t0,ys,rfl,hr⟩,h3,h4⟩:=r' id e he
       exact⟨by simp only [Entry.holds];rw [m'];exact hr,IV (memN_mem.1 (xz.2 ⟨h3,h4⟩)),trivial,rfl⟩
      have hE': ∀ j en,bS ent (SC t (xs[i]?.getD (vB t)) nid) j=some en→bS s.ent (SC t (xs[i]?.getD (vB t)) nid) j=some en:=fun j en hj=>by
       simp only [bS]at hj ⊢
       cases hl:look? (SC t (xs[i]?.getD (vB t)) nid) j with
       |none=>rw [hl]at hj;exact c.hE _ _ hj
       |some en'=>rw [hl]at hj;exact hj
      have hidN:look? (SC t (xs[i]?.getD (vB t)) nid) id=none:=by
       cases hl:look? (SC t (xs[i]?.getD (vB t)) nid) id with
       |none=>rfl
       |some en=>
        obtain⟨_,h3,h4⟩:=r' id en hl
        have:=pA id (memN_mem.1 (xz.2 ⟨h3,h4⟩))
        rw [hidu]at this;cases this
      obtain⟨ρ1,n1,x1,h1⟩:=hp0.freezes hE' l
      have hnl:id∉l:=fun hh=>by rw [memN_mem.2 hh]at hm;cases hm
      have hent1:bS (bS s.ent (SC t (xs[i]?.getD (vB t)) nid)) (frz (bS ent (SC t (xs[i]?.getD (vB t)) nid)) l) id=some (.row true e t xs):=by
       simp only [bS,look?_frz_not hnl,hidN];exact QR
      obtain⟨⟨cs,g1,g2,g3⟩,_,_⟩:=h1.he _ _ hent1
      have zK:=UU hE' h1 t _ _ _ hcl fun i hi=>hi
      have hlt:=yV (z:=t.size) hi
      have lN:ρ1 id=ρ id:=(Nm.of_nm n1 id).trans (RP id hidu)
      rcases g1.2 with⟨_,hn⟩ | ⟨g,cap,cur,hv,hc0,hg,Xb,hcm,TY,htk⟩
      ·omega
      ·have Tz:cs0=cs:=by
        rcases p1.2 with⟨_,hn⟩ | ⟨g',cap',cur',hv',_,hg',_,_,_,htk'⟩
        ·omega
        ·rw [lN,hv']at hv
         have hgg:g'=g:=by simpa using (Value.slice.inj hv).1
         subst hgg
         have hcc:cur'=cur:=by rw [hg']at hg;simpa using hg
         subst hcc
         rw [← htk',← htk]
       subst Tz
       have hle2:xs.length * t.size≤cur.size:=by rw [TY];exact Nat.mul_le_mul_right _ Xb
       have hns':off + ns.length≤t.size:=by
        unfold Hw at k2
        split at k2
        ·simp only [j6]at k2;exact v6 k2.1.2
        ·cases k2
       have hr:=XT (ρ:=ρ) (w:=w) (b:=g) (off:=i * t.size + off) (cur:=cur) k2 (fun h=>by omega) (V1.cells?_conc ρ hns) hg
       obtain⟨W,hW⟩: ∃ W,W=w.setRow g (cur.toList.take (i * t.size + off)++ns.map (Cell.conc ρ)++cur.toList.drop (i * t.size + off + ns.length)).toArray:=⟨_,rfl⟩
       rw [← hW]at hr
       have hgr:w.grownBy W (ρ1 id).ownBlock:=by
        rw [hv,hW]
        exact⟨rfl,rfl,rfl,by simp [World.setRow],fun k _ hk=>setRow_other w g k _ fun e=>hk (by simp [Value.ownBlock,e])⟩
       have hspl:=aiT cur.toList (ns.map (Cell.conc ρ)) (i * t.size) off t.size (xs.length * t.size) (by simpa using hns') hlt (by simpa using hle2)
       have xG:W.ownsRow 0 e t.size (ρ1 id) (xs.set i y').length ((cur.toList.take (i * t.size + off)++ns.map (Cell.conc ρ)++cur.toList.drop (i * t.size + off + ns.length)).take (xs.length * t.size)):=by
        refine⟨?_,.inr ⟨g,cap,(cur.toList.take (i * t.size + off)++ns.map (Cell.conc ρ)++cur.toList.drop (i * t.size + off + ns.length)).toArray,?_,Nat.zero_le _,?_,?_,hcm,?_,?_⟩⟩
        ·simp only [v8,j8,j7,List.length_map,List.length_drop,Array.length_toList];omega
        ·rw [v8];exact hv
        ·rw [hW];exact setRow_heap w g _ _ e _ hg
        ·rw [v8];exact Xb
        ·simp only [List.size_toArray,j8,j7,List.length_map,List.length_drop,Array.length_toList];omega
        ·rw [v8]
       have hnmap:ns.map (Cell.conc ρ')=ns.map (Cell.conc ρ):=xZ RP hnin
       have hds:qu ρ1.mem t ((cur.toList.take (i * t.size + off)++ns.map (Cell.conc ρ)++cur.toList.drop (i * t.size + off + ns.length)).take (xs.length * t.size)) (xs.set i y'):=by
        rw [List.length_map]at hspl
        rw [hspl,htk]
        refine qu.set g2 hi ?_
        rw [aii n1]at zK
        simp only [List.map_append,List.map_take,List.map_drop,← e',hnmap]at zK
        exact zK
       obtain⟨hX,hp⟩:=h1.rowSet hent1 (Chg.own hgr fun k hk=>by rw [hv]at hk ⊢;simp only [Value.ownBlock,w5]at hk;rw [uu hc0,← hk];simp) (Yk xG) hds
       rw [Fe,Fe]at hp
       refine Yf (w':=W) ?_ (hC ρ1 _ W ((hX0.trans x1 fun _ h=>jL _ h).trans hX fun _ h=>jL _ h) (SV.conc_ofValue ρ1 undef).symm hp)
       rw [VB]at yW
       rw [lN]at hv
       simp only [hv,Xc,aio,Nat.zero_add]at yW
       simp [execOp,Instr.storeAt,yW,VD,Instr.sureAddr,hr]
    ·cases h
  ·cases h
 ·cases h
end
end Go.SX
namespace Go.SX
open Go.RowKit
def PF.parts(P:Program):PF P where
 k:=999994
 F:=fun _ _=>none
 ok:=fun _ _ _ h=>by cases h
def PF.parted{P:Program}:List (PF P)→Bool
 | []=>false
 |p::_=>Nat.beq p.k 999994
def ao5(P:Program)(look:Nat→Option SS)(A:List (Nat×Bool))(nid:Nat)(ts:Array TypeId)(x y:Operand):Option Raw:=
 match evC look A x,evI look A y,ts.toList with
 |some (.val (.slice none 0 0)),some n,[T,T2]=>match P.underlying T,P.underlying T2 with
  |some (.slice e),some (.int _)=>match P.info? e,aph P 12 e with
   |some inf,some t=>match inf.zero with
    |some z=>match KF (fun _=>none) t (z.cells.toList.map .val)with
     |some (x0,_)=>bif Nat.beq inf.size 1&&(Nat.beq t.size 1&&(t.flat&&Nat.beq z.cells.size 1))then
       some ⟨one (.ref nid),[(nid,.row true e t (v5 n.toNat x0))],[nid],[decide (1≤n),decide (n≤9223372036854775807),decide (n * (inf.bytes:Int)≤281474976710656)]⟩else none
     |none=>none
    |none=>none
   |_,_=>none
  |_,_=>none
 |_,_,_=>none
section
variable{P:Program}{tbl:List (PF P)}{s:St}{look:Nat→Option SS}{ent:Nat→Option Entry}{A:List (Nat×Bool)}{nid:Nat}{o:Oper}{r:Raw}{B:Base}{ρ:Nm}{a:Act}{w:World}{K:Act→World→Prop}{Q:Exit→Act→World→Prop}
theorem aj7(v:Value)(n:Nat):(Builtin.zeroCells #[v] n).toList=v5 n v:=by
 simp only [Builtin.zeroCells]
 apply List.ext_getElem
 ·simp
 ·intro i h1 h2
  simp [Nat.mod_one]
theorem arj{α:Type}(v:α): ∀ m,vA (v5 m [v])=v5 m v
 |0=>rfl
 |m + 1=>by rw [List.replicate_succ,List.replicate_succ,vA,arj v m];rfl
theorem ao6(c:Ctx B ρ s a w look ent A){cl:Call}{x y:Operand}(ho:o.op= .call cl)(hb:cl.callee= .builtin .append)(Mn:cl.args.toList= [x,y])(h:ao5 P look A nid cl.argTypes x y=some r)
  (pA: ∀ i∈r.new,s.used i=false) (cL: ∀ b∈r.nd,b=true) (hC:rY B s ρ r o a K):o.wp P a w K Q:=by
 obtain⟨dst,op,ty,pos,after,guard⟩:=o
 simp only at ho;subst ho
 have NK:cl.args= #[x,y]:=by rw [← j9 (xs:=cl.args),Mn]
 unfold ao5 at h
 split at h
 ·rename_i n T T2 hx hy hts
  have hat:cl.argTypes= #[T,T2]:=by rw [← j9 (xs:=cl.argTypes),hts]
  split at h
  ·rename_i e k hT hT2
   split at h
   ·rename_i inf t EC ht
    split at h
    ·rename_i z hz
     split at h
     ·rename_i x0 ids hcl
      cases lO:(Nat.beq inf.size 1&&(Nat.beq t.size 1&&(t.flat&&Nat.beq z.cells.size 1)))with
      |false=>simp [lO]at h
      |true=>
       simp only [lO,cond_true]at h
       cases h
       simp only [j6]at lO
       obtain⟨k1,k2,_,k4⟩:=lO
       have k1:=q8 k1
       have k2:=q8 k2
       have k4:=q8 k4
       have n0:1≤n:=of_decide_eq_true (cL _ (List.mem_cons_self ..))
       have n1:n≤9223372036854775807:=of_decide_eq_true (cL _ (List.mem_cons_of_mem _ (List.mem_cons_self ..)))
       have n2:n * (inf.bytes:Int)≤281474976710656:=of_decide_eq_true (cL _ (List.mem_cons_of_mem _ (List.mem_cons_of_mem _ (List.mem_cons_self ..))))
       have yW:=(c.evC hx).1
       obtain⟨kl,VD⟩:=c.evI hy
       simp only [Cell.conc]at yW
       obtain⟨m,rfl⟩: ∃ m:Nat,n=(m:Int):=⟨n.toNat,by omega⟩
       have hm2:m * inf.bytes≤281474976710656:=by rw [← Int.natCast_mul]at n2;omega
       have hr:=Lib.run_append_nil_zeros (P:=P) w T T2 ty e inf z kl k hT hT2 EC hz m (by omega) (by omega) n1 hm2
       have zK:=aft (ρ:=ρ) (H:=ρ.mem) t _ _ _ hcl
       rw [aat]at zK
       obtain⟨zv,hzv⟩: ∃ zv,z.cells= #[zv]:=by
        rcases hc:z.cells with⟨l⟩
        rw [hc]at k4
        match l,k4 with
        | [v],_=>exact⟨v,rfl⟩
       have hcap:=grownCap_ge w m 0 e
       have TY:(Builtin.zeroCells z.cells m++Builtin.zeroCells z.cells (grownCap w m 0 e - m)).size=grownCap w m 0 e * t.size:=by
        rw [Array.size_append,size_zeroCells,size_zeroCells,k4,k2];omega
       have tG:(v5 (m:Int).toNat x0).length=m:=by simp
       have xG:Mh (w.drew.alloc (.cells (Builtin.zeroCells z.cells m++Builtin.zeroCells z.cells (grownCap w m 0 e - m)) e)) e t.size (.slice (some ⟨w.heap.size,0,none⟩) m (grownCap w m 0 e)) (v5 (m:Int).toNat x0).length (v5 m zv):=by
        rw [tG]
        refine⟨by rw [k8,k2,Nat.mul_one],.inr ⟨w.heap.size,grownCap w m 0 e,_,rfl,by omega,heap_alloc_new w.drew _,hcap,?_,TY,?_⟩⟩
        ·by_cases hml:m≤maxLen
         ·exact grownCap_le_maxLen w m 0 e hml
         ·exact absurd (HK (n:=m) (by omega)) hml
        ·rw [k2,Nat.mul_one,Array.toList_append,hzv,aj7,aj7,List.take_append_of_le_length (by simp),List.take_of_length_le (by simp)]
       have hrepl:qu ρ.mem t (v5 m zv) (v5 (m:Int).toNat x0):=by
        have h2:=qu.replicate zK m
        rw [hzv]at h2
        have h2:qu ρ.mem t (vA (v5 m [zv])) (v5 m x0):=h2
        rw [arj]at h2
        simpa using h2
       obtain⟨hX,hp⟩:=c.hp.rowNew (nid:=nid) (pA nid (by simp)) (w':=w.drew.alloc (.cells (Builtin.zeroCells z.cells m++Builtin.zeroCells z.cells (grownCap w m 0 e - m)) e))
        ⟨rfl,rfl,rfl,(World.grownBy_alloc w.drew _ none).size,fun q hq hn=>(World.grownBy_alloc w.drew _ none).block q hq hn⟩ xG hrepl (fun b hb=>Nat.le_of_eq (YH hb).symm)
       refine ba ?_ (hC _ (.slice (some ⟨w.heap.size,0,none⟩) m (grownCap w m 0 e)) _ hX ?_ hp)
       ·simp only [execOp,resolve,hb,invoke,builtin,NK,hat,List.map_toArray,k7,List.map_nil,yW,VD]
        simp [hr]
       ·simp only [one,SV.conc,V1.conc,Cell.conc]
        rw [lz _ _ rfl]
     ·cases h
    ·cases h
   ·cases h
  ·cases h
 ·cases h
theorem qu.drop{H:Nat→Option Obj}{t:CTy}{cs:List Value}{xs:List (E t)}(h:qu H t cs xs){m:Nat}(hm:m≤xs.length):qu H t (cs.drop (m * t.size)) (xs.drop m):=by
 refine⟨by rw [List.length_drop,List.length_drop,h.1,Nat.sub_mul],fun i x hx=> ?_⟩
 rw [List.getElem?_drop]at hx
 have:=h.2 (m + i) x hx
 rw [List.drop_drop,← Nat.add_mul]
 exact this
end
end Go.SX
namespace Go.SX
open Go.RowKit
section
variable{P:Program}{tbl:List (PF P)}{s:St}{look:Nat→Option SS}{ent:Nat→Option Entry}{A:List (Nat×Bool)}{nid:Nat}{o:Oper}{r:Raw}{B:Base}{ρ:Nm}{a:Act}{w:World}{K:Act→World→Prop}{Q:Exit→Act→World→Prop}
theorem ajV: ∀ (n k:Nat),(bw n k).Nodup
 |n,0=>List.nodup_nil
 |n,k + 1=>List.nodup_cons.2 ⟨fun h=>by
   have:=(xz.1 (memN_mem.2 h)).1
   omega,ajV (n + 1) k⟩
theorem ahY(c:Ctx B ρ s a w look ent A){k:FuncId}{args:List SV}{L:List Nat}(FK: ∀ v∈args,v.inU s.used)(hr:(execOp a.eval o).run P w= .ok (.enter k (args.map (SV.conc ρ)).toArray) w)
  (h:asR tbl ent nid k args L=some r) (pA: ∀ i∈r.new,s.used i=false) (cL: ∀ b∈r.nd,b=true) (hC:rY B s ρ r o a K):o.wp P a w K Q:=by
 unfold asR at h
 split at h
 ·rename_i args' es0 ha hes
  split at h
  ·rename_i out kp hout
   simp only at h
   split at h
   ·rename_i v es' hv hes'
    cases hnd':aim L with
    |false=>simp [hnd']at h
    |true=>
     simp only [hnd',cond_true]at h
     cases h
     have hn:=ain hnd'
     have hlend:=lend (B:=B) (w:=w) c.hE c.hp hn hes
     have hc:=am4 hout cL (memBig w s.ent ρ L) (subNm ρ L) w hlend
     have Mn:args'.map (SV.conc (subNm ρ L))=args.map (SV.conc ρ):=
      NN ha fun x hx y hy=>SV.ren_conc (U:=s.used) (fun i j _ hj=>tV (Im hj)) (FK x hx) hy
     rw [Mn]at hc
     unfold Oper.wp;rw [hr]
     refine hc.mono fun e w' ⟨ρc,hx,he,hl,hU,hpl⟩=> ?_
     subst he
     have hl0:es0.length=L.length:=(NM hes).1
     obtain⟨ρ',hX,hren,hp⟩:=az0 (m:=out.new.length) c.hE c.hp hn hes pA (by rw [j7,hl,hl0]) hx hpl hes'
     refine hC ρ' _ w' hX (SV.ren_conc hren hU hv).symm ?_
     have Xk:=ahZ hout cL
     have hLn:=hn
     have hMn:(L++bw nid out.new.length).Nodup:=by
      refine List.nodup_append.2 ⟨hn,ajV _ _,fun x hx y hy hxy=> ?_⟩
      subst hxy
      have h1:=pA x hy
      obtain⟨j,hj⟩:=List.mem_iff_getElem?.1 hx
      have hj2:j < es0.length:=by rw [hl0];exact(k9.1 hj).1
      obtain⟨i,e,q1,q2,_⟩:=YW c.hE hes (List.getElem?_eq_getElem hj2)
      rw [hj]at q1;cases q1
      have:=(c.hp.he _ _ q2).2.1
      rw [this]at h1;cases h1
     rw [atY c.hE hMn fun q i e h1 h2 h3=>by
      simp only [Nat.zero_add,j6]at h3
      have hq:q < L.length:=v6 h3.1
      have hqk:=Xk q (memN_mem.1 h3.2)
      have hi:L[q]? =some i:=by rw [List.getElem?_append_left hq]at h1;exact h1
      have hq0:q < es0.length:=by omega
      obtain⟨e1,he1,hr1⟩:=(NM hes').2 q e h2
      rw [List.getElem?_append_left (by omega),hqk]at he1
      obtain⟨i2,q1,q2⟩:=(NM hes).2 q e1 he1
      rw [hi]at q1;cases q1
      unfold atC at q2
      split at q2
      ·rename_i e0 he0
       have:e=e0:=Entry.ren_round (fun a b d h1 h2=>by
        have:=Im h1
        simp only [anX]at h2
        rw [List.getElem?_append_left (k9.1 this).1,this]at h2
        exact(Option.some.inj h2).symm) q2 hr1
       rw [this];exact he0
      ·cases q2]
     exact hp
   ·cases h
  ·cases h
 ·cases h
theorem afL{k:FuncId}{args:Array Value}(h:atv P k=true):(callFunc k args).run P w= .ok (.enter k args) w:=by
 unfold atv at h
 split at h
 ·rename_i fn hfn
  simp only [j6,Bool.not_eq_true']at h
  obtain⟨h1,h2⟩:=h
  unfold callFunc
  have h3: ¬ fn.name= "runtime.NumGoroutine" :=by simpa using h1
  have h4:fn.body≠none:=fun e=>by rw [e]at h2;cases h2
  simp [program,Sem.run_bind,Sem.run,hfn,h3,h4]
 ·cases h
theorem auc(caps:List Nat):(asU caps).map (SV.conc ρ)=caps.map fun id=>Value.pointer (some ⟨Xc (ρ id),0,none⟩):=by
 simp only [asU,List.map_map];rfl
theorem av2(bs:List (Nat×Option Value)):(awI bs).conc ρ= .agg (bs.map (bcV ρ)).toArray:=by
 simp only [awI,SV.conc,V1.conc,List.map_map]
 congr 2
 refine List.map_congr_left fun p _=> ?_
 obtain⟨id,o⟩:=p
 cases o <;> rfl
theorem apc{U:Nat→Bool}: ∀ {bs:List (Nat×Option Value)},(∀ id∈adz bs,U id=true)→(awI bs).inU U
 | [],_=>fun x hx=>by cases hx
 |(id,none)::r,h=>fun x hx=>by
  rcases List.mem_cons.1 hx with rfl | hx
  ·exact h id (List.mem_cons_self ..)
  ·exact apc (bs:=r) (fun i hi=>h i (List.mem_cons_of_mem _ hi)) x hx
 |(id,some v)::r,h=>fun x hx=>by
  rcases List.mem_cons.1 hx with rfl | hx
  ·trivial
  ·exact apc (bs:=r) (fun i hi=>h i hi) x hx
theorem asS(c:Ctx B ρ s a w look ent A){cl:Call}{f:Operand}(ho:o.op= .call cl)(hf:cl.callee= .value f)(h:awK P tbl look ent A nid f cl.args.toList=some r)
  (pA: ∀ i∈r.new,s.used i=false) (cL: ∀ b∈r.nd,b=true) (hC:rY B s ρ r o a K):o.wp P a w K Q:=by
 obtain⟨dst,op,ty,pos,after,guard⟩:=o
 simp only at ho;subst ho
 unfold awK at h
 split at h
 ·rename_i k fi ca vs hk hvs
  split at h
  ·rename_i h1 h2
   have e1:fi= #[]:=by rw [← j9 (xs:=fi),h1]
   have e2:ca= #[]:=by rw [← j9 (xs:=ca),h2]
   subst e1;subst e2
   cases lO:atv P k with
   |false=>simp [lO]at h
   |true=>
    simp only [lO,cond_true]at h
    obtain⟨g1,g2⟩:=aes c hvs
    have hkv:=(c.evC hk).1
    simp only [Cell.conc]at hkv
    refine ahY c g2 ?_ h pA cL hC
    have NK:cl.args.map a.eval=(vs.map (SV.conc ρ)).toArray:=by rw [← g1,← j9 (xs:=cl.args.map a.eval),Array.toList_map]
    simp [execOp,resolve,hf,Deferred.ofValue,hkv,invoke,NK,afL lO]
  ·cases h
 ·rename_i k caps vs hk hvs
  cases lO:atv P k with
  |false=>simp [lO]at h
  |true=>
   simp only [lO,cond_true]at h
   obtain⟨g1,g2⟩:=aes c hvs
   obtain⟨hkv,hku⟩:=c.evC hk
   simp only [Cell.conc]at hkv
   refine ahY c (fun v hv=> ?_) ?_ h pA cL hC
   ·rcases List.mem_append.1 hv with hv | hv
    ·exact g2 v hv
    ·simp only [asU,List.mem_map]at hv
     obtain⟨id,lN,rfl⟩:=hv
     intro x hx;simp only [v7]at hx;subst hx;exact hku id lN
   ·have NK:cl.args.map a.eval=(vs.map (SV.conc ρ)).toArray:=by rw [← g1,← j9 (xs:=cl.args.map a.eval),Array.toList_map]
    simp [execOp,resolve,hf,Deferred.ofValue,hkv,invoke,NK,afL lO,auc]
 ·rename_i k bs vs hk hvs
  cases lO:atv P k with
  |false=>simp [lO]at h
  |true=>
   simp only [lO,cond_true]at h
   obtain⟨g1,g2⟩:=aes c hvs
   obtain⟨hkv,hku⟩:=c.evC hk
   simp only [Cell.conc]at hkv
   refine ahY c (fun v hv=> ?_) ?_ h pA cL hC
   ·rcases List.mem_cons.1 hv with rfl | hv
    ·exact apc hku
    ·exact g2 v hv
   ·have NK:cl.args.map a.eval=(vs.map (SV.conc ρ)).toArray:=by rw [← g1,← j9 (xs:=cl.args.map a.eval),Array.toList_map]
    simp [execOp,resolve,hf,Deferred.ofValue,hkv,invoke,NK,afL lO,av2]
 ·cases h
end
def orE{α:Type}:Option α→Option α→Option α
 |some a,_=>some a
 |none,b=>b
theorem ya{α:Type}{x y:Option α}{r:α}(h:orE x y=some r):x=some r∨y=some r:=by
 cases x with
 |none=>exact .inr h
 |some a=>exact .inl h
def opV(P:Program)(tbl:List (PF P))(look:Nat→Option SS)(ent:Nat→Option Entry)(A:List (Nat×Bool))(nid:Nat)(o:Oper):Option Raw:=
 match o.op with
 | .move x=>orE (azn (PF.rawed tbl) look A x) (avK P (PF.treed tbl) look A nid o.type x)
 | .assign x=>avK P (PF.treed tbl) look A nid o.type x
 | .pick c x y=>axD look A c x y
 | .alloc T=>at4 P (PF.treed tbl) nid T
 | .box T x=>ayY P (PF.treed tbl) look A nid T x
 | .load T x=>axq P look ent A nid T x
 | .store T x y=>orE (anK (PF.treed tbl) P look ent A nid T x y) (orE (alD P look ent A nid T x y) (au5 P look ent A nid T x y))
 | .fieldAddr T x f=>akL P look A T x f
 | .field T x f=>orE (Ty P look A o) (aur P look A T x f)
 | .nilCheck x=>orE (anq look A x) (Ty P look A o)
 | .indexAddr T x ix=>orE (akQ P look ent A T x ix) (arW P look A nid T x ix)
 | .index T x ix=>orE (auB P look A T x ix) (Ty P look A o)
 | .slice T x lo hi mx=>orE (anJ P look A T x lo hi mx) <| orE (axR (PF.viewed tbl||PF.parted tbl) P look ent A T x lo hi mx) (orE (au2 P look ent A nid (PF.marked tbl) T x lo hi mx) (arX P look A nid T x lo hi mx))
 | .makeFunc fn fi ca=>ank look A fn fi ca
 | .makeSlice T l c=>akS P (PF.treed tbl) look A nid T l c
 | .buildSlice T n ps=>ahX P (PF.treed tbl) look ent A nid T n ps
 | .build T ps=>orE (aua P (PF.treed tbl) look A nid T ps) (Ty P look A o)
 | .binOp op T x y _=>orE (ay4 look A op x y) (orE (ayZ look A op x y) (orE (eqV P look A op T x y) (orE (aun P look ent A op T x y) (Ty P look A o))))
 | .extract x i=>match ev look A x with
  |some (.tup vs)=>vs[i]?.map fun v=>Raw.ofV (.one v)
  |_=>none
 | .call cl=>match cl.callee,cl.args.toList with
  | .builtin .len,[x]=>orE (azg P look ent A cl.argTypes x) (Ty P look A o)
  | .builtin .append,[x,y]=>orE (arI P look ent A nid cl.argTypes x y) (orE (arH P look ent A nid cl.argTypes x y) (ao5 P look A nid cl.argTypes x y))
  | .builtin .clear,[x]=>orE (auf P look ent A cl.argTypes x) (Ty P look A o)
  | .builtin _,_=>Ty P look A o
  | .value f,args=>orE (awK P tbl look ent A nid f args) (ay8 P look A f args)
  |_,_=>none
 | .select _ _=>none
 | .convert S D x=>orE (azt P look ent A S D x) (Ty P look A o)
 |_=>Ty P look A o
section
variable{P:Program}{tbl:List (PF P)}{s:St}{look:Nat→Option SS}{ent:Nat→Option Entry}{A:List (Nat×Bool)}{nid:Nat}{o:Oper}{r:Raw}{B:Base}{ρ:Nm}{a:Act}{w:World}{K:Act→World→Prop}{Q:Exit→Act→World→Prop}
theorem arn(c:Ctx B ρ s a w look ent A)(h:opV P tbl look ent A nid o=some r)(pA: ∀ i∈r.new,s.used i=false)(cL: ∀ b∈r.nd,b=true)(hC:rY B s ρ r o a K):o.wp P a w K Q:=by
 unfold opV at h
 cases hop:o.op <;> rw [hop]at h <;> simp only at h
 case move x=>
  rcases ya h with h | h
  ·exact auQ c hop h hC
  ·exact aoe c (.inl hop) h pA hC
 case assign x=>exact aoe c (.inr hop) h pA hC
 case pick cc x y=>exact atA c hop h hC
 case alloc T=>exact arF c hop h pA hC
 case box T x=>exact at9 c hop h pA hC
 case load T x=>exact atr c hop h pA cL hC
 case store T x y=>
  rcases ya h with h | h
  ·exact aoK c hop h pA hC
  ·rcases ya h with h | h
   ·exact anL c hop h pA cL hC
   ·exact asE c hop h pA cL hC
 case fieldAddr T x f=>exact anc c hop h hC
 case field T x f=>
  rcases ya h with h | h
  ·exact Ad c (fun _ _=>by simp [hop]) h hC
  ·exact arU c hop h hC
 case nilCheck x=>
  rcases ya h with h | h
  ·exact aow c hop h hC
  ·exact Ad c (fun _ _=>by simp [hop]) h hC
 case indexAddr T x ix=>
  rcases ya h with h | h
  ·exact anh c hop h cL hC
  ·exact aqH c hop h pA cL hC
 case index T x ix=>
  rcases ya h with h | h
  ·exact ar8 c hop h cL hC
  ·exact Ad c (fun _ _=>by simp [hop]) h hC
 case slice T x lo hi mx=>
  rcases ya h with h | h
  ·exact aoJ c hop h cL hC
  rcases ya h with h | h
  ·exact atV c hop h cL hC
  rcases ya h with h | h
  ·exact asw c hop h pA cL hC
  ·exact aqI c hop h pA cL hC
 case makeFunc fn fi ca=>exact aot c hop h hC
 case makeSlice T l m=>exact anl c hop h pA cL hC
 case buildSlice T n ps=>exact amc c hop h pA hC
 case build T ps=>
  rcases ya h with h | h
  ·exact arM c hop h pA hC
  ·exact Ad c (fun _ _=>by simp [hop]) h hC
 case binOp bop T x y T'=>
  rcases ya h with h | h
  ·exact auh c hop h cL hC
  ·rcases ya h with h | h
   ·exact aud c hop h cL hC
   rcases ya h with h | h
   ·exact awc c hop h hC
   rcases ya h with h | h
   ·exact arT c hop h cL hC
   ·exact Ad c (fun _ _=>by simp [hop]) h hC
 case extract x i=>
  obtain⟨dst,op,ty,pos,after,guard⟩:=o
  simp only at hop;subst hop
  split at h
  ·rename_i vs hx
   cases hv:vs[i]? with
   |none=>simp [hv]at h
   |some v=>
    simp [hv]at h;subst h
    refine ba (u:=v.conc ρ) (w':=w) ?_ (rY.same (v:= .one v) rfl hC c.hp)
    have:=(c.ev hx).1
    simp [execOp,this,SV.conc,Instr.extract,hv]
  ·cases h
 case call cl=>
  split at h
  ·rename_i x hcl Mn
   rcases ya h with h | h
   ·exact auH c hop hcl Mn h hC
   ·exact Ad c (fun _ _=>by simp [hop]) h hC
  ·rename_i x y hcl Mn
   rcases ya h with h | h
   ·exact aqF c hop hcl Mn h pA cL hC
   rcases ya h with h | h
   ·exact aqE c hop hcl Mn h pA cL hC
   exact ao6 c hop hcl Mn h pA cL hC
  ·rename_i x hcl Mn
   rcases ya h with h | h
   ·exact arO c hop hcl Mn h hC
   ·exact Ad c (fun _ _=>by simp [hop]) h hC
  ·exact Ad c (fun _ _=>by simp [hop]) h hC
  ·rename_i f hcl
   rcases ya h with h | h
   ·exact asS c hop hcl h pA cL hC
   ·exact auq c hop hcl h hC
  ·cases h
 case select=>cases h
 case convert S D x=>
  rcases ya h with h | h
  ·exact au7 c hop h hC
  ·exact Ad c (fun _ _=>by simp [hop]) h hC
 all_goals exact Ad c (fun _ _=>by simp [hop]) h hC
end
end Go.SX
