import Derived.Test.YtaplpbmnedpkfaaGreatDoorTXA
import Derived.Laws.Slices
import Derived.Laws.Tables
import Derived.Laws.StructEq
import Derived.Laws.StandIn
import Derived.Lib.Bytealg
import Derived.Laws.BytesArg
import Derived.Laws.Concat
import Derived.Laws.CopyRow
import Derived.Laws.IdiomCopy
import Derived.Lib.AppendZeros
set_option linter.unusedSimpArgs false
set_option linter.unusedVariables false
open Nat renaming eq_of_beq_eq_true → q8
open Option renaming map_eq_some_iff → q9
open Option.some renaming injEq → w5
open Bool renaming and_eq_true → w6
open List renaming length_append → w7
open List renaming length_take → w8
open Array renaming toArray_toList → w9
open List renaming map_cons → z1
open List renaming length_replicate → z6
open List renaming getElem?_eq_some_iff → z7
open List renaming replicate → z8
open Nat renaming le_of_ble_eq_true → j6
open List renaming mem_singleton → j7
open List renaming length_set → j8
namespace Go.SX
open Go.RowKit
section
variable{P:Program}{tr:Bool}{s:St}{look:Nat→Option SS}{ent:Nat→Option Entry}{A:List (Nat×Bool)}{nid:Nat}{o:Oper}{r:Raw}{B:Base}{ρ:Nm}{a:Act}{w:World}{K:Act→World→Prop}{Q:Exit→Act→World→Prop}
theorem Qx{isS:Bool}{len cap:Nat}{lo hi:Option Value}{l h:Int}(Yn:(lo=none∧l=0)∨ ∃ k,lo=some (.int k l))(Xw:(hi=none∧h=len)∨ ∃ k,hi=some (.int k h))(h0:0≤l)(h1:l≤h)(h2:h≤len)(h3:len≤cap):
  (Instr.sliceBounds isS len cap lo hi none).run P w= .ok (l.toNat,h.toNat,cap) w:=by
 have e0:0≤h:=by omega
 have e1:h≤(cap:Int):=by omega
 have eh:(h.toNat:Int)=h:=Int.toNat_of_nonneg e0
 rcases Yn with⟨rfl,rfl⟩ | ⟨k,rfl⟩ <;> rcases Xw with⟨rfl,rfl⟩ | ⟨k',rfl⟩ <;>
  simp [Instr.sliceBounds,run_sliceBound,h0,h1,e0,e1,eh]
theorem yG(c:Ctx B ρ s a w look ent A){x:Option Operand}{d l:Int}(h:bnd look A x d=some l):(x.map a.eval=none∧l=d)∨ ∃ k,x.map a.eval=some (.int k l):=by
 cases x with
 |none=>simp only [bnd,w5]at h;exact .inl ⟨rfl,h.symm⟩
 |some y=>
  simp only [bnd]at h
  obtain⟨k,hk⟩:=c.evI h
  exact .inr ⟨k,by simp [hk]⟩
theorem HF{T e:TypeId}{inf:TypeInfo}{lo hi:Option Value}{l h:Int}{b:Option Addr}{len cap:Nat}(hT:P.underlying T=some (.slice e))(rR:P.info? e=some inf)
  (Yn:(lo=none∧l=0)∨ ∃ k,lo=some (.int k l)) (Xw:(hi=none∧h=len)∨ ∃ k,hi=some (.int k h)) (h0:0≤l) (h1:l≤h) (h2:h≤len) (h3:len≤cap):
  (Instr.sliceAt T (.slice b len cap) lo hi none).run P w= .ok (.slice (if cap=l.toNat then b else b.map (·.add (l.toNat * inf.size))) (h.toNat - l.toNat) (cap - l.toNat)) w:=by
 have:=Qx (P:=P) (w:=w) (isS:=true) Yn Xw h0 h1 h2 h3
 simp [Instr.sliceAt,Instr.slice,run_underlying hT,this,sizeOf,typeInfo,rR]
theorem BQ.part{H:Nat→Option Obj}{t:CTy}{v:Value}{xs:List (E t)}(h:BQ H t v xs){l m z:Nat}(hl:l≤m)(hm:m≤xs.length)(hz:z=t.size){b:Option Addr}{len cap:Nat}(hv:v= .slice b len cap):
  BQ H t (.slice (if cap=l then b else b.map (·.add (l * z))) (m - l) (cap - l)) ((xs.take m).drop l):=by
 subst hz
 have kg:((xs.take m).drop l).length=m - l:=by rw [List.length_drop,w8];omega
 rcases h with⟨h,hn⟩ | ⟨b',off,cap',arr,T,fz,h1,h2,h3,h4,h5⟩
 ·subst hn
  simp only [List.length_nil,Nat.le_zero_eq]at hm
  subst hm
  simp only [Nat.le_zero_eq]at hl;subst hl
  rcases h with h | ⟨b',h⟩
  ·rw [hv]at h;cases h
   exact .inl ⟨.inl (by simp),by simp⟩
  ·rw [hv]at h;cases h
   exact .inl ⟨.inr ⟨b',by simp⟩,by simp⟩
 ·rw [hv]at h1;cases h1
  by_cases hc:cap=l
  ·subst hc
   have:m=cap:=by omega
   subst this
   refine .inr ⟨b',off,0,arr,T,fz,by rw [kg];simp,by rw [kg];omega,by omega,h4,fun i x hx=> ?_⟩
   have:=(z7.1 hx).1
   rw [kg]at this;omega
  ·refine .inr ⟨b',off + l * t.size,cap - l,arr,T,fz,by rw [kg];simp [hc,ub],by rw [kg];omega,by omega,h4,fun i x hx=> ?_⟩
   have iM:=(z7.1 hx).1
   rw [List.getElem?_drop,List.getElem?_take,if_pos (by omega)]at hx
   have:=h5 _ _ hx
   rwa [Nat.add_mul,← Nat.add_assoc]at this
theorem UK{e:TypeId}{t:CTy}{v:Value}{n m z:Nat}{cs:List Value}(h:xZ w e t.size v n cs)(hm:m≤n){b:Option Addr}{len cap:Nat}(hv:v= .slice b len cap):
  xZ w e t.size (.slice (if cap=0 then b else b.map (·.add (0 * z))) (m - 0) (cap - 0)) m (cs.take (m * t.size))∧
   fZ (.slice (if cap=0 then b else b.map (·.add (0 * z))) (m - 0) (cap - 0))=fZ v:=by
 have DR:m * t.size≤n * t.size:=Nat.mul_le_mul_right _ hm
 have hl:(cs.take (m * t.size)).length=m * t.size:=by rw [w8,h.1];omega
 rcases h.2 with⟨hz,hn⟩ | ⟨g,cap',cur,h1,h2,h3,h4,h5,h6,h7⟩
 ·subst hn
  have:m=0:=by omega
  subst this
  rcases hz with hz | ⟨b',hz⟩
  ·rw [hv]at hz;cases hz
   exact⟨⟨hl,.inl ⟨.inl (by simp),rfl⟩⟩,by rw [hv];simp⟩
  ·rw [hv]at hz;cases hz
   exact⟨⟨hl,.inl ⟨.inr ⟨b',by simp⟩,rfl⟩⟩,by rw [hv];simp⟩
 ·rw [hv]at h1;cases h1
  have he:(if cap=0 then some (⟨g,0,none⟩:Addr)else(some (⟨g,0,none⟩:Addr)).map (·.add (0 * z)))=some ⟨g,0,none⟩:=by
   split
   ·rfl
   ·simp [ub]
  rw [he]
  refine⟨⟨hl,.inr ⟨g,cap,cur,rfl,h2,h3,by omega,h5,h6,?_⟩⟩,by rw [hv];rfl⟩
  rw [← h7,List.take_take,Nat.min_eq_left DR]
theorem iT.take{H:Nat→Option Obj}{t:CTy}{cs:List Value}{xs:List (E t)}(h:iT H t cs xs){m:Nat}(hm:m≤xs.length):iT H t (cs.take (m * t.size)) (xs.take m):=by
 have DR:m * t.size≤xs.length * t.size:=Nat.mul_le_mul_right _ hm
 refine⟨by rw [w8,w8,h.1];rw [Nat.min_eq_left DR,Nat.min_eq_left hm],fun i x hx=> ?_⟩
 have iM:=(z7.1 hx).1
 rw [w8]at iM
 rw [List.getElem?_take,if_pos (by omega)]at hx
 have:=h.2 i x hx
 have hc:=qO (z:=t.size) (show i < m by omega)
 rw [List.drop_take,List.take_take,Nat.min_eq_left (by omega)]
 exact this
theorem WR(c:Ctx B ρ s a w look ent A){T:TypeId}{x:Operand}{lo hi mx:Option Operand}{fr:Bool}(ho:o.op= .slice T x lo hi mx)(h:Zn P look ent A nid fr T x lo hi mx=some r)(kh: ∀ i∈r.new,s.used i=false)(ec: ∀ b∈r.nd,b=true)(hC:lr B s ρ r o a K):o.wp P a w K Q:=by
 obtain⟨dst,op,ty,pos,after,guard⟩:=o
 simp only at ho;subst ho
 unfold Zn at h
 split at h
 ·rename_i str hx
  split at h
  ·rename_i l m hl hm hT
   cases h
   have h0:0≤l:=by simpa using ec (decide (0≤l)) (by simp)
   have h1:l≤m:=by simpa using ec (decide (l≤m)) (by simp)
   have h2:m≤str.size:=by simpa using ec (decide (m≤str.size)) (by simp)
   have pN:=(c.evC hx).1
   simp only [Cell.conc]at pN
   have hr:=Qx (P:=P) (w:=w) (isS:=false) (cap:=str.size) (yG c hl) (yG c hm) h0 h1 h2 (Nat.le_refl _)
   refine az (w':=w) ?_ (lr.same (v:=one (.val (.string (str.extract l.toNat m.toNat)))) rfl hC c.hp)
   simp [execOp,Instr.sliceAt,Instr.slice,run_underlying hT,pN,hr,one,SV.conc,V1.conc,Cell.conc]
  ·cases h
 ·rename_i id hx
  split at h
  ·rename_i own e t xs he
   split at h
   ·rename_i l m hl hm
    cases gr:uw P T t with
    |false=>simp [gr]at h
    |true=>
     simp only [gr,cond_true]at h
     unfold uw at gr
     split at gr
     ·rename_i e' hT
      split at gr
      ·rename_i inf rR
       have Ba:=q8 gr
       have wV:=c.hE _ _ he
       obtain⟨hh,iU,_⟩:=c.hp.he _ _ wV
       have pN:=(c.evC hx).1
       simp only [Cell.conc]at pN
       have hsl: ∃ b cap,ρ id= .slice b xs.length cap∧xs.length≤cap:=by
        rcases GN hh c.hp.hf.dat with⟨hv,hn⟩ | ⟨b,off,cap,news,hv,_,DR,_⟩
        ·subst hn;obtain⟨b0,hb0⟩:=AO hv;exact⟨b0,0,hb0,Nat.le_refl _⟩
        ·exact⟨_,cap,hv,DR⟩
       obtain⟨b,cap,hv,DR⟩:=hsl
       have It:s.used nid=false:=by
        split at h <;> cases h <;> exact kh nid (by simp)
       split at h
       ·cases h
        have h1:0≤m:=by simpa using ec (decide (0≤m)) (by simp)
        have h2:m≤xs.length:=by simpa using ec (decide (m≤xs.length)) (by simp)
        have hl0:l=0:=by simpa [bnd] using hl.symm
        subst hl0
        obtain⟨cs,g1,g2,g3⟩:=hh
        have hr:=HF (P:=P) (w:=w) (b:=b) (len:=xs.length) (cap:=cap) (lo:=none) (l:=0) hT rR (.inl ⟨rfl,rfl⟩) (yG c hm) (Int.le_refl _) h1 h2 DR
        obtain⟨k1,k2⟩:=UK (w:=w) (z:=inf.size) (m:=m.toNat) g1 (by omega) hv
        have kg:(xs.take m.toNat).length=m.toNat:=by rw [w8];omega
        obtain⟨hX,hp⟩:=c.hp.rowTo (xs':=xs.take m.toNat) wV It (Chg.refl _ _) (by rw [kg];exact k1) (g2.take (by omega)) fun b hb=> .inr (by rw [k2]at hb;exact hb)
        refine az (w':=w) (u:= .slice (if cap=0 then b else b.map (·.add (0 * inf.size))) (m.toNat - 0) (cap - 0)) ?_ (hC _ _ w hX ?_ hp)
        ·simp only [execOp,pN,hv,Option.map_none]
         simp only [Int.toNat_zero]at hr
         simp [hr]
        ·simp only [one,SV.conc,V1.conc,Cell.conc]
         rw [gk _ _ rfl]
       ·rename_i Hy
        cases h
        have h0:0≤l:=by simpa using ec (decide (0≤l)) (by simp)
        have h1:l≤m:=by simpa using ec (decide (l≤m)) (by simp)
        have h2:m≤xs.length:=by simpa using ec (decide (m≤xs.length)) (by simp)
        have hr:=HF (P:=P) (w:=w) (b:=b) (len:=xs.length) (cap:=cap) hT rR (yG c hl) (yG c hm) h0 h1 h2 DR
        obtain⟨ρ1,n1,x1,hp1⟩:=c.hp.freezes c.hE [id]
        have hrow:BQ ρ1.mem t (ρ1 id) xs:=by
         have:be s.ent (frz ent [id]) id=some (.row false e t xs):=by
          cases own with
          |true=>simp only [be,look?_frz_mem (j7.2 rfl) he]
          |false=>
           have:look? (frz ent [id]) id=none:=by simp [frz,he,look?]
           simp only [be,this];exact wV
         exact(hp1.he _ _ this).1
        rw [Nm.of_nm n1,hv]at hrow
        have hpart:=hrow.part (l:=l.toNat) (m:=m.toNat) (z:=inf.size) (by omega) (by omega) Ba rfl
        obtain⟨hX,hp⟩:=hp1.names (ρ':=upd ρ1 nid (.slice (if cap=l.toNat then b else b.map (·.add (l.toNat * inf.size))) (m.toNat - l.toNat) (cap - l.toNat)))
         (es:= [(nid,.row false e t ((xs.take m.toNat).drop l.toNat))]) (new:= [nid]) (De It _ _) rfl fun i x hl=>by
          obtain⟨rfl,rfl⟩:=look?_one hl
          refine⟨?_,by simp [bq,memN],trivial,rfl⟩
          simp only [Entry.holds]
          rw [gk _ _ rfl]
          exact hpart
        rw [ux]at hp
        refine az (u:= .slice (if cap=l.toNat then b else b.map (·.add (l.toNat * inf.size))) (m.toNat - l.toNat) (cap - l.toNat)) (w':=w) ?_ (hC _ _ w (x1.trans hX fun _ h=>h) ?_ hp)
        ·simp only [execOp,pN,hv]
         simp only [Sem.run_bind,Option.map_none,hr,Result.andThen_ok,Sem.run_pure]
        ·simp only [one,SV.conc,V1.conc,Cell.conc]
         rw [gk _ _ rfl]
      ·cases gr
     ·cases gr
   ·cases h
  ·cases h
 ·cases h
end
end Go.SX
namespace Go.SX
open Go.RowKit
section
variable{P:Program}{tr:Bool}{s:St}{look:Nat→Option SS}{ent:Nat→Option Entry}{A:List (Nat×Bool)}{nid:Nat}{o:Oper}{r:Raw}{B:Base}{ρ:Nm}{a:Act}{w:World}{K:Act→World→Prop}{Q:Exit→Act→World→Prop}
theorem VG(off:Nat): ∀ (ns:List Value) (k:Nat) (cells:List Value),off + k + ns.length≤cells.length→
  (ns.zipIdx k).foldl (fun(cs:Array Value) p=>cs.setIfInBounds (off + p.2) p.1) cells.toArray=(cells.take (off + k)++ns++cells.drop (off + k + ns.length)).toArray
 | [],k,cells,h=>by simp
 |x::ns,k,cells,h=>by
  simp only [List.length_cons]at h
  simp only [List.zipIdx_cons,List.foldl_cons,List.setIfInBounds_toArray]
  rw [VG off ns (k + 1) (cells.set (off + k) x) (by rw [j8];omega)]
  congr 1
  have hk:off + k < cells.length:=by omega
  apply List.ext_getElem?
  intro j
  simp only [List.getElem?_append,List.getElem?_take,List.getElem?_drop,List.getElem?_set,w7,w8,j8,List.length_cons]
  rw [Nat.min_eq_left (show off + (k + 1)≤cells.length by omega),Nat.min_eq_left (show off + k≤cells.length by omega)]
  by_cases h1:j < off + k
  ·simp [h1,show j < off + (k + 1) by omega,show ¬ off + k=j by omega,show j < off + (k + 1) + ns.length by omega,show j < off + k + (ns.length + 1) by omega]
  ·by_cases h2:j=off + k
   ·subst h2
    simp [show off + k < off + (k + 1) by omega,hk,show off + k < off + (k + 1) + ns.length by omega]
   ·by_cases h3:j < off + (k + 1) + ns.length
    ·simp [h1,h3,show ¬ j < off + (k + 1) by omega,show j < off + k + (ns.length + 1) by omega]
     rw [show j - (off + k)=j - (off + (k + 1)) + 1 by omega,List.getElem?_cons_succ]
    ·simp [h3,show ¬ j < off + k + (ns.length + 1) by omega,show ¬ off + k=off + (k + 1) + ns.length + (j - (off + (k + 1) + ns.length)) by omega]
     congr 1;omega
theorem NE{pl:Nat→Option (Nat×Nat)}: ∀ {vs:List (Nat×V1)} {cells cs:List Cell},QX pl cells vs=some cs→
  Instr.fill pl (cells.map (Cell.conc ρ)).toArray (vs.map fun p=>(p.1,p.2.conc ρ))=some (cs.map (Cell.conc ρ)).toArray
 | [],cells,cs,h=>by simp only [QX,w5]at h;subst h;rfl
 |(i,v)::vs,cells,cs,h=>by
  simp only [QX]at h
  split at h
  ·rename_i off size ns hp VI
   cases hb:(Nat.beq ns.length size&&Nat.ble (off + ns.length) cells.length)with
   |false=>simp [hb]at h
   |true=>
    simp only [hb,cond_true]at h
    simp only [w6]at hb
    have h1:=q8 hb.1
    have h2:=j6 hb.2
    have hc:=V1.cells?_conc ρ VI
    have ih:=NE h
    simp only [z1,Instr.fill,hp,hc]
    have Ba:(ns.map (Cell.conc ρ)).toArray.size=size:=by simp [h1]
    have DR: ¬ (off + (ns.map (Cell.conc ρ)).toArray.size > (cells.map (Cell.conc ρ)).toArray.size):=by simp;omega
    rw [Ba]at DR
    simp only [Ba,ne_eq,not_true_eq_false]
    rw [if_neg (by simpa using DR)]
    have hf:=VG off (ns.map (Cell.conc ρ)) 0 (cells.map (Cell.conc ρ)) (by simp;omega)
    rw [← Array.foldl_toList,Array.toList_zipIdx]
    simp only [Nat.add_zero]at hf
    rw [hf]
    simpa [List.map_take,List.map_drop] using ih
  ·cases h
theorem VE{U:Nat→Bool}{pl:Nat→Option (Nat×Nat)}: ∀ {vs:List (Nat×V1)} {cells cs:List Cell},QX pl cells vs=some cs→(∀ c∈cells,c.inU U)→(∀ p∈vs,p.2.inU U)→ ∀ c∈cs,c.inU U
 | [],cells,cs,h,hc,_=>by simp only [QX,w5]at h;subst h;exact hc
 |(i,v)::vs,cells,cs,h,hc,hv=>by
  simp only [QX]at h
  split at h
  ·rename_i off size ns hp VI
   cases hb:(Nat.beq ns.length size&&Nat.ble (off + ns.length) cells.length)with
   |false=>simp [hb]at h
   |true=>
    simp only [hb,cond_true]at h
    refine VE h (fun c hm=> ?_) fun p hp=>hv p (by simp [hp])
    simp only [List.append_assoc,List.mem_append]at hm
    rcases hm with hm | hm | hm
    ·exact hc c (List.mem_of_mem_take hm)
    ·exact V1.cells?_inU (hv (i,v) (by simp)) VI c hm
    ·exact hc c (List.mem_of_mem_drop hm)
  ·cases h
theorem Qj(c:Ctx B ρ s a w look ent A): ∀ {xs:List (Nat×Operand)} {vs:List (Nat×V1)},aag look A xs=some vs→(xs.map fun p=>(p.1,a.eval p.2))=(vs.map fun p=>(p.1,p.2.conc ρ))∧ ∀ p∈vs,p.2.inU s.used
 | [],vs,h=>by simp [aag]at h;subst h;simp
 |(i,x)::xs,vs,h=>by
  simp only [aag]at h
  split at h
  ·rename_i v vs' h1 h2
   cases h
   obtain⟨e1,i1⟩:=c.ev1 h1
   obtain⟨e2,i2⟩:=Qj c h2
   refine⟨by simp [e1,e2],fun u hu=> ?_⟩
   rcases List.mem_cons.1 hu with rfl | hu
   ·exact i1
   ·exact i2 u hu
  ·cases h
theorem VT: ∀ (fs:List Field),(fs.all fun fd=>(P.info? fd.type).isSome)=true→ ∃ places,fs.mapM (fun f=>(P.info? f.type).map fun i=>(f.offset,i.size))=some places∧
  ∀ i,places[i]? =Rv P fs.toArray i
 | [],_=>⟨[],rfl,fun i=>by simp [Rv]⟩
 |f::fs,h=>by
  simp only [List.all_cons,w6]at h
  obtain⟨pl,h1,h2⟩:=VT fs h.2
  cases hi:P.info? f.type with
  |none=>rw [hi]at h;simp at h
  |some j=>
   refine⟨(f.offset,j.size)::pl,by simp [List.mapM_cons,hi,h1],fun i=> ?_⟩
   cases i with
   |zero=>simp [hi,Rv]
   |succ i=>simpa [Rv] using h2 i
theorem Wm(c:Ctx B ρ s a w look ent A){T:TypeId}{parts:Array (Nat×Operand)}(ho:o.op= .build T parts)(h:Yx P tr look A nid T parts=some r)(kh: ∀ i∈r.new,s.used i=false)(hC:lr B s ρ r o a K):o.wp P a w K Q:=by
 obtain⟨dst,op,ty,pos,after,guard⟩:=o
 simp only at ho;subst ho
 unfold Yx at h
 split at h
 ·rename_i fs inf vs hT rR VJ
  split at h
  ·rename_i z hz
   split at h
   ·rename_i cs DQ
    cases KO:fs.all (fun fd=>(P.info? fd.type).isSome)with
    |false=>simp [KO]at h
    |true=>
     simp only [KO,cond_true]at h
     cases h
     obtain⟨e1,i1⟩:=Qj c VJ
     have YN:=NE (ρ:=ρ) DQ
     rw [Is]at YN
     have uL:=VE DQ (fun c hc=>by obtain⟨v,_,rfl⟩:=List.mem_map.1 hc;trivial) i1
     obtain⟨places,hp1,hp2⟩:=VT (P:=P) fs.toList (by rw [← Array.all_toList]at KO;exact KO)
     have hpl:(fun i=>places.toArray[i]?)=Rv P fs:=by
      funext i
      simp only [List.getElem?_toArray,hp2]
     have hb:P.built T (parts.map fun(i,x)=>(i,a.eval x)).toList=some (cs.map (Cell.conc ρ)).toArray:=by
      simp only [Program.built,rR,hT,hz,hp1,hpl,Array.toList_map]
      rw [show (List.map (fun p:Nat×Operand=>(p.1,a.eval p.2)) parts.toList)=_ from e1]
      exact YN
     have hr:=run_build (P:=P) w T _ _ hb
     obtain⟨ρ',hX,_,hp,LR,_⟩:=LM (P:=P) (tr:=tr) (T:=T) (n:=nid) (v:=⟨true,cs⟩) c.hp uL kh
     refine az (w':=w) (u:= .agg (cs.map (Cell.conc ρ)).toArray) ?_ (hC ρ' _ w hX LR.symm hp)
     simp [execOp,hr]
   ·cases h
  ·cases h
 ·cases h
theorem GH(z:Array Value)(n:Nat):(madeCells z (n * z.size)).toList=oY (z8 n z.toList):=by
 have hl: ∀ n,(oY (z8 n z.toList)).length=n * z.size:=by
  intro n
  induction n with
  |zero=>simp [oY]
  |succ n ih=>simp only [List.replicate_succ,oY,w7,ih,Array.length_toList,Nat.add_mul,Nat.one_mul];omega
 have hg: ∀ n j,j < n * z.size→(oY (z8 n z.toList))[j]? =z.toList[j % z.size]? :=by
  intro n
  induction n with
  |zero=>intro j hj;omega
  |succ n ih=>
   intro j hj
   simp only [List.replicate_succ,oY]
   by_cases iM:j < z.size
   ·rw [List.getElem?_append_left (by simpa using iM),Nat.mod_eq_of_lt iM]
   ·rw [List.getElem?_append_right (by simpa using Nat.le_of_not_lt iM),Array.length_toList,ih _ (by rw [Nat.add_mul,Nat.one_mul]at hj;omega),← Nat.mod_eq_sub_mod (Nat.le_of_not_lt iM)]
 apply List.ext_getElem?
 intro j
 by_cases hj:j < n * z.size
 ·rw [hg n j hj]
  have hp:0 < z.size:=by
   rcases Nat.eq_zero_or_pos z.size with h0 | h0
   ·rw [h0]at hj;omega
   ·exact h0
  have hm:=Nat.mod_lt j hp
  simp [madeCells,hj,hm,getElem!_pos]
 ·rw [List.getElem?_eq_none (by rw [Array.length_toList,size_madeCells];omega),List.getElem?_eq_none (by rw [hl];omega)]
theorem iT.replicate{H:Nat→Option Obj}{t:CTy}{cs:List Value}{x:E t}(h:Rep H t cs x): ∀ n,iT H t (oY (z8 n cs)) (z8 n x)
 |0=>iT.nil _ _
 |n + 1=>by
  simp only [List.replicate_succ,oY]
  exact(iT.one h).append (iT.replicate h n)
theorem Rep.any{H H':Nat→Option Obj}(h: ∀ b o,H b=some o→H' b=some o){t:CTy}{cs:List Value}{x:E t}(hr:Rep H t cs x):Rep H' t cs x:=Rep.mono h t cs x hr
theorem aax{H:Nat→Option Obj}{t:CTy}{c:Cell}{xs:List (E t)}{ids:List Nat}(h:abs (fun _=>none) t c=some (xs,ids)):BQ H t (c.conc ρ) xs:=by
 unfold abs at h
 split at h
 ·cases h
 ·cases h;exact .inl ⟨.inl rfl,rfl⟩
 ·cases h
theorem LL{H:Nat→Option Obj}: ∀ (t:CTy) (cs:List Cell) (x:E t) (ids:List Nat),wC (fun _=>none) t cs=some (x,ids)→Rep H t (cs.map (Cell.conc ρ)) x
 | .int k,cs,x,ids,hc=>by
  simp only [wC]at hc
  unfold aam at hc
  split at hc
  ·split at hc
   ·rename_i hk;subst hk
    cases hc
    exact rfl
   ·cases hc
  ·cases hc
 | .bool,cs,x,ids,hc=>by
  simp only [wC]at hc
  unfold Vy at hc
  split at hc
  ·cases hc;exact rfl
  ·cases hc
 | .str,cs,x,ids,hc=>by
  simp only [wC]at hc
  unfold aaF at hc
  split at hc
  ·cases hc;exact rfl
  ·cases hc
 | .sl e t,cs,x,ids,hc=>by
  simp only [wC]at hc
  unfold slC at hc
  split at hc
  ·simp only [Rep]
   exact⟨_,rfl,aax hc⟩
  ·cases hc
 | .fn,cs,x,ids,hc=>by
  simp only [wC]at hc
  simp only [Rep];exact(Oe hc).1
 | .pair a b,cs,x,ids,hc=>by
  simp only [wC]at hc
  split at hc
  ·rename_i x1 l1 y1 m1 h1 h2
   cases hc
   simp only [Rep]
   refine⟨(cs.take a.size).map (Cell.conc ρ),(cs.drop a.size).map (Cell.conc ρ),?_,LL a _ _ _ h1,LL b _ _ _ h2⟩
   rw [← List.map_append,List.take_append_drop]
  ·cases hc
end
end Go.SX
namespace Go.SX
open Go.RowKit
section
variable{P:Program}{tr:Bool}{s:St}{look:Nat→Option SS}{ent:Nat→Option Entry}{A:List (Nat×Bool)}{nid:Nat}{o:Oper}{r:Raw}{B:Base}{ρ:Nm}{a:Act}{w:World}{K:Act→World→Prop}{Q:Exit→Act→World→Prop}
theorem Rg{α:Type}: ∀ (l r:List (List α)),oY (l++r)=oY l++oY r
 | [],r=>rfl
 |a::l,r=>by simp only [List.cons_append,oY,Rg l r,List.append_assoc]
theorem ru{α:Type}(z:List α): ∀ n,(oY (z8 n z)).length=n * z.length
 |0=>by simp [oY]
 |n + 1=>by simp only [List.replicate_succ,oY,w7,ru z n,Nat.add_mul,Nat.one_mul];omega
theorem Hz{α:Type}(z:List α){n m:Nat}(h:n≤m):(oY (z8 m z)).take (n * z.length)=oY (z8 n z):=by
 obtain⟨k,rfl⟩: ∃ k,m=n + k:=⟨m - n,by omega⟩
 rw [← List.replicate_append_replicate,Rg,List.take_append_of_le_length (by rw [ru];exact Nat.le_refl _),List.take_of_length_le (by rw [ru];exact Nat.le_refl _)]
theorem VL{α β:Type}(f:α→β): ∀ (l:List (List α)),(oY l).map f=oY (l.map (List.map f))
 | []=>rfl
 |a::l=>by simp only [oY,List.map_append,z1,VL f l]
theorem Sf(c:Ctx B ρ s a w look ent A){T:TypeId}{l m:Operand}(ho:o.op= .makeSlice T l m)(h:Qq P tr look A nid T l m=some r)(kh: ∀ i∈r.new,s.used i=false)(ec: ∀ b∈r.nd,b=true)(hC:lr B s ρ r o a K):o.wp P a w K Q:=by
 obtain⟨dst,op,ty,pos,after,guard⟩:=o
 simp only at ho;subst ho
 unfold Qq at h
 split at h
 ·rename_i n k e hl hm hT
  split at h
  ·rename_i inf t rR ht
   split at h
   ·rename_i z hz
    split at h
    ·rename_i x0 ids Kg
     cases gr:(Nat.beq inf.size t.size&&Nat.beq z.cells.size t.size)with
     |false=>simp [gr]at h
     |true=>
      simp only [gr,cond_true]at h
      simp only [w6]at gr
      have k1:=q8 gr.1
      have k2:=q8 gr.2
      cases htr:(tr&& !t.flat)with
      |true=>
       rw [htr]at h
       simp only [cond_true]at h
       split at h
       ·rename_i y0 ids' hcl'
        cases h
        have n0:0≤n:=by simpa using ec (decide (0≤n)) (by simp)
        have n1:n≤k:=by simpa using ec (decide (n≤k)) (by simp)
        have n2:(inf.bytes:Int) * k≤281474976710656:=by simpa using ec (decide ((inf.bytes:Int) * k≤281474976710656)) (by simp)
        have n3:k≤9223372036854775807:=by simpa using ec (decide (k≤9223372036854775807)) (by simp)
        obtain⟨kl,hlv⟩:=c.evI hl
        obtain⟨kc,hmv⟩:=c.evI hm
        have hr:=run_make (P:=P) w T e inf z hT rR hz kl kc n k n0 n1 n2 n3
        have oB:=Xm (w':=w) c.hp hcl'
        rw [Is]at oB
        have kg:(z8 n.toNat y0).length=n.toNat:=by simp
        have hcells:(madeCells z.cells (k.toNat * inf.size)).toList.take (n.toNat * t.size)=oY (z8 n.toNat z.cells.toList):=by
         rw [k1,← k2,GH]
         have:=Hz z.cells.toList (n:=n.toNat) (m:=k.toNat) (by omega)
         rwa [Array.length_toList]at this
        have nQ:(w.alloc (.cells (madeCells z.cells (k.toNat * inf.size)) e)).ownsRow 0 e t.size (.slice (some ⟨w.heap.size,0,none⟩) n.toNat k.toNat) (z8 n.toNat y0).length (oY (z8 n.toNat z.cells.toList)):=by
         rw [kg]
         refine⟨by rw [ru,Array.length_toList,k2],.inr ⟨w.heap.size,k.toNat,_,rfl,Nat.zero_le _,heap_alloc_new w _,by omega,tN (by omega),by rw [size_madeCells,k1],hcells⟩⟩
        have hT: ∀ m:Nat,HI w ρ t (oY (z8 m z.cells.toList)) (z8 m y0) (z8 m []) none:=by
         intro m
         induction m with
         |zero=>exact HI.nil _ _ _
         |succ m ih=>
          rw [List.replicate_succ,List.replicate_succ,List.replicate_succ]
          exact(HI.one1 oB).append ih (by simpa using oB.length) (fun b hb=>by simp [ol]at hb)
        obtain⟨ρ',hv,hX,hp⟩:=c.hp.treeNew (nid:=nid) (G:= []) (kh nid (by simp)) (World.grownBy_alloc w _ none) (Fw nQ) (hT _) (fun g hg=>by cases hg) (fun b hb=>Nat.le_of_eq (Hv hb).symm) (fun b hb=>by rw [Ui]at hb;cases hb)
        refine az ?_ (hC ρ' (.slice (some ⟨w.heap.size,0,none⟩) n.toNat k.toNat) _ hX ?_ hp)
        ·simp [execOp,hlv,hmv,hr]
        ·simp only [one,SV.conc,V1.conc,Cell.conc]
         exact hv.symm
       ·cases h
      |false=>
      rw [htr]at h
      simp only [cond_false]at h
      cases h
      have n0:0≤n:=by simpa using ec (decide (0≤n)) (by simp)
      have n1:n≤k:=by simpa using ec (decide (n≤k)) (by simp)
      have n2:(inf.bytes:Int) * k≤281474976710656:=by simpa using ec (decide ((inf.bytes:Int) * k≤281474976710656)) (by simp)
      have n3:k≤9223372036854775807:=by simpa using ec (decide (k≤9223372036854775807)) (by simp)
      obtain⟨kl,hlv⟩:=c.evI hl
      obtain⟨kc,hmv⟩:=c.evI hm
      have hr:=run_make (P:=P) w T e inf z hT rR hz kl kc n k n0 n1 n2 n3
      have oB:=LL (ρ:=ρ) (H:=ρ.mem) t _ _ _ Kg
      rw [Is]at oB
      have kg:(z8 n.toNat x0).length=n.toNat:=by simp
      have hcells:(madeCells z.cells (k.toNat * inf.size)).toList.take (n.toNat * t.size)=oY (z8 n.toNat z.cells.toList):=by
       rw [k1,← k2,GH]
       have:=Hz z.cells.toList (n:=n.toNat) (m:=k.toNat) (by omega)
       rwa [Array.length_toList]at this
      have nQ:(w.alloc (.cells (madeCells z.cells (k.toNat * inf.size)) e)).ownsRow 0 e t.size (.slice (some ⟨w.heap.size,0,none⟩) n.toNat k.toNat) (z8 n.toNat x0).length (oY (z8 n.toNat z.cells.toList)):=by
       rw [kg]
       refine⟨by rw [ru,Array.length_toList,k2],.inr ⟨w.heap.size,k.toNat,_,rfl,Nat.zero_le _,heap_alloc_new w _,by omega,tN (by omega),by rw [size_madeCells,k1],hcells⟩⟩
      obtain⟨hX,hp⟩:=c.hp.rowNew (nid:=nid) (kh nid (by simp)) (World.grownBy_alloc w _ none) (Fw nQ) (iT.replicate oB _) (fun b hb=>Nat.le_of_eq (Hv hb).symm)
      refine az ?_ (hC _ (.slice (some ⟨w.heap.size,0,none⟩) n.toNat k.toNat) _ hX ?_ hp)
      ·simp [execOp,hlv,hmv,hr]
      ·simp only [one,SV.conc,V1.conc,Cell.conc]
       rw [gk _ _ rfl]
    ·cases h
   ·cases h
  ·cases h
 ·cases h
theorem QS{ent e0:Nat→Option Entry}{used:Nat→Bool}(hs: ∀ id e,e0 id=some e→ent id=some e){l:List Nat}(h:Hp B ρ (be ent (frz e0 l)) used w){t:CTy}: ∀ {n:Nat} {cs:List Cell} {xs:List (E t)} {ids:List Nat},RR e0 t cs n=some (xs,ids)→(∀ id∈ids,id∈l)→
  iT ρ.mem t (cs.map (Cell.conc ρ)) xs∧xs.length=n
 |0,[],xs,ids,hc,_=>by simp [RR]at hc;obtain⟨rfl,_⟩:=hc;exact⟨iT.nil _ _,rfl⟩
 |0,_::_,xs,ids,hc,_=>by simp [RR]at hc
 |n + 1,cs,xs,ids,hc,hl=>by
  simp only [RR]at hc
  split at hc
  ·rename_i x1 l1 ys m1 h1 h2
   cases hc
   have a1:=EZ hs h t _ _ _ h1 fun i hi=>hl i (by simp [hi])
   obtain⟨a2,a3⟩:=QS hs h h2 fun i hi=>hl i (by simp [hi])
   refine⟨?_,by simp [a3]⟩
   have:=(iT.one a1).append a2
   rw [← List.map_append,List.take_append_drop]at this
   exact this
  ·cases hc
theorem LZ: ∀ {L:List Nat},LY L=true→L.Nodup
 | [],_=>List.nodup_nil
 |i::r,h=>by
  simp only [LY,w6,Bool.not_eq_true']at h
  refine List.nodup_cons.2 ⟨fun hm=> ?_,LZ h.2⟩
  rw [memN_mem.2 hm]at h;cases h.1
theorem QQ(c:Ctx B ρ s a w look ent A){T:TypeId}{len:Nat}{parts:Array (Nat×Operand)}(ho:o.op= .buildSlice T len parts)(h:Ny P tr look ent A nid T len parts=some r)(kh: ∀ i∈r.new,s.used i=false)(hC:lr B s ρ r o a K):o.wp P a w K Q:=by
 obtain⟨dst,op,ty,pos,after,guard⟩:=o
 simp only at ho;subst ho
 unfold Ny at h
 split at h
 ·rename_i e vs hT VJ
  split at h
  ·rename_i inf t rR ht
   split at h
   ·rename_i z hz
    split at h
    ·rename_i cs DQ
     have hrun: ∀ (cs0:List Cell),cs0=cs→Nat.beq inf.size t.size=true→Nat.beq z.cells.size t.size=true→Nat.ble (len * t.size) 16777216=true→
       (Instr.buildSlice T len (parts.map fun(i,x)=>(i,a.eval x))).run P w= .ok (.slice (some ⟨w.heap.size,0,none⟩) len len) (w.alloc (.cells (cs.map (Cell.conc ρ)).toArray e)):=by
      intro cs0 _ k1 k2 k3
      have k1:=q8 k1
      have k2:=q8 k2
      have k3:=j6 k3
      obtain⟨e1,i1⟩:=Qj c VJ
      have YN:=NE (ρ:=ρ) DQ
      rw [VL,List.map_replicate,Is,← GH,w9,k2]at YN
      rw [← e1]at YN
      have hz0: ∀ zz:Array Value,(zz=z.cells∨len * t.size=0)→(Array.range (len * t.size)).map (zz[· % zz.size]!)=madeCells z.cells (len * t.size):=by
       intro zz hzz
       rcases hzz with rfl | h0
       ·rfl
       ·rw [h0];simp [madeCells]
      by_cases h0:len * t.size=0
      ·have hq:=hz0 #[] (.inr h0)
       simp [Instr.buildSlice,run_underlying hT,sizeOf,typeInfo,rR,k1,h0]
       rw [h0]at hq YN
       simp at hq
       rw [hq]
       simp [YN,newRow]
      ·simp [Instr.buildSlice,run_underlying hT,sizeOf,typeInfo,zeroValue,rR,hz,k1,show ¬ 16777216 < len * t.size by omega,h0]
       have hq:=hz0 z.cells (.inl rfl)
       rw [hq]
       simp [YN,newRow]
     cases htr:(tr&& !t.flat)with
     |true=>
      rw [htr]at h
      simp only [cond_true]at h
      split at h
      ·rename_i xs l Kg
       cases gr:(Nat.beq inf.size t.size&&Nat.beq z.cells.size t.size&&Nat.ble (len * t.size) 16777216&&LY (ol l))with
       |false=>simp [gr]at h
       |true=>
        simp only [gr,cond_true]at h
        cases h
        simp only [w6]at gr
        obtain⟨⟨⟨k1,k2⟩,k3⟩,k4⟩:=gr
        have hr:=hrun cs rfl k1 k2 k3
        have k3:=j6 k3
        have hp0:Hp B ρ ent s.used w:=⟨fun id e he=>c.hp.he id e (c.hE _ _ he),fun id id' e e' b he he'=>c.hp.hi id id' e e' b (c.hE _ _ he) (c.hE _ _ he'),c.hp.hf⟩
        obtain⟨Ls,t1,t2,t3,t4,t5⟩:=PB hp0 Kg (LZ k4)
        have Ba:((cs.map (Cell.conc ρ)).toArray).size=len * t.size:=by rw [List.size_toArray,List.length_map,t5]
        have hm:len≤maxLen:=by
         refine tN ?_
         have:=Nat.le_mul_of_pos_right len (rE t)
         omega
        have nQ:=World.ownsRow_lit (base:=0) (size:=t.size) (e:=e) w (cs.map (Cell.conc ρ)).toArray len (Nat.zero_le _) hm Ba
        rw [← t4,List.toList_toArray]at nQ
        have It:s.used nid=false:=kh nid (by simp)
        obtain⟨ρ',hv,hX,hp⟩:=c.hp.treeNew (nid:=nid) (G:=ol l) It (World.grownBy_alloc w _ none) (Fw nQ) t1 (fun g hg=>by
         obtain⟨e0,he0⟩:=t3 g hg
         exact(hp0.he g e0 he0).2.1) (fun b hb=>Nat.le_of_eq (Hv hb).symm) (fun b hb=>by
         obtain⟨k,l0,hl0,hb0⟩:=mb.1 hb
         obtain⟨ids,hids,i,hi,e0,he0,hb1⟩:=t2 k l0 hl0 b hb0
         exact⟨i,mb.2 ⟨k,ids,hids,hi⟩,e0,c.hE _ _ he0,hb1⟩)
        rw [t4]at hv
        refine az ?_ (hC ρ' (.slice (some ⟨w.heap.size,0,none⟩) len len) _ hX ?_ hp)
        ·simp only [execOp]
         simp [hr]
        ·simp only [one,SV.conc,V1.conc,Cell.conc]
         exact hv.symm
      ·cases h
     |false=>
     rw [htr]at h
     simp only [cond_false]at h
     split at h
     ·rename_i xs l Kg
      cases gr:(Nat.beq inf.size t.size&&Nat.beq z.cells.size t.size&&Nat.ble (len * t.size) 16777216)with
      |false=>simp [gr]at h
      |true=>
       simp only [gr,cond_true]at h
       cases h
       simp only [w6]at gr
       obtain⟨⟨k1,k2⟩,k3⟩:=gr
       have hr:=hrun cs rfl k1 k2 k3
       have k3:=j6 k3
       obtain⟨ρ1,n1,x1,hp1⟩:=c.hp.freezes c.hE l
       obtain⟨oB,kg⟩:=QS c.hE hp1 Kg fun i hi=>hi
       rw [NN n1]at oB
       have Ba:((cs.map (Cell.conc ρ)).toArray).size=len * t.size:=by rw [List.size_toArray,oB.1,kg]
       have hm:len≤maxLen:=by
        refine tN ?_
        have:=Nat.le_mul_of_pos_right len (rE t)
        omega
       have nQ:=World.ownsRow_lit (base:=0) (size:=t.size) (e:=e) w (cs.map (Cell.conc ρ)).toArray len (Nat.zero_le _) hm Ba
       rw [← kg,List.toList_toArray]at nQ
       have It:s.used nid=false:=kh nid (by simp)
       obtain⟨hX,hp⟩:=hp1.rowNew (nid:=nid) It (World.grownBy_alloc w _ none) (Fw nQ) oB (fun b hb=>Nat.le_of_eq (Hv hb).symm)
       rw [ux]at hp
       rw [kg]at hX hp
       refine az ?_ (hC _ (.slice (some ⟨w.heap.size,0,none⟩) len len) _ (x1.trans hX fun _ h=>h) ?_ hp)
       ·simp only [execOp]
        simp [hr]
       ·simp only [one,SV.conc,V1.conc,Cell.conc]
        rw [gk _ _ rfl]
     ·cases h
    ·cases h
   ·cases h
  ·cases h
 ·cases h
end
end Go.SX
namespace Go.SX
open Go.RowKit
def Cell.ids:Cell→List Nat
 | .val _=> []
 | .ptr id _=> [id]
 | .ref id=> [id]
 | .el id _ _ _=> [id]
 | .vw id _ _=> [id]
 | .clo _ caps=>caps
 | .bnd _ vs=>Kf vs
def V1.ids(v:V1):List Nat:=oY (v.cs.map Cell.ids)
def SV.ids:SV→List Nat
 | .one v=>v.ids
 | .tup vs=>oY (vs.map V1.ids)
def Entry.ids:Entry→List Nat
 | .box _ cs=>oY (cs.map Cell.ids)
 | .tree _ _ _ (some (_,cs))=>oY (cs.map Cell.ids)
 |_=> []
def Nu(acc:List Nat):List Nat→List Nat
 | []=>acc
 |i::r=>bif memN acc i then Nu acc r else Nu (acc++ [i]) r
def ND(ent:Nat→Option Entry)(i:Nat):List Nat:=
 match ent i with
 |some e=>e.ids
 |none=> []
def Gd(ent:Nat→Option Entry):Nat→List Nat→List Nat
 |0,l=>l
 |f + 1,l=>Gd ent f (Nu l (oY (l.map (ND ent))))
def qX{α β:Type}(f:α→Option β):List α→Option (List β)
 | []=>some []
 |a::r=>match f a,qX f r with
  |some b,some bs=>some (b::bs)
  |_,_=>none
def IV:List Nat→Nat→Option Nat
 | [],_=>none
 |p::r,i=>bif Nat.beq p i then some 0 else(IV r i).map (· + 1)
def Iq(f:Nat→Option Nat):Nat×Option Value→Option (Nat×Option Value)
 |(id,none)=>(f id).map (·,none)
 |(id,some v)=>some (id,some v)
def Cell.ren(f:Nat→Option Nat):Cell→Option Cell
 | .val v=>some (.val v)
 | .ptr id off=>(f id).map (Cell.ptr · off)
 | .ref id=>(f id).map .ref
 | .el id z i off=>(f id).map (Cell.el · z i off)
 | .vw id z k=>(f id).map (Cell.vw · z k)
 | .clo k caps=>(qX f caps).map (.clo k)
 | .bnd k vs=>(qX (Iq f) vs).map (.bnd k)
def V1.ren(f:Nat→Option Nat)(v:V1):Option V1:=(qX (Cell.ren f) v.cs).map (V1.mk v.agg)
def SV.ren(f:Nat→Option Nat):SV→Option SV
 | .one v=>(v.ren f).map .one
 | .tup vs=>(qX (V1.ren f) vs).map .tup
def Entry.ren(f:Nat→Option Nat):Entry→Option Entry
 | .box T cs=>(qX (Cell.ren f) cs).map (.box T)
 | .row own e t xs=>some (.row own e t xs)
 | .tree e t xs none=>some (.tree e t xs none)
 | .tree e t xs (some (k,cs))=>(qX (Cell.ren f) cs).map fun c=> .tree e t xs (some (k,c))
 | .wk e t xs=>some (.wk e t xs)
 | .gone=>some .gone
def NQ:List Nat→Bool
 | []=>true
 |i::r=> !memN r i&&NQ r
def SI(L:List Nat)(j:Nat):Option Nat:=L[j]?
def Lm(ent:Nat→Option Entry):List Nat→List Entry→List (Nat×Entry)
 |i::r,e::es=>match ent i with
  |some (.row false _ _ _)=>Lm ent r es
  |_=>(i,e)::Lm ent r es
 |_,_=> []
def TA(ent:Nat→Option Entry)(kp:List Nat)(n:Nat):Nat→List Nat→List Entry→List (Nat×Entry)
 |j,i::r,e::es=>match ent i with
  |some (.row false _ _ _)=>TA ent kp n (j + 1) r es
  |_=>bif Nat.blt j n&&memN kp j then TA ent kp n (j + 1) r es else(i,e)::TA ent kp n (j + 1) r es
 |_,_,_=> []
def XV(ent:Nat→Option Entry)(L:List Nat)(i:Nat):Option Entry:=
 match ent i with
 |some e=>e.ren (IV L)
 |none=>none
def Xg{P:Program}(tbl:List (PF P))(ent:Nat→Option Entry)(nid:Nat)(k:FuncId)(args:List SV)(L:List Nat):Option Raw:=
 match qX (SV.ren (IV L)) args,qX (XV ent L) L with
 |some args',some es'=>match LK tbl k args' es' with
  |some (out,kp)=>
   let ns:=aK nid out.new.length
   match out.res.ren (SI (L++ns)),qX (Entry.ren (SI (L++ns))) (out.es++out.new)with
   |some v,some es=>bif NQ L then some ⟨v,TA ent kp L.length 0 (L++ns) es,ns,out.nd⟩else none
   |_,_=>none
  |none=>none
 |_,_=>none
def XO(P:Program)(k:FuncId):Bool:=
 match P.funcs[k]? with
 |some fn=> !(fn.name== "runtime.NumGoroutine")&& !fn.body.isNone
 |none=>false
def Xi(caps:List Nat):List SV:=caps.map fun id=>one (.ptr id 0)
def abK:Nat×Option Value→Cell
 |(id,none)=> .ref id
 |(_,some v)=> .val v
def aaK(vs:List (Nat×Option Value)):SV:= .one ⟨true,vs.map abK⟩
def aaL(P:Program)(tbl:List (PF P))(look:Nat→Option SS)(ent:Nat→Option Entry)(A:List (Nat×Bool))(nid:Nat)(f:Operand)(args:List Operand):Option Raw:=
 match evC look A f,evs look A args with
 |some (.val (.func (.func k) fi ca)),some vs=>match fi.toList,ca.toList with
  | [],[]=>bif XO P k then Xg tbl ent nid k vs (Gd ent 4 (Nu [] (oY (vs.map SV.ids))))else none
  |_,_=>none
 |some (.clo k caps),some vs=>bif XO P k then Xg tbl ent nid k (vs++Xi caps) (Gd ent 4 (Nu [] (oY ((vs++Xi caps).map SV.ids))))else none
 |some (.bnd k bs),some vs=>bif XO P k then Xg tbl ent nid k (aaK bs::vs) (Gd ent 4 (Nu [] (oY ((aaK bs::vs).map SV.ids))))else none
 |_,_=>none
theorem Sw{ρ ρ':Nm}{f:Nat→Option Nat}: ∀ {vs js:List (Nat×Option Value)},qX (Iq f) vs=some js→(∀ i∈Kf vs,∀ j,f i=some j→ρ' j=ρ i)→js.map (bcV ρ')=vs.map (bcV ρ)
 | [],js,h,_=>by simp [qX]at h;subst h;rfl
 |(id,none)::r,js,h,hf=>by
  simp only [qX,Iq]at h
  cases hq:f id with
  |none=>simp [hq]at h
  |some j=>
   cases hr:qX (Iq f) r with
   |none=>simp [hq,hr]at h
   |some ks=>
    simp [hq,hr]at h;subst h
    rw [z1,z1,Sw hr fun i hi=>hf i (List.mem_cons_of_mem _ hi)]
    simp only [bcV,hf id (List.mem_cons_self ..) j hq]
 |(id,some v)::r,js,h,hf=>by
  simp only [qX,Iq]at h
  cases hr:qX (Iq f) r with
  |none=>simp [hr]at h
  |some ks=>
   simp [hr]at h;subst h
   rw [z1,z1,Sw hr fun i hi=>hf i hi]
   rfl
theorem Le{f:Nat→Option Nat}{p:Nat→Prop}: ∀ {vs js:List (Nat×Option Value)},qX (Iq f) vs=some js→(∀ i∈Kf vs,∀ j,f i=some j→p j)→ ∀ j∈Kf js,p j
 | [],js,h,_=>by simp [qX]at h;subst h;intro j hj;cases hj
 |(id,none)::r,js,h,hf=>by
  simp only [qX,Iq]at h
  cases hq:f id with
  |none=>simp [hq]at h
  |some j=>
   cases hr:qX (Iq f) r with
   |none=>simp [hq,hr]at h
   |some ks=>
    simp [hq,hr]at h;subst h
    intro k hk
    rcases List.mem_cons.1 hk with rfl | hk
    ·exact hf id (List.mem_cons_self ..) _ hq
    ·exact Le hr (fun i hi=>hf i (List.mem_cons_of_mem _ hi)) k hk
 |(id,some v)::r,js,h,hf=>by
  simp only [qX,Iq]at h
  cases hr:qX (Iq f) r with
  |none=>simp [hr]at h
  |some ks=>
   simp [hr]at h;subst h
   exact Le (vs:=r) (js:=ks) hr (fun i hi=>hf i hi)
theorem Sx{f:Nat→Option Nat}: ∀ {vs:List (Nat×Option Value)},(∀ i∈Kf vs,∃ j,f i=some j)→ ∃ js,qX (Iq f) vs=some js
 | [],_=>⟨[],rfl⟩
 |(id,none)::r,h=>by
  obtain⟨j,hj⟩:=h id (List.mem_cons_self ..)
  obtain⟨ks,hk⟩:=Sx (vs:=r) fun i hi=>h i (List.mem_cons_of_mem _ hi)
  exact⟨(j,none)::ks,by simp [qX,Iq,hj,hk]⟩
 |(id,some v)::r,h=>by
  obtain⟨ks,hk⟩:=Sx (vs:=r) fun i hi=>h i hi
  exact⟨(id,some v)::ks,by simp [qX,Iq,hk]⟩
theorem Qw{f g:Nat→Option Nat}(h: ∀ i j k,f i=some j→g j=some k→k=i): ∀ {vs js ks:List (Nat×Option Value)},qX (Iq f) vs=some js→qX (Iq g) js=some ks→ks=vs
 | [],js,ks,h1,h2=>by simp [qX]at h1;subst h1;simp [qX]at h2;exact h2
 |(id,none)::r,js,ks,h1,h2=>by
  simp only [qX,Iq]at h1
  cases hq:f id with
  |none=>simp [hq]at h1
  |some j=>
   cases hr:qX (Iq f) r with
   |none=>simp [hq,hr]at h1
   |some l=>
    simp [hq,hr]at h1;subst h1
    simp only [qX,Iq]at h2
    cases hq2:g j with
    |none=>simp [hq2]at h2
    |some k=>
     cases hr2:qX (Iq g) l with
     |none=>simp [hq2,hr2]at h2
     |some m=>
      simp [hq2,hr2]at h2;subst h2
      rw [Qw h hr hr2,h id j k hq hq2]
 |(id,some v)::r,js,ks,h1,h2=>by
  simp only [qX,Iq]at h1
  cases hr:qX (Iq f) r with
  |none=>simp [hr]at h1
  |some l=>
   simp [hr]at h1;subst h1
   simp only [qX,Iq]at h2
   cases hr2:qX (Iq g) l with
   |none=>simp [hr2]at h2
   |some m=>
    simp [hr2]at h2;subst h2
    rw [Qw h hr hr2]
theorem AB{α β:Type}{f:α→Option β}: ∀ {l:List α} {r:List β},qX f l=some r→r.length=l.length∧ ∀ (i:Nat),(∀ y,r[i]? =some y→ ∃ x,l[i]? =some x∧f x=some y)
 | [],r,h=>by simp [qX]at h;subst h;simp
 |a::l,r,h=>by
  simp only [qX]at h
  split at h
  ·rename_i b bs h1 h2
   cases h
   obtain⟨e1,e2⟩:=AB h2
   refine⟨by simp [e1],fun i y hy=> ?_⟩
   cases i with
   |zero=>simp at hy;subst hy;exact⟨a,rfl,h1⟩
   |succ i=>simp at hy;simpa using e2 i y hy
  ·cases h
theorem AC{α β γ:Type}{f:α→Option β}{g:β→γ}{h:α→γ}: ∀ {l:List α} {r:List β},qX f l=some r→(∀ x∈l,∀ y,f x=some y→g y=h x)→r.map g=l.map h
 | [],r,he,_=>by simp [qX]at he;subst he;rfl
 |a::l,r,he,hg=>by
  simp only [qX]at he
  split at he
  ·rename_i b bs h1 h2
   cases he
   simp only [z1,hg a (by simp) b h1,AC h2 fun x hx=>hg x (by simp [hx])]
  ·cases he
theorem vD{α β:Type}{f:α→Option β}{p:β→Prop}: ∀ {l:List α} {r:List β},qX f l=some r→(∀ x∈l,∀ y,f x=some y→p y)→ ∀ y∈r,p y
 | [],r,he,_=>by simp [qX]at he;subst he;simp
 |a::l,r,he,hg=>by
  simp only [qX]at he
  split at he
  ·rename_i b bs h1 h2
   cases he
   intro y hy
   rcases List.mem_cons.1 hy with rfl | hy
   ·exact hg a (by simp) _ h1
   ·exact vD h2 (fun x hx=>hg x (by simp [hx])) y hy
  ·cases he
section
variable{f:Nat→Option Nat}{U U':Nat→Bool}{ρ ρ':Nm}
theorem Cell.ren_conc(hf: ∀ i j,U i=true→f i=some j→ρ' j=ρ i){c c':Cell}(hc:c.inU U)(h:c.ren f=some c'):c'.conc ρ'=c.conc ρ:=by
 cases c with
 |val v=>simp [Cell.ren]at h;subst h;rfl
 |ptr id off=>
  simp only [Cell.ren,q9]at h
  obtain⟨j,hj,rfl⟩:=h
  simp only [Cell.conc,hf id j hc hj]
 |ref id=>
  simp only [Cell.ren,q9]at h
  obtain⟨j,hj,rfl⟩:=h
  simp only [Cell.conc,hf id j hc hj]
 |el id z i off=>
  simp only [Cell.ren,q9]at h
  obtain⟨j,hj,rfl⟩:=h
  simp only [Cell.conc,hf id j hc hj]
 |vw id z k=>
  simp only [Cell.ren,q9]at h
  obtain⟨j,hj,rfl⟩:=h
  simp only [Cell.conc,hf id j hc hj]
 |clo k caps=>
  simp only [Cell.ren,q9]at h
  obtain⟨js,hj,rfl⟩:=h
  simp only [Cell.conc]
  rw [AC hj fun x hx y hy=>by rw [hf x y (hc x hx) hy]]
 |bnd k vs=>
  simp only [Cell.ren,q9]at h
  obtain⟨js,hj,rfl⟩:=h
  simp only [Cell.conc]
  rw [Sw hj fun i hi j Sa=>hf i j (hc i hi) Sa]
theorem Cell.ren_inU(hf: ∀ i j,f i=some j→U' j=true){c c':Cell}(h:c.ren f=some c'):c'.inU U':=by
 cases c with
 |val v=>simp [Cell.ren]at h;subst h;trivial
 |ptr id off=>
  simp only [Cell.ren,q9]at h
  obtain⟨j,hj,rfl⟩:=h
  exact hf id j hj
 |ref id=>
  simp only [Cell.ren,q9]at h
  obtain⟨j,hj,rfl⟩:=h
  exact hf id j hj
 |el id z i off=>
  simp only [Cell.ren,q9]at h
  obtain⟨j,hj,rfl⟩:=h
  exact hf id j hj
 |vw id z k=>
  simp only [Cell.ren,q9]at h
  obtain⟨j,hj,rfl⟩:=h
  exact hf id j hj
 |clo k caps=>
  simp only [Cell.ren,q9]at h
  obtain⟨js,hj,rfl⟩:=h
  exact vD hj fun x _ y hy=>hf x y hy
 |bnd k vs=>
  simp only [Cell.ren,q9]at h
  obtain⟨js,hj,rfl⟩:=h
  exact Le hj fun i _ j Sa=>hf i j Sa
theorem V1.ren_conc(hf: ∀ i j,U i=true→f i=some j→ρ' j=ρ i){v v':V1}(hc:v.inU U)(h:v.ren f=some v'):v'.conc ρ'=v.conc ρ:=by
 obtain⟨g,cs⟩:=v
 simp only [V1.ren,q9]at h
 obtain⟨cs',DQ,rfl⟩:=h
 have hm:cs'.map (Cell.conc ρ')=cs.map (Cell.conc ρ):=AC DQ fun x hx y hy=>Cell.ren_conc hf (hc x hx) hy
 simp only [V1.conc]
 cases g with
 |true=>simp only [hm]
 |false=>
  have hl:=congrArg List.length hm
  simp only [List.length_map]at hl
  cases cs with
  |nil=>rw [List.eq_nil_of_length_eq_zero hl]
  |cons x xr=>
   cases cs' with
   |nil=>cases hl
   |cons y yr=>
    cases xr with
    |nil=>
     cases yr with
     |nil=>simpa using hm
     |cons _ _=>simp at hl
    |cons _ _=>
     cases yr with
     |nil=>simp at hl
     |cons _ _=>rfl
theorem SV.ren_conc(hf: ∀ i j,U i=true→f i=some j→ρ' j=ρ i){v v':SV}(hc:v.inU U)(h:v.ren f=some v'):v'.conc ρ'=v.conc ρ:=by
 cases v with
 |one v=>
  simp only [SV.ren,q9]at h
  obtain⟨u,hu,rfl⟩:=h
  exact V1.ren_conc hf hc hu
 |tup vs=>
  simp only [SV.ren,q9]at h
  obtain⟨u,hu,rfl⟩:=h
  simp only [SV.conc]
  rw [AC hu fun x hx y hy=>V1.ren_conc hf (hc x hx) hy]
end
theorem xg: ∀ {L:List Nat} {i j:Nat},IV L i=some j→L[j]? =some i
 | [],i,j,h=>by simp [IV]at h
 |p::r,i,j,h=>by
  simp only [IV]at h
  cases hb:Nat.beq p i with
  |true=>simp [hb]at h;subst h;simp [q8 hb]
  |false=>
   simp only [hb,cond_false,q9]at h
   obtain⟨k,hk,rfl⟩:=h
   simpa using xg hk
theorem NR: ∀ {L:List Nat},NQ L=true→L.Nodup
 | [],_=>List.nodup_nil
 |i::r,h=>by
  simp only [NQ,w6,Bool.not_eq_true']at h
  refine List.nodup_cons.2 ⟨fun hm=> ?_,NR h.2⟩
  rw [memN_mem.2 hm]at h;cases h.1
theorem Sj{L:List Nat}(hn:L.Nodup){j j' i:Nat}(h:L[j]? =some i)(h':L[j']? =some i):j=j':=
 (List.getElem?_inj (z7.1 h).1 hn).1 (h.trans h'.symm)
def ab4(ent:Nat→Option Entry)(i:Nat):Prop:= ∀ e t xs,ent i≠some (.row false e t xs)
theorem SH{ent:Nat→Option Entry}: ∀ {L:List Nat} {es:List Entry} {i:Nat} {e:Entry},look? (Lm ent L es) i=some e→ ∃ j:Nat,L[j]? =some i∧es[j]? =some e
 | [],es,i,e,h=>by simp [Lm,look?]at h
 |_::_,[],i,e,h=>by simp [Lm,look?]at h
 |k::r,x::es,i,e,h=>by
  simp only [Lm]at h
  split at h
  ·obtain⟨j,h1,h2⟩:=SH h;exact⟨j + 1,by simpa using h1,by simpa using h2⟩
  ·simp only [look?]at h
   cases hb:Nat.beq k i with
   |true=>simp [hb]at h;subst h;exact⟨0,by simp [q8 hb],rfl⟩
   |false=>simp [hb]at h;obtain⟨j,h1,h2⟩:=SH h;exact⟨j + 1,by simpa using h1,by simpa using h2⟩
theorem Yl{ent:Nat→Option Entry}: ∀ {L:List Nat} {es:List Entry} {i j:Nat},L[j]? =some i→es.length=L.length→ab4 ent i→ ∃ e,look? (Lm ent L es) i=some e
 | [],es,i,j,h,_,_=>by simp at h
 |_::_,[],i,j,_,h,_=>by simp at h
 |k::r,x::es,i,j,h,hl,hd=>by
  simp only [Lm]
  cases j with
  |zero=>
   simp at h;subst h
   split
   ·rename_i e t xs he;exact(hd _ _ _ he).elim
   ·exact⟨x,look?_same _ _ _⟩
  |succ j=>
   simp at h hl
   obtain⟨e,he⟩:=Yl h hl hd
   split
   ·exact⟨e,he⟩
   ·simp only [look?]
    cases Nat.beq k i with
    |true=>exact⟨x,rfl⟩
    |false=>exact⟨e,he⟩
theorem Qr{α β:Type}{f:α→Option β}{g:β→Option α}: ∀ {l:List α} {m:List β} {n:List α},qX f l=some m→qX g m=some n→(∀ x∈l,∀ y z,f x=some y→g y=some z→z=x)→n=l
 | [],m,n,h1,h2,_=>by simp [qX]at h1;subst h1;simp [qX]at h2;exact h2
 |a::l,m,n,h1,h2,hr=>by
  simp only [qX]at h1
  split at h1
  ·rename_i b bs e1 e2
   cases h1
   simp only [qX]at h2
   split at h2
   ·rename_i c cs e3 e4
    cases h2
    rw [hr a (by simp) b c e1 e3,Qr e2 e4 fun x hx=>hr x (by simp [hx])]
   ·cases h2
  ·cases h1
section
variable{f g:Nat→Option Nat}
theorem Cell.ren_round(h: ∀ i j k,f i=some j→g j=some k→k=i){c c1 c2:Cell}(h1:c.ren f=some c1)(h2:c1.ren g=some c2):c2=c:=by
 cases c with
 |val v=>simp [Cell.ren]at h1;subst h1;simp [Cell.ren]at h2;exact h2.symm
 |ptr id off=>
  simp only [Cell.ren,q9]at h1
  obtain⟨j,hj,rfl⟩:=h1
  simp only [Cell.ren,q9]at h2
  obtain⟨k,hk,rfl⟩:=h2
  rw [h _ _ _ hj hk]
 |ref id=>
  simp only [Cell.ren,q9]at h1
  obtain⟨j,hj,rfl⟩:=h1
  simp only [Cell.ren,q9]at h2
  obtain⟨k,hk,rfl⟩:=h2
  rw [h _ _ _ hj hk]
 |el id z i off=>
  simp only [Cell.ren,q9]at h1
  obtain⟨j,hj,rfl⟩:=h1
  simp only [Cell.ren,q9]at h2
  obtain⟨k,hk,rfl⟩:=h2
  rw [h _ _ _ hj hk]
 |vw id z q=>
  simp only [Cell.ren,q9]at h1
  obtain⟨j,hj,rfl⟩:=h1
  simp only [Cell.ren,q9]at h2
  obtain⟨k,hk,rfl⟩:=h2
  rw [h _ _ _ hj hk]
 |clo q caps=>
  simp only [Cell.ren,q9]at h1
  obtain⟨j,hj,rfl⟩:=h1
  simp only [Cell.ren,q9]at h2
  obtain⟨k,hk,rfl⟩:=h2
  rw [Qr hj hk fun x _ y z h1 h2=>h x y z h1 h2]
 |bnd q vs=>
  simp only [Cell.ren,q9]at h1
  obtain⟨j,hj,rfl⟩:=h1
  simp only [Cell.ren,q9]at h2
  obtain⟨k,hk,rfl⟩:=h2
  rw [Qw h hj hk]
theorem Entry.ren_round(h: ∀ i j k,f i=some j→g j=some k→k=i){e e1 e2:Entry}(h1:e.ren f=some e1)(h2:e1.ren g=some e2):e2=e:=by
 have hc: ∀ {cs cs1 cs2:List Cell},qX (Cell.ren f) cs=some cs1→qX (Cell.ren g) cs1=some cs2→cs2=cs:=fun h1 h2=>Qr h1 h2 fun x _ y z q1 q2=>Cell.ren_round h q1 q2
 cases e with
 |box T cs=>
  simp only [Entry.ren,q9]at h1
  obtain⟨j,hj,rfl⟩:=h1
  simp only [Entry.ren,q9]at h2
  obtain⟨k,hk,rfl⟩:=h2
  rw [hc hj hk]
 |row own e t xs=>simp only [Entry.ren,w5]at h1;subst h1;simp only [Entry.ren,w5]at h2;exact h2.symm
 |tree e t xs ho=>
  cases ho with
  |none=>simp only [Entry.ren,w5]at h1;subst h1;simp only [Entry.ren,w5]at h2;exact h2.symm
  |some q=>
   obtain⟨n,cs⟩:=q
   simp only [Entry.ren,q9]at h1
   obtain⟨j,hj,rfl⟩:=h1
   simp only [Entry.ren,q9]at h2
   obtain⟨k,hk,rfl⟩:=h2
   rw [hc hj hk]
 |wk e t xs=>simp only [Entry.ren,w5]at h1;subst h1;simp only [Entry.ren,w5]at h2;exact h2.symm
 |gone=>simp only [Entry.ren,w5]at h1;subst h1;simp only [Entry.ren,w5]at h2;exact h2.symm
end
theorem look?_ne_mem{es:List (Nat×Entry)}{i:Nat}(h: ∀ e,(i,e)∉es):look? es i=none:=by
 induction es with
 |nil=>rfl
 |cons p r ih=>
  obtain⟨k,x⟩:=p
  simp only [look?]
  cases hb:Nat.beq k i with
  |true=>rw [q8 hb]at h;exact(h x (by simp)).elim
  |false=>simp only [cond_false];exact ih fun e he=>h e (by simp [he])
theorem RJ{ent:Nat→Option Entry}{kp:List Nat}{n:Nat}: ∀ {M:List Nat} {es:List Entry} {j i:Nat} {e:Entry},(i,e)∈TA ent kp n j M es→i∈M
 | [],es,j,i,e,h=>by simp [TA]at h
 |_::_,[],j,i,e,h=>by simp [TA]at h
 |k::r,x::es,j,i,e,h=>by
  simp only [TA]at h
  split at h
  ·exact List.mem_cons_of_mem _ (RJ h)
  ·cases hb:(Nat.blt j n&&memN kp j)with
   |true=>rw [hb]at h;exact List.mem_cons_of_mem _ (RJ h)
   |false=>
    rw [hb]at h
    rcases List.mem_cons.1 h with h | h
    ·cases h;exact List.mem_cons_self ..
    ·exact List.mem_cons_of_mem _ (RJ h)
theorem Ym{ent e0:Nat→Option Entry}{kp:List Nat}{n:Nat}(hE: ∀ id e,ent id=some e→e0 id=some e): ∀ {M:List Nat} {es:List Entry} {j:Nat},M.Nodup→
  (∀ q i e,M[q]? =some i→es[q]? =some e→(Nat.blt (j + q) n&&memN kp (j + q))=true→ent i=some e)→be e0 (TA ent kp n j M es)=be e0 (Lm ent M es)
 | [],es,j,_,_=>by simp [TA,Lm]
 |_::_,[],j,_,_=>by simp [TA,Lm]
 |k::r,x::es,j,hn,hk=>by
  obtain⟨hn1,hn2⟩:=List.nodup_cons.1 hn
  have ih:=Ym (e0:=e0) (n:=n) (j:=j + 1) (kp:=kp) hE (M:=r) (es:=es) hn2 fun q i e h1 h2 h3=>hk (q + 1) i e (by simpa using h1) (by simpa using h2) (by rw [show j + (q + 1)=j + 1 + q by omega];exact h3)
  simp only [TA,Lm]
  split
  ·exact ih
  ·funext id
   have ihd:=congrFun ih id
   cases hb:(Nat.blt j n&&memN kp j)with
   |false=>
    simp only [cond_false,be,look?]
    cases Nat.beq k id with
    |true=>rfl
    |false=>exact ihd
   |true=>
    simp only [cond_true,be,look?]
    cases hq:Nat.beq k id with
    |false=>exact ihd
    |true=>
     have hkid:=q8 hq
     subst hkid
     have h1:=hk 0 k x rfl rfl hb
     rw [look?_ne_mem fun e he=>hn1 (RJ he)]
     exact hE _ _ h1
end Go.SX
namespace Go.SX
open Go.RowKit
section
variable{P:Program}{tbl:List (PF P)}{s:St}{look:Nat→Option SS}{ent:Nat→Option Entry}{A:List (Nat×Bool)}{nid:Nat}{o:Oper}{r:Raw}{B:Base}{ρ:Nm}{a:Act}{w:World}{K:Act→World→Prop}{Q:Exit→Act→World→Prop}
def TN(ent:Nat→Option Entry)(ρ:Nm)(L:List Nat)(b:Nat):Prop:= ∃ i∈L,∃ e,ent i=some e∧b∈e.ob ρ i
open Classical in
 noncomputable def memBig (w:World) (ent:Nat→Option Entry) (ρ:Nm) (L:List Nat) (b:Nat):Option Obj:=if TN ent ρ L b then none else w.heap[b]?
theorem SU{L:List Nat}{b:Nat}{o:Obj}(h:memBig w ent ρ L b=some o):w.heap[b]? =some o:=by
 unfold memBig at h;split at h
 ·cases h
 ·exact h
theorem Uy{L:List Nat}{b:Nat}(h:TN ent ρ L b):memBig w ent ρ L b=none:=by
 unfold memBig;rw [if_pos h]
theorem Fa{L:List Nat}{b:Nat}(h:memBig w ent ρ L b=none):TN ent ρ L b∨w.heap.size≤b:=by
 unfold memBig at h;split at h
 ·rename_i h';exact .inl h'
 ·right
  rcases Nat.lt_or_ge b w.heap.size with iM | hge
  ·rw [Array.getElem?_eq_getElem iM]at h;cases h
  ·exact hge
 noncomputable def subNm (ρ:Nm) (L:List Nat):Nm:=⟨fun j=>match L[j]? with | some i=>ρ.nm i | none=> .nilFunc,ρ.mem,fun j=>match L[j]? with | some i=>ρ.fp i | none=> []⟩
theorem nP{L:List Nat}{j i:Nat}(h:L[j]? =some i):subNm ρ L j=ρ i:=by
 simp only [Nm.of,subNm,h]
theorem RI{L:List Nat}{j i:Nat}(h:L[j]? =some i):(subNm ρ L).fp j=ρ.fp i:=by
 simp only [subNm,h]
theorem Sy{ρ ρ':Nm}{i j:Nat}{own:Bool}{e:TypeId}{t:CTy}{xs:List (E t)}(h:ρ' j=ρ i):(Entry.row own e t xs).ob ρ' j=(Entry.row own e t xs).ob ρ i:=by
 cases own <;> simp only [Entry.ob,h]
theorem Jf{B':Base}{ρ':Nm}{id id':Nat}{f:Nat→Option Nat}{U:Nat→Bool}{e:TypeId}{t:CTy}{xs:List (E t)}{h:Option (Nat×List Cell)}{e':Entry}(hh:(Entry.tree e t xs h).holds B ρ w id)(hr:(Entry.tree e t xs h).ren f=some e')
  (iU:ρ' id'=ρ id) (hfp:ρ'.fp id'=ρ.fp id) (hb: ∀ b∈(Entry.tree e t xs h).ob ρ id,B'.mem b=none∧ρ'.mem b=none) (uL:(Entry.tree e t xs h).inU U) (hc: ∀ i j,U i=true→f i=some j→ρ' j=ρ i):
  e'.holds B' ρ' w id'∧e'.ob ρ' id'=(Entry.tree e t xs h).ob ρ id:=by
 obtain⟨cs,Ls,k1,k2,k3,k4,_⟩:=hh
 cases h with
 |none=>
  simp only [Entry.ren,w5]at hr;subst hr
  refine⟨?_,by simp only [Entry.ob,iU,hfp]⟩
  simp only [Entry.holds,iU,hfp]
  exact⟨cs,Ls,k1,k2.keep (fun _ _=>rfl) (fun _ _ h=>by cases h),k3,k4,hb⟩
 |some p=>
  obtain⟨k,hc0⟩:=p
  simp only [Entry.ren,q9]at hr
  obtain⟨c1,hm,rfl⟩:=hr
  refine⟨?_,by simp only [Entry.ob,iU,hfp]⟩
  simp only [Entry.holds,iU,hfp]
  obtain⟨t1,t2,t3,t4⟩:=k2
  refine⟨cs,Ls,k1,⟨t1,fun j l he=> ?_,fun i x l hi hx hl=>t3 i x l (fun j l' he=> ?_) hx hl,t4⟩,k3,k4,hb⟩
  ·cases he
   obtain⟨a,b,c⟩:=t2 k hc0 rfl
   refine⟨a,b,?_⟩
   rw [c]
   exact(AC hm fun x hx y hy=>Cell.ren_conc hc (uL x hx) hy).symm
  ·cases he;exact hi _ _ rfl
theorem Wg{ρ':Nm}{id id':Nat}{f:Nat→Option Nat}{e:TypeId}{t:CTy}{xs:List (E t)}{h:Option (Nat×List Cell)}{e':Entry}(hr:(Entry.tree e t xs h).ren f=some e')(hh:e'.holds B ρ w id')
  (iU:ρ' id=ρ id') (hfp:ρ'.fp id=ρ.fp id') (CG:ρ'.mem=ρ.mem) (hc: ∀ i j,f i=some j→ρ' i=ρ j):
  (Entry.tree e t xs h).holds B ρ' w id∧(Entry.tree e t xs h).ob ρ' id=e'.ob ρ id':=by
 cases h with
 |none=>
  simp only [Entry.ren,w5]at hr;subst hr
  obtain⟨cs,Ls,k1,k2,k3,k4,k5⟩:=hh
  refine⟨?_,by simp only [Entry.ob,iU,hfp]⟩
  simp only [Entry.holds,iU,hfp,CG]
  exact⟨cs,Ls,k1,k2.keep (fun _ _=>rfl) (fun _ _ h=>by cases h),k3,k4,k5⟩
 |some p=>
  obtain⟨k,hc0⟩:=p
  simp only [Entry.ren,q9]at hr
  obtain⟨c1,hm,rfl⟩:=hr
  obtain⟨cs,Ls,k1,k2,k3,k4,k5⟩:=hh
  refine⟨?_,by simp only [Entry.ob,iU,hfp]⟩
  simp only [Entry.holds,iU,hfp,CG]
  obtain⟨t1,t2,t3,t4⟩:=k2
  refine⟨cs,Ls,k1,⟨t1,fun j l he=> ?_,fun i x l hi hx hl=>t3 i x l (fun j l' he=> ?_) hx hl,t4⟩,k3,k4,k5⟩
  ·cases he
   obtain⟨a,b,c⟩:=t2 k c1 rfl
   refine⟨a,b,?_⟩
   rw [c]
   exact AC hm fun x hx y hy=>Cell.ren_conc (ρ:=ρ') (ρ':=ρ) (U:=fun _=>true) (fun i j _ Sa=>(hc i j Sa).symm) (by cases x <;> simp [Cell.inU]) hy
  ·cases he;exact hi _ _ rfl
theorem Mg{f:Nat→Option Nat}{U':Nat→Bool}{e:TypeId}{t:CTy}{xs:List (E t)}{h:Option (Nat×List Cell)}{e':Entry}(hr:(Entry.tree e t xs h).ren f=some e')(hf: ∀ i j,f i=some j→U' j=true):e'.inU U':=by
 cases h with
 |none=>simp only [Entry.ren,w5]at hr;subst hr;trivial
 |some p=>
  obtain⟨k,hc0⟩:=p
  simp only [Entry.ren,q9]at hr
  obtain⟨c1,hm,rfl⟩:=hr
  exact vD hm fun x _ y hy=>Cell.ren_inU hf hy
theorem HE{L:List Nat}{es:List Entry}(hE: ∀ id e,ent id=some e→s.ent id=some e)(h:qX (XV ent L) L=some es){j:Nat}{e':Entry}(hj:es[j]? =some e'):
  ∃ i e,L[j]? =some i∧s.ent i=some e∧e.ren (IV L)=some e':=by
 obtain⟨i,h1,h2⟩:=(AB h).2 j e' hj
 unfold XV at h2
 split at h2
 ·rename_i e he;exact⟨i,e,h1,hE _ _ he,h2⟩
 ·cases h2
theorem XU: ∀ {L:List Nat} {i:Nat},i∈L→ ∃ j,IV L i=some j
 | [],i,h=>by cases h
 |p::r,i,h=>by
  simp only [IV]
  cases hb:Nat.beq p i with
  |true=>exact⟨0,rfl⟩
  |false=>
   rcases List.mem_cons.1 h with rfl | h
   ·rw [show Nat.beq i i=true from Nat.beq_refl i]at hb;cases hb
   ·obtain⟨j,hj⟩:=XU h
    exact⟨j + 1,by rw [hj];rfl⟩
theorem lend(hE: ∀ id e,ent id=some e→s.ent id=some e)(hp:Hp B ρ s.ent s.used w){L:List Nat}(hn:L.Nodup){es:List Entry}(SM:qX (XV ent L) L=some es):
  HpL w (memBig w s.ent ρ L) es (subNm ρ L) w:=by
 have kg:=(AB SM).1
 have hpos: ∀ i j,(fun _:Nat=>true) i=true→IV L i=some j→subNm ρ L j=ρ i:=fun i j _ h=>nP (xg h)
 have TF: ∀ j e' i e,L[j]? =some i→s.ent i=some e→e.ren (IV L)=some e'→ ∀ b,b∈e'.ob (subNm ρ L) j→b∈e.ob ρ i:=by
  intro j e' i e h1 h2 h3 b hb
  cases e with
  |box T cs=>simp only [Entry.ren,q9]at h3;obtain⟨cs',_,rfl⟩:=h3;simp only [Entry.ob,nP h1]at hb ⊢;exact hb
  |row own e t xs=>simp only [Entry.ren,w5]at h3;subst h3;rw [Sy (nP h1)]at hb;exact hb
  |tree e t xs ho=>rw [(Jf (B':=B) (ρ':=subNm ρ L) (id':=j) (U:=fun _=>true) (hp.he _ _ h2).1 h3 (nP h1) (RI h1) (fun b hb=>(Entry.ob_lt (hp.he _ _ h2).1 hb).2) (Entry.inU_mono (fun _ _=>rfl) (hp.he _ _ h2).2.2) hpos).2]at hb;exact hb
  |wk e t xs=>simp only [Entry.ren,w5]at h3;subst h3;simp only [Entry.ob,nP h1]at hb ⊢;exact hb
  |gone=>simp only [Entry.ren,w5]at h3;subst h3;exact hb
 refine⟨fun j e' he'=> ?_,fun j j' e e' b he he' hb hb'=> ?_,rfl,rfl,rfl,Nat.le_refl _,fun b o hb=>SU hb,hp.hf.dat,hp.hf.gl⟩
 ·obtain⟨i,e,h1,h2,h3⟩:=HE hE SM he'
  have iM:j < es.length:=(z7.1 he').1
  obtain⟨g1,g2,g3⟩:=hp.he i e h2
  have hU: ∀ i j,IV L i=some j→Nat.blt j es.length=true:=fun i j h=>by
   have:=(z7.1 (xg h)).1
   simp only [Nat.blt,Nat.ble_eq];omega
  refine⟨?_,by simp only [Nat.blt,Nat.ble_eq];omega,?_⟩
  ·have nQ: ∀ b∈e.ob ρ i,memBig w s.ent ρ L b=none:=fun b hb=>Uy ⟨i,List.mem_of_getElem? h1,e,h2,hb⟩
   cases e with
   |box T cs=>
    simp only [Entry.ren,q9]at h3
    obtain⟨cs',DQ,rfl⟩:=h3
    obtain⟨b,k1,k2,k3,k4⟩:=g1
    refine⟨b,by rw [nP h1];exact k1,?_,nQ b (by simp [Entry.ob,k1,fZ]),k4⟩
    rw [AC DQ fun x hx y hy=>Cell.ren_conc (U:=fun _=>true) hpos (by cases x <;> simp [Cell.inU]) hy]
    exact k2
   |row own e0 t xs=>
    simp only [Entry.ren,w5]at h3;subst h3
    cases own with
    |false=>simp only [Entry.holds];rw [nP h1];exact g1
    |true=>
     obtain⟨cs,k1,k2,k3⟩:=g1
     simp only [Entry.holds];rw [nP h1]
     exact⟨cs,k1,k2,fun b hb=>⟨nQ b hb,(k3 b hb).2⟩⟩
   |tree e0 t xs ho=>exact(Jf (ρ':=subNm ρ L) (id':=j) (U:=fun _=>true) g1 h3 (nP h1) (RI h1) (fun b hb=>⟨nQ b hb,(Entry.ob_lt g1 hb).2.2⟩) (Entry.inU_mono (fun _ _=>rfl) g3) hpos).1
   |wk e0 t xs=>
    simp only [Entry.ren,w5]at h3;subst h3
    obtain⟨k1,k2,k3⟩:=g1
    simp only [Entry.holds];rw [nP h1]
    exact⟨k1,k2,fun b hb=>⟨nQ b hb,(k3 b hb).2⟩⟩
   |gone=>simp only [Entry.ren,w5]at h3;subst h3;trivial
  ·cases e with
   |box T cs=>
    simp only [Entry.ren,q9]at h3
    obtain⟨cs',DQ,rfl⟩:=h3
    exact vD DQ fun x _ y hy=>Cell.ren_inU hU hy
   |row own e0 t xs=>simp only [Entry.ren,w5]at h3;subst h3;trivial
   |tree e0 t xs ho=>exact Mg h3 hU
   |wk e0 t xs=>simp only [Entry.ren,w5]at h3;subst h3;trivial
   |gone=>simp only [Entry.ren,w5]at h3;subst h3;trivial
 ·obtain⟨i,e1,h1,h2,h3⟩:=HE hE SM he
  obtain⟨i',e1',h1',h2',h3'⟩:=HE hE SM he'
  have:=hp.hi i i' e1 e1' b h2 h2' (TF j e i e1 h1 h2 h3 b hb) (TF j' e' i' e1' h1' h2' h3' b hb')
  subst this
  exact Sj hn h1 h1'
theorem adG(hE: ∀ id e,ent id=some e→s.ent id=some e)(hp:Hp B ρ s.ent s.used w){L:List Nat}(hn:L.Nodup){es0 es1 es':List Entry}(SM:qX (XV ent L) L=some es0)
  {m:Nat} (kh: ∀ i∈aK nid m,s.used i=false) {ρc:Nm} {w':World} (kg:es1.length=L.length + m)
  (hx:Ext (memB w (memBig w s.ent ρ L)) (fun i=>Nat.blt i es0.length) (subNm ρ L) ρc) (h:HpL w (memBig w s.ent ρ L) es1 ρc w') (hr:qX (Entry.ren (SI (L++aK nid m))) es1=some es'):
  ∃ ρ':Nm,Ext B s.used ρ ρ'∧(∀ i j,Nat.blt i es1.length=true→SI (L++aK nid m) i=some j→ρ' j=ρc i)∧
   Hp B ρ' (be s.ent (Lm ent (L++aK nid m) es')) (bq s.used (aK nid m)) w':=by
 have hL: ∀ i∈L,s.used i=true:=fun i hi=>by
  obtain⟨j,hj⟩:=List.mem_iff_getElem?.1 hi
  have hjl:=(z7.1 hj).1
  have:j < es0.length:=by rw [(AB SM).1];exact hjl
  obtain⟨i',e,h1,h2,_⟩:=HE hE SM (List.getElem?_eq_getElem this)
  rw [hj]at h1;cases h1
  exact(hp.he i e h2).2.1
 have hids: ∀ k n j:Nat,j < k→(aK n k)[j]? =some (n + j):=by
  intro k
  induction k with
  |zero=>intro n j hj;omega
  |succ k ih=>
   intro n j hj
   cases j with
   |zero=>simp [aK]
   |succ j=>simp only [aK,List.getElem?_cons_succ];rw [ih (n + 1) j (by omega)];congr 1;omega
 have hidl: ∀ k n:Nat,(aK n k).length=k:=by
  intro k
  induction k with
  |zero=>intro n;rfl
  |succ k ih=>intro n;simp [aK,ih]
 have hLL:(L++aK nid m).length=es1.length:=by rw [w7,hidl,kg]
 have hl0:es0.length=L.length:=(AB SM).1
 have hl':es'.length=es1.length:=(AB hr).1
 let ρ':Nm:=⟨fun id=>bif s.used id then ρ.nm id else ρc.nm (L.length + (id - nid)),ρc.mem,fun id=>match look? (Lm ent (L++aK nid m) es') id,IV (L++aK nid m) id with | some _,some i=>ρc.fp i | _,_=>ρ.fp id⟩
 have hold: ∀ id,s.used id=true→ρ' id=ρ id:=fun id iU=>by simp only [Nm.of,ρ',iU,cond_true]
 have lV: ∀ i j:Nat,(L++aK nid m)[i]? =some j→ρ' j=ρc i:=by
  intro i j hj
  by_cases hi:i < L.length
  ·rw [List.getElem?_append_left hi]at hj
   rw [hold j (hL j (List.mem_of_getElem? hj)),← nP hj]
   exact(hx.nm i (by simp only [Nat.blt,Nat.ble_eq];omega)).symm
  ·rw [List.getElem?_append_right (by omega)]at hj
   have iM:i - L.length < m:=by
    have:=(z7.1 hj).1;rwa [hidl]at this
   rw [hids m nid _ iM]at hj;cases hj
   have hu:=kh (nid + (i - L.length)) (List.mem_of_getElem? (hids m nid _ iM))
   simp only [Nm.of,ρ',hu,cond_false]
   rw [show L.length + (nid + (i - L.length) - nid)=i by omega]
 have hnodup: ∀ i i' j:Nat,(L++aK nid m)[i]? =some j→(L++aK nid m)[i']? =some j→i=i':=by
  intro i i' j h1 h2
  by_cases hi:i < L.length
  ·rw [List.getElem?_append_left hi]at h1
   by_cases hi':i' < L.length
   ·rw [List.getElem?_append_left hi']at h2;exact Sj hn h1 h2
   ·rw [List.getElem?_append_right (by omega)]at h2
    have:=kh j (List.mem_of_getElem? h2)
    rw [hL j (List.mem_of_getElem? h1)]at this;cases this
  ·rw [List.getElem?_append_right (by omega)]at h1
   have iM:i - L.length < m:=by
    have:=(z7.1 h1).1;rwa [hidl]at this
   by_cases hi':i' < L.length
   ·rw [List.getElem?_append_left hi']at h2
    have:=kh j (List.mem_of_getElem? h1)
    rw [hL j (List.mem_of_getElem? h2)]at this;cases this
   ·rw [List.getElem?_append_right (by omega)]at h2
    have hlt':i' - L.length < m:=by
     have:=(z7.1 h2).1;rwa [hidl]at this
    rw [hids m nid _ iM]at h1
    rw [hids m nid _ hlt']at h2
    cases h1
    have:=Option.some.inj h2
    omega
 have Dk: ∀ b,TN s.ent ρ L b→Was s.ent ρ (Lm ent (L++aK nid m) es') b:=by
  rintro b ⟨i,hi,e,he,hb⟩
  obtain⟨j,hj⟩:=List.mem_iff_getElem?.1 hi
  have hjl:=(z7.1 hj).1
  obtain⟨e',he'⟩:=Yl (ent:=ent) (es:=es') (i:=i) (j:=j) (L:=L++aK nid m) (by rw [List.getElem?_append_left hjl];exact hj) (by rw [hl',hLL]) (fun e0 t xs hh=>by
   rw [hE _ _ hh]at he;cases he;simp [Entry.ob]at hb)
  exact⟨i,e,e',he,hb,he'⟩
 have hBnone: ∀ b,memBig w s.ent ρ L b=none→B.mem b=none:=fun b hb=>by
  rcases Fa hb with⟨i,_,e,he,hb⟩ | hge
  ·exact(Entry.ob_lt (hp.he i e he).1 hb).2.1
  ·cases hm:B.mem b with
   |none=>rfl
   |some o=>have:=(Array.getElem?_eq_some_iff.1 (hp.hf.mem _ _ hm)).1;omega
 have hren: ∀ i j,Nat.blt i es1.length=true→SI (L++aK nid m) i=some j→ρ' j=ρc i:=fun i j _ h=>lV i j h
 have hUj: ∀ i j,SI (L++aK nid m) i=some j→bq s.used (aK nid m) j=true:=fun i j hj=>by
  rcases List.mem_append.1 (List.mem_of_getElem? hj)with hm | hm
  ·exact gm _ (hL j hm)
  ·exact sf hm
 have hgfp: ∀ (i id:Nat) (e:Entry),(L++aK nid m)[i]? =some id→look? (Lm ent (L++aK nid m) es') id=some e→ρ'.fp id=ρc.fp i:=by
  intro i id e hi hl
  obtain⟨j,hj⟩:=XU (List.mem_of_getElem? hi)
  have:=hnodup _ _ _ (xg hj) hi
  subst this
  show (match look? (Lm ent (L++aK nid m) es') id,IV (L++aK nid m) id with | some _,some i=>ρc.fp i | _,_=>ρ.fp id)=_
  rw [hl,hj]
 have Jz: ∀ id e,look? (Lm ent (L++aK nid m) es') id=some e→ ∃ (i:Nat) (e0:Entry),(L++aK nid m)[i]? =some id∧es1[i]? =some e0∧e0.ren (SI (L++aK nid m))=some e∧ρ'.fp id=ρc.fp i∧e.ob ρ' id=e0.ob ρc i:=by
  intro id e hl
  obtain⟨i,h1,h2⟩:=SH hl
  obtain⟨e0,h3,h4⟩:=(AB hr).2 i e h2
  have hf:=hgfp i id e h1 hl
  refine⟨i,e0,h1,h3,h4,hf,?_⟩
  have hg:=lV i id h1
  cases e0 with
  |box T cs=>simp only [Entry.ren,q9]at h4;obtain⟨cs',_,rfl⟩:=h4;simp only [Entry.ob,hg]
  |row own e t xs=>simp only [Entry.ren,w5]at h4;subst h4;exact Sy hg
  |tree e0 t xs ho=>
   have g1:=h.he i _ h3
   exact(Jf (B':=memB w (memBig w s.ent ρ L)) (U:=fun i=>Nat.blt i es1.length) g1.1 h4 hg hf (fun b hb=>(Entry.ob_lt g1.1 hb).2) g1.2.2 hren).2
  |wk e t xs=>simp only [Entry.ren,w5]at h4;subst h4;simp only [Entry.ob,hg]
  |gone=>simp only [Entry.ren,w5]at h4;subst h4;rfl
 have LS:Chg w w' (TN s.ent ρ L):=⟨h.hf.os,h.hf.tape,h.hf.output,h.hf.size,fun k hk hX=>by
  have:memBig w s.ent ρ L k=w.heap[k]? :=by unfold memBig;rw [if_neg hX]
  rw [Array.getElem?_eq_getElem hk]at this ⊢
  exact h.hf.mem k _ this⟩
 have kn:=hp.chg (ρ':=ρ') (es:=Lm ent (L++aK nid m) es') (new:=aK nid m) LS hold (fun b o hb=>hx.old b o hb) Dk
  (fun b o hb=>(hx.new b o hb).imp (fun h=>h) fun hb'=>⟨h.hf.dat b o hb,hb'.2,(Fa hb'.1).symm.imp (fun h=>h) (Dk b)⟩)
  (fun id e hl=>by
   obtain⟨i,e0,h1,h2,h3,hfp0,_⟩:=Jz id e hl
   obtain⟨g1,_,g3⟩:=h.he i e0 h2
   have hUid:bq s.used (aK nid m) id=true:=hUj i id h1
   refine⟨?_,hUid,?_⟩
   ·cases e0 with
    |box T cs=>
     simp only [Entry.ren,q9]at h3
     obtain⟨cs',DQ,rfl⟩:=h3
     obtain⟨b,k1,k2,k3,k4⟩:=g1
     refine⟨b,by rw [lV i id h1];exact k1,?_,hBnone b k3,k4⟩
     rw [AC DQ fun x hx y hy=>Cell.ren_conc hren (g3 x hx) hy]
     exact k2
    |row own e1 t xs=>
     simp only [Entry.ren,w5]at h3;subst h3
     cases own with
     |false=>simp only [Entry.holds];rw [lV i id h1];exact g1
     |true=>
      obtain⟨cs,k1,k2,k3⟩:=g1
      simp only [Entry.holds];rw [lV i id h1]
      exact⟨cs,k1,k2,fun b hb=>⟨hBnone b (k3 b hb).1,(k3 b hb).2⟩⟩
    |tree e1 t xs ho=>exact(Jf (U:=fun i=>Nat.blt i es1.length) g1 h3 (lV i id h1) hfp0 (fun b hb=>⟨hBnone b (Entry.ob_lt g1 hb).2.1,(Entry.ob_lt g1 hb).2.2⟩) g3 hren).1
    |wk e1 t xs=>
     simp only [Entry.ren,w5]at h3;subst h3
     obtain⟨k1,k2,k3⟩:=g1
     simp only [Entry.holds];rw [lV i id h1]
     exact⟨k1,k2,fun b hb=>⟨hBnone b (k3 b hb).1,(k3 b hb).2⟩⟩
    |gone=>simp only [Entry.ren,w5]at h3;subst h3;trivial
   ·cases e0 with
    |box T cs=>
     simp only [Entry.ren,q9]at h3
     obtain⟨cs',DQ,rfl⟩:=h3
     exact vD DQ fun x _ y hy=>Cell.ren_inU hUj hy
    |row own e1 t xs=>simp only [Entry.ren,w5]at h3;subst h3;trivial
    |tree e1 t xs ho=>exact Mg h3 hUj
    |wk e1 t xs=>simp only [Entry.ren,w5]at h3;subst h3;trivial
    |gone=>simp only [Entry.ren,w5]at h3;subst h3;trivial)
  (fun id e b hl hb=>by
   obtain⟨i,e0,h1,h2,_,_,h4⟩:=Jz id e hl
   rw [h4]at hb
   exact(Fa (Entry.ob_lt (h.he i e0 h2).1 hb).2.1).symm.imp (fun h=>h) (Dk b))
  (fun id id' e e' b hl hl' hb hb'=>by
   obtain⟨i,e0,h1,h2,_,_,h4⟩:=Jz id e hl
   obtain⟨i',e0',h1',h2',_,_,h4'⟩:=Jz id' e' hl'
   rw [h4]at hb;rw [h4']at hb'
   have:=h.hi i i' e0 e0' b h2 h2' hb hb'
   subst this
   rw [h1]at h1';exact Option.some.inj h1')
  (fun id _ hl=>by
   show (match look? (Lm ent (L++aK nid m) es') id,IV (L++aK nid m) id with | some _,some i=>ρc.fp i | _,_=>ρ.fp id)=_
   rw [hl])
 exact⟨ρ',kn.1,hren,kn.2⟩
end
end Go.SX
namespace Go.SX
open Go.RowKit
def aad(P:Program)(f:TypeId→V1→V1→Option Bool):List Field→List Cell→List Cell→Option Bool
 | [],_,_=>some true
 |fd::r,cx,cy=>match decide (fd.name= "_")with
  |true=>aad P f r cx cy
  |false=>match NJ P fd.type fd.offset cx,NJ P fd.type fd.offset cy with
   |some a,some b=>match f fd.type a b,aad P f r cx cy with
    |some u,some v=>some (bif u then v else false)
    |_,_=>none
   |_,_=>none
def eqC(P:Program):Nat→TypeId→V1→V1→Option Bool
 |0,_,_,_=>none
 |d + 1,t,x,y=>match P.underlying t with
  |some .bool=>match x,y with
   |⟨false,[.val (.bool a)]⟩,⟨false,[.val (.bool b)]⟩=>some (a==b)
   |_,_=>none
  |some (.int _)=>match x,y with
   |⟨false,[.val (.int k a)]⟩,⟨false,[.val (.int k' b)]⟩=>if k=k' then some (a==b)else none
   |_,_=>none
  |some .string=>match x,y with
   |⟨false,[.val (.string a)]⟩,⟨false,[.val (.string b)]⟩=>some (a==b)
   |_,_=>none
  |some (.struct fs)=>match x,y with
   |⟨true,cx⟩,⟨true,cy⟩=>bif P.stoodInHeld t then none else aad P (eqC P d) fs.toList cx cy
   |_,_=>none
  |_=>none
def eqV(P:Program)(look:Nat→Option SS)(A:List (Nat×Bool))(op:BinOp)(T:TypeId)(x y:Operand):Option Raw:=
 match op,ev1 look A x,ev1 look A y with
 | .eql,some ⟨true,cx⟩,some ⟨true,cy⟩=>bif P.eqGuardType P.depth T then none else match eqC P 12 T ⟨true,cx⟩ ⟨true,cy⟩with
  |some b=>some (.ofV (one (.val (.bool b))))
  |none=>none
 | .neq,some ⟨true,cx⟩,some ⟨true,cy⟩=>bif P.eqGuardType P.depth T then none else match eqC P 12 T ⟨true,cx⟩ ⟨true,cy⟩with
  |some b=>some (.ofV (one (.val (.bool (!b)))))
  |none=>none
 |_,_,_=>none
def YF(P:Program)(look:Nat→Option SS)(ent:Nat→Option Entry)(A:List (Nat×Bool))(op:BinOp)(T:TypeId)(x y:Operand):Option Raw:=
 match op,P.underlying T,evC look A x,evC look A y with
 | .eql,some (.slice _),some (.ref id),some (.val (.slice none 0 0))=>match ent id with
  |some (.row _ _ _ xs)=>some ⟨one (.val (.bool false)),[],[],[decide (0 < xs.length)]⟩
  |_=>none
 | .neq,some (.slice _),some (.ref id),some (.val (.slice none 0 0))=>match ent id with
  |some (.row _ _ _ xs)=>some ⟨one (.val (.bool true)),[],[],[decide (0 < xs.length)]⟩
  |_=>none
 |_,_,_,_=>none
section
variable{P:Program}{s:St}{look:Nat→Option SS}{ent:Nat→Option Entry}{A:List (Nat×Bool)}{nid:Nat}{o:Oper}{r:Raw}{B:Base}{ρ:Nm}{a:Act}{w:World}{K:Act→World→Prop}{Q:Exit→Act→World→Prop}
theorem Qi{f:TypeId→V1→V1→Option Bool}{d:Nat}(hf: ∀ t x y b,f t x y=some b→(Op.equalIn d t (x.conc ρ) (y.conc ρ)).run P w= .ok b w):
  ∀ (fs:List Field) (cx cy:List Cell) (b:Bool),aad P f fs cx cy=some b→(Op.eqFields d (cx.map (Cell.conc ρ)).toArray (cy.map (Cell.conc ρ)).toArray fs).run P w= .ok b w
 | [],_,_,b,h=>by simp only [aad,w5]at h;subst h;simp [Op.eqFields]
 |fd::r,cx,cy,b,h=>by
  simp only [aad]at h
  split at h
  ·rename_i hn
   have hn:=of_decide_eq_true hn
   simp only [Op.eqFields,hn,ne_eq,not_true_eq_false,if_false]
   exact Qi hf r cx cy b h
  ·rename_i hn
   have hn:=of_decide_eq_false hn
   split at h
   ·rename_i u v hu hv
    split at h
    ·rename_i e1 e2 h1 h2
     cases h
     have p1:=UT (ρ:=ρ) (w:=w) hu
     have p2:=UT (ρ:=ρ) (w:=w) hv
     have p3:=hf _ _ _ _ h1
     have ih:=Qi hf r cx cy e2 h2
     simp only [Op.eqFields,ne_eq,hn,not_false_eq_true,if_true,Sem.run_bind,p1,p2,p3,Result.andThen_ok]
     cases e1 with
     |true=>simpa using ih
     |false=>simp
    ·cases h
   ·cases h
theorem RU: ∀ (d D:Nat) (t:TypeId) (x y:V1) (b:Bool),eqC P d t x y=some b→(Op.equalIn (D + d) t (x.conc ρ) (y.conc ρ)).run P w= .ok b w
 |0,_,_,_,_,_,h=>by cases h
 |d + 1,D,t,x,y,b,h=>by
  simp only [eqC]at h
  split at h
  ·rename_i hu
   split at h
   ·cases h
    exact run_equalIn_bool w (D + d) t _ _ hu
   ·cases h
  ·rename_i k0 hu
   split at h
   ·rename_i k a k' b'
    split at h
    ·rename_i hk
     subst hk
     cases h
     exact run_equalIn_int w (D + d) t k k0 a b' hu
    ·cases h
   ·cases h
  ·rename_i hu
   split at h
   ·rename_i a' b'
    cases h
    have:=run_equalIn_string w (D + d) t a' b' hu
    rw [← beq_toListBytes]at this
    exact this
   ·cases h
  ·rename_i fs hu
   split at h
   ·rename_i cx cy
    cases hs:P.stoodInHeld t with
    |true=>rw [hs]at h;cases h
    |false=>
     rw [hs,cond_false]at h
     have hfs:P.fieldsOf t=fs:=by simp [Program.fieldsOf,hu]
     have hr:=run_equalIn_struct w (D + d) t (cx.map (Cell.conc ρ)).toArray (cy.map (Cell.conc ρ)).toArray (by rw [hfs];exact hu) hs
     rw [hfs]at hr
     exact hr.trans (Qi (fun t x y b hb=>RU d D t x y b hb) fs.toList cx cy b h)
   ·cases h
  ·cases h
theorem aae(c:Ctx B ρ s a w look ent A){bop:BinOp}{T T':TypeId}{x y:Operand}(ho:o.op= .binOp bop T x y T')(h:eqV P look A bop T x y=some r)(hC:lr B s ρ r o a K):o.wp P a w K Q:=by
 obtain⟨dst,op,ty,pos,after,guard⟩:=o
 simp only at ho;subst ho
 unfold eqV at h
 split at h
 ·rename_i cx cy hx hy
  cases hg:P.eqGuardType P.depth T with
  |true=>rw [hg]at h;cases h
  |false=>
   rw [hg,cond_false]at h
   split at h
   ·rename_i b hb
    cases h
    have pN:=(c.ev1 hx).1
    have Dh:=(c.ev1 hy).1
    have he:=RU (ρ:=ρ) (w:=w) 12 9988 T _ _ b hb
    simp only [V1.conc]at pN Dh he
    refine az (w':=w) ?_ (lr.same (v:=one (.val (.bool b))) rfl hC c.hp)
    simp only [execOp,pN,Dh,Sem.run_bind,run_eqGuard_agg w .eql T x y _ _ hg,Result.andThen_ok,run_eql_struct,he,one,SV.conc,V1.conc,Cell.conc]
    rfl
   ·cases h
 ·rename_i cx cy hx hy
  cases hg:P.eqGuardType P.depth T with
  |true=>rw [hg]at h;cases h
  |false=>
   rw [hg,cond_false]at h
   split at h
   ·rename_i b hb
    cases h
    have pN:=(c.ev1 hx).1
    have Dh:=(c.ev1 hy).1
    have he:=RU (ρ:=ρ) (w:=w) 12 9988 T _ _ b hb
    simp only [V1.conc]at pN Dh he
    refine az (w':=w) ?_ (lr.same (v:=one (.val (.bool (!b)))) rfl hC c.hp)
    simp only [execOp,pN,Dh,Sem.run_bind,run_eqGuard_agg w .neq T x y _ _ hg,Result.andThen_ok,run_neq_struct,he,one,SV.conc,V1.conc,Cell.conc]
    rfl
   ·cases h
 ·cases h
theorem XZ{own:Bool}{id:Nat}{e:TypeId}{t:CTy}{xs:List (E t)}(h:(Entry.row own e t xs).holds B ρ w id)(hf: ∀ b o,ρ.mem b=some o→w.heap[b]? =some o)(hx:0 < xs.length):
  ∃ b n cap,ρ id= .slice (some b) n cap:=by
 rcases GN h hf with⟨_,hn⟩ | ⟨b,off,cap,news,hv,_⟩
 ·subst hn;cases hx
 ·exact⟨_,_,_,hv⟩
theorem US{T e:TypeId}(hT:P.underlying T=some (.slice e))(b:Addr)(n cap d:Nat):(Op.equalIn (d + 1) T (.slice (some b) n cap) (.slice none 0 0)).run P w= .ok false w:=by
 simp [Op.equalIn,run_underlying hT]
theorem Yc{T e:TypeId}(hT:P.underlying T=some (.slice e))(b:Addr)(n cap:Nat)(x y:Operand):(do eqGuard .eql T x y (.slice (some b) n cap) (.slice none 0 0);binOp .eql T (.slice (some b) n cap) (.slice none 0 0):Sem Value).run P w= .ok (.bool false) w:=by
 have h:=US (w:=w) hT b n cap 9999
 have h0:(eqGuard .eql T x y (.slice (some b) n cap) (.slice none 0 0)).run P w= .ok () w:=rfl
 have h1:(binOp .eql T (.slice (some b) n cap) (.slice none 0 0)).run P w= .ok (.bool false) w:=by
  show (do pure (.bool (← Op.equalIn (9999 + 1) T (.slice (some b) n cap) (.slice none 0 0))):Sem Value).run P w=_
  rw [Sem.run_bind,h];rfl
 rw [Sem.run_bind,h0];exact h1
theorem Yd{T e:TypeId}(hT:P.underlying T=some (.slice e))(b:Addr)(n cap:Nat)(x y:Operand):(do eqGuard .neq T x y (.slice (some b) n cap) (.slice none 0 0);binOp .neq T (.slice (some b) n cap) (.slice none 0 0):Sem Value).run P w= .ok (.bool true) w:=by
 have h:=US (w:=w) hT b n cap 9999
 have h0:(eqGuard .neq T x y (.slice (some b) n cap) (.slice none 0 0)).run P w= .ok () w:=rfl
 have h1:(binOp .neq T (.slice (some b) n cap) (.slice none 0 0)).run P w= .ok (.bool true) w:=by
  show (do pure (.bool (!(← Op.equalIn (9999 + 1) T (.slice (some b) n cap) (.slice none 0 0)))):Sem Value).run P w=_
  rw [Sem.run_bind,h];rfl
 rw [Sem.run_bind,h0];exact h1
theorem Wt(c:Ctx B ρ s a w look ent A){bop:BinOp}{T T':TypeId}{x y:Operand}(ho:o.op= .binOp bop T x y T')(h:YF P look ent A bop T x y=some r)(ec: ∀ b∈r.nd,b=true)(hC:lr B s ρ r o a K):o.wp P a w K Q:=by
 obtain⟨dst,op,ty,pos,after,guard⟩:=o
 simp only at ho;subst ho
 unfold YF at h
 split at h
 ·rename_i e id hT hx hy
  split at h
  ·rename_i own e' t xs he
   cases h
   have hl:0 < xs.length:=by simpa using ec (decide (0 < xs.length)) (by simp)
   have pN:=(c.evC hx).1
   have Dh:=(c.evC hy).1
   simp only [Cell.conc]at pN Dh
   obtain⟨b,n,cap,hv⟩:=XZ (c.hp.he _ _ (c.hE _ _ he)).1 c.hp.hf.dat hl
   rw [hv]at pN
   refine az (w':=w) ?_ (lr.same (v:=one (.val (.bool false))) rfl hC c.hp)
   have hr:=Yc (w:=w) hT b n cap x y
   simp only [Sem.run_bind]at hr
   simp only [execOp,pN,Dh,Sem.run_bind,hr,one,SV.conc,V1.conc,Cell.conc]
   rfl
  ·cases h
 ·rename_i e id hT hx hy
  split at h
  ·rename_i own e' t xs he
   cases h
   have hl:0 < xs.length:=by simpa using ec (decide (0 < xs.length)) (by simp)
   have pN:=(c.evC hx).1
   have Dh:=(c.evC hy).1
   simp only [Cell.conc]at pN Dh
   obtain⟨b,n,cap,hv⟩:=XZ (c.hp.he _ _ (c.hE _ _ he)).1 c.hp.hf.dat hl
   rw [hv]at pN
   refine az (w':=w) ?_ (lr.same (v:=one (.val (.bool true))) rfl hC c.hp)
   have hr:=Yd (w:=w) hT b n cap x y
   simp only [Sem.run_bind]at hr
   simp only [execOp,pN,Dh,Sem.run_bind,hr,one,SV.conc,V1.conc,Cell.conc]
   rfl
  ·cases h
 ·cases h
end
end Go.SX
namespace Go.SX
open Go.RowKit
def ZC:List GEnt→Nat→Option GEnt
 | [],_=>none
 |x::r,g=>bif Nat.beq x.g g then some x else ZC r g
theorem VF: ∀ {l:List GEnt} {g:Nat} {x:GEnt},ZC l g=some x→x∈l∧x.g=g
 | [],_,_,h=>by cases h
 |y::r,g,x,h=>by
  simp only [ZC]at h
  cases hb:Nat.beq y.g g with
  |true=>rw [hb]at h;cases h;exact⟨by simp,q8 hb⟩
  |false=>rw [hb]at h;have:=VF (l:=r) h;exact⟨by simp [this.1],this.2⟩
def ZH(P:Program)(T:TypeId)(x:Operand):Option GEnt:=
 match x with
 | .global g=>match ZC GT g with
  |some G=>match P.underlying T with
   |some (.array n e)=>match P.info? e with
    |some inf=>bif Nat.beq inf.size G.t.size&&(Nat.beq n G.xs.length&&Nat.beq e G.e)then some G else none
    |none=>none
   |_=>none
  |none=>none
 |_=>none
def Ww(P:Program)(look:Nat→Option SS)(A:List (Nat×Bool))(nid:Nat)(T:TypeId)(x ix:Operand):Option Raw:=
 match ZH P T x,evI look A ix with
 |some G,some i=>some ⟨one (.el nid G.t.size i.toNat 0),[(nid,.row false G.e G.t G.xs)],[nid],[decide (0≤i),decide (i < G.xs.length)]⟩
 |_,_=>none
def Wx(P:Program)(look:Nat→Option SS)(A:List (Nat×Bool))(nid:Nat)(T:TypeId)(x:Operand)(lo hi mx:Option Operand):Option Raw:=
 match mx,ZH P T x with
 |none,some G=>match bnd look A lo 0,bnd look A hi G.xs.length with
  |some l,some h=>some ⟨one (.ref nid),[(nid,.row false G.e G.t ((G.xs.take h.toNat).drop l.toNat))],[nid],[decide (0≤l),decide (l≤h),decide (h≤G.xs.length)]⟩
  |_,_=>none
 |_,_=>none
section
variable{P:Program}{tbl:List (PF P)}{s:St}{look:Nat→Option SS}{ent:Nat→Option Entry}{A:List (Nat×Bool)}{nid:Nat}{o:Oper}{r:Raw}{B:Base}{ρ:Nm}{a:Act}{w:World}{K:Act→World→Prop}{Q:Exit→Act→World→Prop}
theorem SL{T:TypeId}{x:Operand}{G:GEnt}(h:ZH P T x=some G):x= .global G.g∧G∈GT∧ ∃ e inf,P.underlying T=some (.array G.xs.length e)∧P.info? e=some inf∧inf.size=G.t.size:=by
 unfold ZH at h
 split at h
 ·rename_i g
  split at h
  ·rename_i G' hG
   split at h
   ·rename_i n e hT
    split at h
    ·rename_i inf rR
     cases hb:(Nat.beq inf.size G'.t.size&&(Nat.beq n G'.xs.length&&Nat.beq e G'.e))with
     |false=>rw [hb]at h;cases h
     |true=>
      rw [hb]at h;cases h
      simp only [w6]at hb
      obtain⟨h1,h2⟩:=VF hG
      have:=q8 hb.2.1
      subst this
      exact⟨by rw [h2],h1,e,inf,hT,rR,q8 hb.1⟩
    ·cases h
   ·cases h
  ·cases h
 ·cases h
theorem Xt{H:Nat→Option Obj}(h:GlOk H){G:GEnt}(hG:G∈GT):BQ H G.t (.slice (some ⟨G.g,0,none⟩) G.xs.length G.xs.length) G.xs:=by
 obtain⟨h0,arr,T,fz,h1,_,h2⟩:=h.1 G hG
 exact .inr ⟨G.g,0,G.xs.length,arr,T,fz,rfl,Nat.le_refl _,h0,h1,fun i x hx=>by rw [Nat.zero_add];exact h2 i x hx⟩
theorem ZQ(c:Ctx B ρ s a w look ent A){nid:Nat}{e:TypeId}{t:CTy}{xs:List (E t)}{v:Value}(It:s.used nid=false)(hv:BQ ρ.mem t v xs):
  Ext B s.used ρ (upd ρ nid v)∧Hp B (upd ρ nid v) (be s.ent [(nid,.row false e t xs)]) (bq s.used [nid]) w:=
 c.hp.names (ρ':=upd ρ nid v) (es:= [(nid,.row false e t xs)]) (new:= [nid]) (De It _ _) rfl fun i x hl=>by
  obtain⟨rfl,rfl⟩:=look?_one hl
  refine⟨?_,by simp [bq,memN],trivial,rfl⟩
  simp only [Entry.holds]
  rw [gk _ _ (Ir hv)]
  exact hv
theorem Vd(c:Ctx B ρ s a w look ent A){T:TypeId}{x ix:Operand}(ho:o.op= .indexAddr T x ix)(h:Ww P look A nid T x ix=some r)(kh: ∀ i∈r.new,s.used i=false)(ec: ∀ b∈r.nd,b=true)
  (hC:lr B s ρ r o a K):o.wp P a w K Q:=by
 obtain⟨dst,op,ty,pos,after,guard⟩:=o
 simp only at ho;subst ho
 unfold Ww at h
 split at h
 ·rename_i G i hG hi
  cases h
  obtain⟨rfl,hm,e,inf,hT,rR,Ba⟩:=SL hG
  have It:=kh nid (by simp)
  have h0:0≤i:=by simpa using ec (decide (0≤i)) (by simp)
  have h1:i < G.xs.length:=by simpa using ec (decide (i < G.xs.length)) (by simp)
  obtain⟨k,hiv⟩:=c.evI hi
  obtain⟨hX,hp⟩:=ZQ c (e:=G.e) It (Xt c.hp.hf.gl hm)
  refine az (u:= .pointer (some ⟨G.g,i.toNat * G.t.size,none⟩)) (w':=w) ?_ (hC _ _ w hX ?_ hp)
  ·have pN:a.eval (.global G.g)= .pointer (some ⟨G.g,0,none⟩):=rfl
   simp [execOp,Instr.indexAt,pN,hiv,run_underlying hT,Fe,h0,h1,sizeOf,typeInfo,rR,ub,Instr.sureAddr,Ba]
  ·simp only [one,SV.conc,V1.conc,Fl]
   rw [gk _ _ rfl]
   simp [FX,NS]
 ·cases h
theorem Ve(c:Ctx B ρ s a w look ent A){T:TypeId}{x:Operand}{lo hi mx:Option Operand}(ho:o.op= .slice T x lo hi mx)(h:Wx P look A nid T x lo hi mx=some r)(kh: ∀ i∈r.new,s.used i=false)(ec: ∀ b∈r.nd,b=true)
  (hC:lr B s ρ r o a K):o.wp P a w K Q:=by
 obtain⟨dst,op,ty,pos,after,guard⟩:=o
 simp only at ho;subst ho
 unfold Wx at h
 split at h
 ·rename_i G hG
  split at h
  ·rename_i l m hl hm
   cases h
   obtain⟨rfl,CG,e,inf,hT,rR,Ba⟩:=SL hG
   have It:=kh nid (by simp)
   have h0:0≤l:=by simpa using ec (decide (0≤l)) (by simp)
   have h1:l≤m:=by simpa using ec (decide (l≤m)) (by simp)
   have h2:m≤G.xs.length:=by simpa using ec (decide (m≤G.xs.length)) (by simp)
   have hpart:=(Xt c.hp.hf.gl CG).part (l:=l.toNat) (m:=m.toNat) (z:=inf.size) (by omega) (by omega) Ba rfl
   obtain⟨hX,hp⟩:=ZQ c (e:=G.e) It hpart
   have hr:=Qx (P:=P) (w:=w) (isS:=false) (len:=G.xs.length) (cap:=G.xs.length) (yG c hl) (yG c hm) h0 h1 h2 (Nat.le_refl _)
   refine az (u:= .slice (if G.xs.length=l.toNat then some ⟨G.g,0,none⟩else(some (⟨G.g,0,none⟩:Addr)).map (·.add (l.toNat * inf.size))) (m.toNat - l.toNat) (G.xs.length - l.toNat)) (w':=w) ?_ (hC _ _ w hX ?_ hp)
   ·have pN:a.eval (.global G.g)= .pointer (some ⟨G.g,0,none⟩):=rfl
    simp only [execOp,pN,Option.map_none]
    simp only [Instr.sliceAt,Sem.run_bind,run_underlying hT,Result.andThen_ok,Instr.sureAddr,Sem.run_pure,hr,sizeOf,typeInfo,rR]
    split <;> simp_all
   ·simp only [one,SV.conc,V1.conc,Cell.conc]
    rw [gk _ _ (Ir hpart)]
  ·cases h
 ·cases h
end
end Go.SX
namespace Go.SX
open Go.RowKit
def ibs(s:ByteArray)(c:Int):Int:=Go.Lib.indexByte s.data.toList c.toNat.toUInt8
theorem aa3{fn:Func}(h:fn.name= "internal/bytealg.IndexByteString"):Extern.find fn=some Extern.BytealgIndexByte.indexByte:=by
 obtain⟨name⟩:=fn
 simp only at h
 subst h
 unfold Extern.find
 kernel_rfl
def ZK(P:Program)(k:FuncId):Bool:=
 match P.funcs[k]? with
 |some fn=>(fn.name== "internal/bytealg.IndexByteString")&&fn.body.isNone&&(Extern.findNext fn).isNone
 |none=>false
def acG(P:Program)(look:Nat→Option SS)(A:List (Nat×Bool))(f:Operand)(args:List Operand):Option Raw:=
 match evC look A f,args with
 |some (.val (.func (.func k) fi ca)),[x,y]=>match fi.toList,ca.toList,evC look A x,evC look A y with
  | [],[],some (.val (.string s)),some (.val (.int .u8 c))=>bif ZK P k then some (.ofV (one (.val (.int .i64 (ibs s c)))))else none
  |_,_,_,_=>none
 |_,_=>none
theorem acf{P:Program}{k:FuncId}(h:ZK P k=true)(s:ByteArray)(c:Int)(w:World):
  (callFunc k #[.string s,.int .u8 c]).run P w= .ok (.value (.int .i64 (ibs s c))) w:=by
 unfold ZK at h
 split at h
 ·rename_i fn hf
  simp only [w6,beq_iff_eq]at h
  obtain⟨⟨h1,h2⟩,h3⟩:=h
  rw [run_callFunc_indexByte hf (by rw [h1];decide) h2 (Option.isNone_iff_eq_none.1 h3) (aa3 h1),Go.Lib.run_indexByteString]
  rfl
 ·cases h
section
variable{P:Program}{tbl:List (PF P)}{s:St}{look:Nat→Option SS}{ent:Nat→Option Entry}{A:List (Nat×Bool)}{nid:Nat}{o:Oper}{r:Raw}{B:Base}{ρ:Nm}{a:Act}{w:World}{K:Act→World→Prop}{Q:Exit→Act→World→Prop}
theorem YH(c:Ctx B ρ s a w look ent A){cl:Call}{f:Operand}(ho:o.op= .call cl)(hf:cl.callee= .value f)(h:acG P look A f cl.args.toList=some r)
  (hC:lr B s ρ r o a K):o.wp P a w K Q:=by
 obtain⟨dst,op,ty,pos,after,guard⟩:=o
 simp only at ho;subst ho
 unfold acG at h
 split at h
 ·rename_i k fi ca x y hk uY
  split at h
  ·rename_i str v h1 h2 hx hy
   have e1:fi= #[]:=by rw [← w9 (xs:=fi),h1]
   have e2:ca= #[]:=by rw [← w9 (xs:=ca),h2]
   subst e1;subst e2
   cases gr:ZK P k with
   |false=>simp [gr]at h
   |true=>
    simp only [gr,cond_true]at h
    cases h
    have hkv:=(c.evC hk).1
    have pN:=(c.evC hx).1
    have Dh:=(c.evC hy).1
    simp only [Cell.conc]at hkv pN Dh
    have xT:cl.args.map a.eval= #[.string str,.int .u8 v]:=by
     rw [← w9 (xs:=cl.args.map a.eval),Array.toList_map,uY];simp [pN,Dh]
    refine az (w':=w) ?_ (lr.same (v:=one (.val (.int .i64 (ibs str v)))) rfl hC c.hp)
    simp [execOp,resolve,hf,Deferred.ofValue,hkv,invoke,xT,acf gr,one,SV.conc,V1.conc,Cell.conc]
  ·cases h
 ·cases h
end
end Go.SX
namespace Go.SX
open Go.RowKit
def Rf(P:Program)(S D:TypeId):Bool:=
 match P.underlying S,P.underlying D with
 |some (.slice e),some .string=>match P.underlying e with
  |some (.int .u8)=>true
  |_=>false
 |_,_=>false
def acY(P:Program)(look:Nat→Option SS)(ent:Nat→Option Entry)(A:List (Nat×Bool))(S D:TypeId)(x:Operand):Option Raw:=
 match evC look A x with
 |some (.ref id)=>match ent id with
  |some (.row _ _ (.int .u8) xs)=>bif Rf P S D then some (.ofV (one (.val (.string (strOfNums xs)))))else none
  |_=>none
 |_=>none
def PF.rawed{P:Program}:List (PF P)→Bool
 | []=>false
 |p::_=>Nat.beq p.k 999997
def acR(fr:Bool)(look:Nat→Option SS)(A:List (Nat×Bool))(x:Operand):Option Raw:=
 bif fr then(match x,ev look A x with
  | .tmp _,some (.one v)=>some (Raw.ofV (.one v))
  |_,_=>none)else none
def PF.viewed{P:Program}:List (PF P)→Bool
 | []=>false
 |p::_=>Nat.beq p.k 999996
theorem ach(t:CTy): ¬ t.size=0:=Nat.ne_of_gt (rE t)
def abC(fr:Bool)(P:Program)(look:Nat→Option SS)(ent:Nat→Option Entry)(A:List (Nat×Bool))(T:TypeId)(x:Operand)(lo hi mx:Option Operand):Option Raw:=
 bif fr then(match mx,hi,lo,evC look A x with
  |none,none,some y,some (.ref id)=>match ent id,evI look A y with
   |some (.row true _ t xs),some l=>bif uw P T t then some ⟨one (.vw id t.size l.toNat),[],[],[decide (0≤l),decide (l≤xs.length)]⟩else none
   |_,_=>none
  |_,_,_,_=>none)else none
def acB(look:Nat→Option SS)(A:List (Nat×Bool))(op:BinOp)(x y:Operand):Option Raw:=
 match op,evC look A x,evC look A y with
 | .add,some (.val (.string s)),some (.val (.string t))=>some ⟨one (.val (.string (s++t))),[],[],[decide (s.size + t.size≤9223372036854775807)]⟩
 |_,_,_=>none
def Ob(n:Nat):List (E (.int .i64)):=z8 n (0:Int)
theorem Mi(n:Nat):(Ob n).length=n:=z6
def YB(P:Program)(look:Nat→Option SS)(ent:Nat→Option Entry)(A:List (Nat×Bool))(ts:Array TypeId)(x:Operand):Option Raw:=
 match evC look A x,ts.toList with
 |some (.ref id),[T]=>match ent id,P.underlying T with
  |some (.row true e (.int .i64) xs),some (.slice e')=>match P.info? e' with
   |some inf=>match inf.zero with
    |some (.int .i64 0)=>some ⟨.tup [],[(id,.row true e (.int .i64) (Ob xs.length))],[],[]⟩
    |_=>none
   |none=>none
  |_,_=>none
 |_,_=>none
section
variable{P:Program}{tbl:List (PF P)}{s:St}{look:Nat→Option SS}{ent:Nat→Option Entry}{A:List (Nat×Bool)}{nid:Nat}{o:Oper}{r:Raw}{B:Base}{ρ:Nm}{a:Act}{w:World}{K:Act→World→Prop}{Q:Exit→Act→World→Prop}
theorem YJ{α:Type}{xs:List α}{i:Nat}{d x:α}(h:xs[i]? =some x):x=xs.getD i d:=by rw [List.getD_eq_getElem?_getD,h];rfl
theorem acg{S D:TypeId}(hT:Rf P S D=true){own:Bool}{id:Nat}{e:TypeId}{xs:List (E (.int .u8))}(hh:(Entry.row own e (.int .u8) xs).holds B ρ w id)
  (hf: ∀ b o,ρ.mem b=some o→w.heap[b]? =some o):(convert S D (ρ id)).run P w= .ok (.string (strOfNums xs)) w:=by
 unfold Rf at hT
 split at hT
 ·rename_i e' hS hD
  split at hT
  ·rename_i he
   have kg:PQ (ρ id)∧xs= []∨ ∃ b off cap,ρ id= .slice (some ⟨b,off,none⟩) xs.length cap:=by
    cases own with
    |false=>
     rcases hh with⟨h4,hn⟩ | ⟨b,off,cap,arr,T',fz,h4,_⟩
     ·exact .inl ⟨h4,hn⟩
     ·exact .inr ⟨_,_,_,h4⟩
    |true=>
     obtain⟨cs,h4,_⟩:=hh
     rcases h4.2 with⟨hv,hn⟩ | ⟨g,cap,cur,hv,_⟩
     ·exact .inl ⟨hv,List.eq_nil_of_length_eq_zero hn⟩
     ·exact .inr ⟨_,_,_,hv⟩
   rcases kg with⟨hz,hn⟩ | ⟨b,off,cap,hv⟩
   ·have e0:strOfNums xs=ByteArray.empty:=by rw [hn];rfl
    rw [e0]
    rcases hz with hz | ⟨d,hz⟩
    ·rw [hz];exact run_convert_bytes_nil w S e' hS he 0 0 D hD
    ·rw [hz,run_convert_bytes_string w S D e' (some d) 0 0 hS he hD]
     exact run_bytesToString w d 0 0 [] (run_loadCells_list w d [] (fun j v hj=>by simp at hj))
   ·rw [hv]
    refine run_convert_bytes_arg w S e' hS he b off xs.length cap xs rfl (fun i hi=> ?_) D hD
    have hx:xs[i]? =some xs[i]:=List.getElem?_eq_getElem hi
    obtain⟨chunk,hr,hc⟩:=VW hh hf hx
    simp only [Rep]at hr
    have:=hc 0 (.int .u8 xs[i]) (by rw [hr];rfl)
    rw [hv]at this
    simp only [FX,NS,CTy.size,Nat.mul_one,Nat.add_zero]at this
    rw [this]
    exact congrArg some (congrArg (Value.int .u8) (YJ (α:=Int) hx))
  ·cases hT
 ·cases hT
theorem Zr(c:Ctx B ρ s a w look ent A){S D:TypeId}{x:Operand}(ho:o.op= .convert S D x)(h:acY P look ent A S D x=some r)
  (hC:lr B s ρ r o a K):o.wp P a w K Q:=by
 obtain⟨dst,op,ty,pos,after,guard⟩:=o
 simp only at ho;subst ho
 unfold acY at h
 split at h
 ·rename_i id hx
  split at h
  ·rename_i own e xs he
   cases hT:Rf P S D with
   |false=>simp [hT]at h
   |true=>
    simp only [hT,cond_true]at h
    cases h
    have pN:=(c.evC hx).1
    simp only [Cell.conc]at pN
    obtain⟨hh,_,_⟩:=c.hp.he _ _ (c.hE _ _ he)
    refine az (w':=w) ?_ (lr.same (v:=one (.val (.string (strOfNums xs)))) rfl hC c.hp)
    simp [execOp,pN,acg hT hh c.hp.hf.dat,one,SV.conc,V1.conc,Cell.conc]
  ·cases h
 ·cases h
def SC(P:Program)(look:Nat→Option SS)(A:List (Nat×Bool))(T:TypeId)(x:Operand)(lo hi mx:Option Operand):Option Raw:=
 match mx,evC look A x with
 |none,some (.val (.slice none 0 0))=>match bnd look A lo 0,bnd look A hi 0,P.underlying T with
  |some l,some h,some (.slice e)=>match P.info? e with
   |some _=>some ⟨one (.val (.slice none 0 0)),[],[],[decide (0≤l),decide (l≤h),decide (h≤0)]⟩
   |none=>none
  |_,_,_=>none
 |_,_=>none
theorem Ty(c:Ctx B ρ s a w look ent A){T:TypeId}{x:Operand}{lo hi mx:Option Operand}(ho:o.op= .slice T x lo hi mx)(h:SC P look A T x lo hi mx=some r)
  (ec: ∀ b∈r.nd,b=true) (hC:lr B s ρ r o a K):o.wp P a w K Q:=by
 obtain⟨dst,op,ty,pos,after,guard⟩:=o
 simp only at ho;subst ho
 unfold SC at h
 split at h
 ·rename_i hx
  split at h
  ·rename_i l m e hl hm hT
   split at h
   ·rename_i inf rR
    cases h
    have h0:0≤l:=by simpa using ec (decide (0≤l)) (by simp)
    have h1:l≤m:=by simpa using ec (decide (l≤m)) (by simp)
    have h2:m≤0:=by simpa using ec (decide (m≤0)) (by simp)
    have pN:=(c.evC hx).1
    simp only [Cell.conc]at pN
    have hm':bnd look A hi ((0:Nat):Int)=some m:=hm
    have hr:=HF (P:=P) (w:=w) (b:=none) (len:=0) (cap:=0) hT rR (yG c hl) (yG c hm') h0 h1 (by simpa using h2) (Nat.le_refl _)
    obtain rfl:l=0:=by omega
    obtain rfl:m=0:=by omega
    refine az (w':=w) ?_ (lr.same (v:=one (.val (.slice none 0 0))) rfl hC c.hp)
    simp only [Int.toNat_zero]at hr
    simp [execOp,pN,hr,one,SV.conc,V1.conc,Cell.conc]
   ·cases h
  ·cases h
 ·cases h
def Wj(P:Program)(look:Nat→Option SS)(ent:Nat→Option Entry)(A:List (Nat×Bool))(nid:Nat)(ts:Array TypeId)(x y:Operand):Option Raw:=
 match evC look A x,evC look A y,ts.toList with
 |some (.val (.slice none 0 0)),some (.ref jd),[t1,t2]=>match ent jd with
  |some (.row _ _ t ys)=>match P.underlying t1 with
   |some (.slice e)=>match P.info? e with
    |some inf=>match inf.zero with
     |some z=>bif Nat.beq t1 t2&&Nat.beq inf.size t.size&&Nat.beq z.cells.size t.size then
       some ⟨one (.ref nid),[(nid,.row true e t ys)],[nid],[decide (ys.length≤9223372036854775807),decide (ys.length * inf.bytes≤140737488355328)]⟩
      else none
     |none=>none
    |none=>none
   |_=>none
  |_=>none
 |_,_,_=>none
theorem UZ(c:Ctx B ρ s a w look ent A){cl:Call}{x y:Operand}(ho:o.op= .call cl)(hb:cl.callee= .builtin .append)(uY:cl.args.toList= [x,y])(h:Wj P look ent A nid cl.argTypes x y=some r)(kh: ∀ i∈r.new,s.used i=false)
  (ec: ∀ b∈r.nd,b=true) (hC:lr B s ρ r o a K):o.wp P a w K Q:=by
 obtain⟨dst,op,ty,pos,after,guard⟩:=o
 simp only at ho;subst ho
 have xT:cl.args= #[x,y]:=by rw [← w9 (xs:=cl.args),uY]
 unfold Wj at h
 split at h
 ·rename_i jd t1 t2 hx hy WZ
  split at h
  ·rename_i own e2 t ys he2
   split at h
   ·rename_i e hT
    split at h
    ·rename_i inf rR
     split at h
     ·rename_i z hz
      cases gr:(Nat.beq t1 t2&&Nat.beq inf.size t.size&&Nat.beq z.cells.size t.size)with
      |false=>simp [gr]at h
      |true=>
       simp only [gr,cond_true]at h
       cases h
       simp only [w6]at gr
       obtain⟨⟨k1,k3⟩,k4⟩:=gr
       have k1:=q8 k1
       have k3:=q8 k3
       have k4:=q8 k4
       subst k1
       have n1:ys.length≤9223372036854775807:=by simpa using ec (decide (ys.length≤9223372036854775807)) (by simp)
       have n2:ys.length * inf.bytes≤140737488355328:=by simpa using ec (decide (ys.length * inf.bytes≤140737488355328)) (by simp)
       have Tk:cl.argTypes= #[t1,t1]:=by rw [← w9 (xs:=cl.argTypes),WZ]
       have pN:=(c.evC hx).1
       have Dh:=(c.evC hy).1
       simp only [Cell.conc]at pN Dh
       obtain⟨hh2,_,_⟩:=c.hp.he _ _ (c.hE _ _ he2)
       have It:s.used nid=false:=kh nid (by simp)
       have h0:xZ w e t.size (.slice none 0 0) 0 []:=Lb w e t.size
       have fin: ∀ v' w' cs',(Builtin.append_ #[t1,t1] ty #[.slice none 0 0,ρ jd]).run P w= .ok v' w'→xZ w' e t.size v' ys.length cs'→iT ρ.mem t cs' ys→Chg w w' (fun k=>k∈fZ (.slice none 0 0))→(∀ b∈fZ v',w.heap.size≤b∨b∈fZ (.slice none 0 0))→
         Oper.wp P ⟨dst,.call cl,ty,pos,after,guard⟩ a w K Q:=by
        intro v' w' cs' hr nQ oB hg MF
        obtain⟨hX,hp⟩:=c.hp.rowNew It ⟨hg.os,hg.tape,hg.output,hg.size,fun k hk _=>hg.block k hk (by simp [fZ])⟩ nQ oB (fun b hb=>(MF b hb).elim id (fun h=>by simp [fZ]at h))
        refine az (u:=v') (w':=w') ?_ (hC _ v' w' hX ?_ hp)
        ·simp [execOp,resolve,hb,invoke,builtin,xT,pN,Dh,Tk,hr]
        ·simp only [one,SV.conc,V1.conc,Cell.conc]
         rw [gk _ _ (qr nQ)]
       rcases GN hh2 c.hp.hf.dat with⟨hv,hn⟩ | ⟨b,off,cap,news,hv,oB,DR,MG,hcells⟩
       ·subst hn
        rcases hv with hv | ⟨b,hv⟩
        ·have hr:=AE (P:=P) (w:=w) t1 ty e inf t.size hT rR (.slice none 0 0) 0 [] h0
         rw [← hv]at hr
         exact fin _ _ [] (by rw [hv]at hr ⊢;exact hr) (by simpa using h0) (iT.nil _ _) (Chg.refl _ _) fun b hb=>by simp [fZ]at hb
        ·obtain⟨v',w',hr,g1,g2,g3⟩:=rD (P:=P) t1 ty e inf z t.size inf.bytes hT rR hz k3 rfl k4 (rE t) (.slice none 0 0) 0 [] h0 b 0 0 [] (by simp) (fun j u hj=>by simp at hj) (fun u hu=>by simp at hu) (tN (by simp)) (by simp)
         rw [← hv]at hr
         exact fin _ _ _ hr (by simpa using g1) (by simpa using iT.nil ρ.mem t) g2 g3
       ·obtain⟨v',w',hr,g1,g2,g3⟩:=rD (P:=P) t1 ty e inf z t.size inf.bytes hT rR hz k3 rfl k4 (rE t) (.slice none 0 0) 0 [] h0 ⟨b,off,none⟩ ys.length cap news oB.1 hcells oB.cell_one (tN (by omega)) (by simpa using n2)
        rw [← hv]at hr
        refine fin _ _ _ hr (by simpa using g1) (by simpa using oB) g2 g3
     ·cases h
    ·cases h
   ·cases h
  ·cases h
 ·cases h
def SD(tr:Bool)(P:Program)(look:Nat→Option SS)(ent:Nat→Option Entry)(A:List (Nat×Bool))(nid:Nat)(T:TypeId)(x y:Operand):Option Raw:=
 bif tr then
  match evC look A x,evC look A y with
  |some (.ptr id off),some (.val (.slice none 0 0))=>match ent id with
   |some (.box U cs)=>
    let f:=AZ P true T nid ⟨false,[.val (.slice none 0 0)]⟩
    bif wv P T off cs.length f.v.cs then some ⟨SF,(id,.box U (cs.take off++f.v.cs++cs.drop (off + f.v.cs.length)))::f.es,qg f.es,[]⟩else none
   |_=>none
  |_,_=>none
 else none
theorem Tz(c:Ctx B ρ s a w look ent A){tr:Bool}{T:TypeId}{x y:Operand}(ho:o.op= .store T x y)(h:SD tr P look ent A nid T x y=some r)(kh: ∀ i∈r.new,s.used i=false)
  (hC:lr B s ρ r o a K):o.wp P a w K Q:=by
 obtain⟨dst,op,ty,pos,after,guard⟩:=o
 simp only at ho;subst ho
 unfold SD at h
 cases tr with
 |false=>cases h
 |true=>
  simp only [cond_true]at h
  split at h
  ·rename_i id off hx hy
   split at h
   ·rename_i U cs he
    cases gr:wv P T off cs.length (AZ P true T nid ⟨false,[.val (.slice none 0 0)]⟩).v.cs with
    |false=>simp [gr]at h
    |true=>
     simp only [gr,cond_true]at h
     cases h
     have wV:=c.hE _ _ he
     have pN:=(c.evC hx).1
     have Dh:=(c.evC hy).1
     simp only [Cell.conc]at Dh
     obtain⟨ρ',hX,_,hp,_,_,LR⟩:=LM (P:=P) (tr:=true) (T:=T) (n:=nid) (v:=⟨false,[.val (.slice none 0 0)]⟩) c.hp (by intro c hc;simp only [j7]at hc;subst hc;trivial) kh
     have iU:=(c.hp.he _ _ wV).2.1
     have hlk:look? (AZ P true T nid ⟨false,[.val (.slice none 0 0)]⟩).es id=none:=by
      cases hl:look? (AZ P true T nid ⟨false,[.val (.slice none 0 0)]⟩).es id with
      |none=>rfl
      |some e=>
       have:=kh id (Uo hl)
       rw [iU]at this;cases this
     have hent':be s.ent (AZ P true T nid ⟨false,[.val (.slice none 0 0)]⟩).es id=some (.box U cs):=by simp only [be,hlk,wV]
     obtain⟨⟨b,h1,h2,_⟩,_,uL⟩:=hp.he _ _ hent'
     have hnid:ρ' id=ρ id:=hX.nm id iU
     have hvc:(Value.slice none 0 0).cells=((AZ P true T nid ⟨false,[.val (.slice none 0 0)]⟩).v.cs.map (Cell.conc ρ')).toArray:=by rw [LR];rfl
     have hr:=GO (P:=P) (ρ:=ρ') (w:=w) (b:=b) (off:=off) (v:= .slice none 0 0) gr (fun h=>by simpa using h) hvc h2
     obtain⟨hX2,hp2⟩:=hp.setBox hent' (ns:=cs.take off++(AZ P true T nid ⟨false,[.val (.slice none 0 0)]⟩).v.cs++cs.drop (off + (AZ P true T nid ⟨false,[.val (.slice none 0 0)]⟩).v.cs.length)) (fun c' hc=>by
      simp only [List.append_assoc,List.mem_append]at hc
      rcases hc with hc | hc | hc
      ·exact uL c' (List.mem_of_mem_take hc)
      ·exact Xs (U:=bq s.used (qg (AZ P true T nid ⟨false,[.val (.slice none 0 0)]⟩).es)) (by intro c hc;simp only [j7]at hc;subst hc;trivial) (fun i hi=>sf hi) c' hc
      ·exact uL c' (List.mem_of_mem_drop hc))
     have hbk:FX (ρ' id)=b:=by rw [h1];rfl
     rw [hbk]at hp2
     rw [Rw,← hnid,hbk]at pN
     refine Hh (w':=w.setRow b ((cs.take off++(AZ P true T nid ⟨false,[.val (.slice none 0 0)]⟩).v.cs++cs.drop (off + (AZ P true T nid ⟨false,[.val (.slice none 0 0)]⟩).v.cs.length)).map (Cell.conc ρ')).toArray) ?_
      (hC ρ' _ _ hX (SV.conc_ofValue ρ' undef).symm (by rw [ux]at hp2;exact hp2))
     have hr':(storeVar T ⟨b,off,none⟩ (.slice none 0 0)).run P w= .ok () (w.setRow b ((cs.take off++(AZ P true T nid ⟨false,[.val (.slice none 0 0)]⟩).v.cs++cs.drop (off + (AZ P true T nid ⟨false,[.val (.slice none 0 0)]⟩).v.cs.length)).map (Cell.conc ρ')).toArray):=by
      rw [hr];simp [List.map_take,List.map_drop]
     simp [execOp,Instr.storeAt,pN,Dh,Instr.sureAddr,hr']
   ·cases h
  ·cases h
theorem Zb(c:Ctx B ρ s a w look ent A){fr:Bool}{x:Operand}(ho:o.op= .move x)(h:acR fr look A x=some r)
  (hC:lr B s ρ r o a K):o.wp P a w K Q:=by
 obtain⟨dst,op,ty,pos,after,guard⟩:=o
 simp only at ho;subst ho
 unfold acR at h
 cases fr with
 |false=>cases h
 |true=>
  simp only [cond_true]at h
  split at h
  ·rename_i t v hx
   cases h
   have pN:=(c.ev hx).1
   refine az (w':=w) ?_ (lr.same (v:= .one v) rfl hC c.hp)
   simp [execOp,pN,Sem.run_pure]
  ·cases h
theorem Yi(c:Ctx B ρ s a w look ent A){fr:Bool}{T:TypeId}{x:Operand}{lo hi mx:Option Operand}(ho:o.op= .slice T x lo hi mx)(h:abC fr P look ent A T x lo hi mx=some r)
  (ec: ∀ b∈r.nd,b=true) (hC:lr B s ρ r o a K):o.wp P a w K Q:=by
 obtain⟨dst,op,ty,pos,after,guard⟩:=o
 simp only at ho;subst ho
 unfold abC at h
 cases fr with
 |false=>cases h
 |true=>
  simp only [cond_true]at h
  split at h
  ·rename_i y id hx
   split at h
   ·rename_i e t xs l he hl
    cases gr:uw P T t with
    |false=>simp [gr]at h
    |true=>
     simp only [gr,cond_true]at h
     cases h
     unfold uw at gr
     split at gr
     ·rename_i e' hT
      split at gr
      ·rename_i inf rR
       have Ba:=q8 gr
       have h0:0≤l:=by simpa using ec (decide (0≤l)) (by simp)
       have h1:l≤xs.length:=by simpa using ec (decide (l≤(xs.length:Int))) (by simp)
       obtain⟨hh,_,_⟩:=c.hp.he _ _ (c.hE _ _ he)
       have pN:=(c.evC hx).1
       simp only [Cell.conc]at pN
       have hsl: ∃ b cap,ρ id= .slice b xs.length cap∧xs.length≤cap:=by
        rcases GN hh c.hp.hf.dat with⟨hv,hn⟩ | ⟨b,off,cap,news,hv,_,DR,_⟩
        ·subst hn;obtain⟨b0,hb0⟩:=AO hv;exact⟨b0,0,hb0,Nat.le_refl _⟩
        ·exact⟨_,cap,hv,DR⟩
       obtain⟨b,cap,hv,DR⟩:=hsl
       have hb:bnd look A (some y) 0=some l:=hl
       have hr:=HF (P:=P) (w:=w) (b:=b) (len:=xs.length) (cap:=cap) (hi:=none) (h:=xs.length) hT rR (yG c hb) (.inl ⟨rfl,rfl⟩) h0 h1 (Int.le_refl _) DR
       refine az (w':=w) ?_ (lr.same (v:=one (.vw id t.size l.toNat)) rfl hC c.hp)
       simp only [execOp,pN,hv,one,SV.conc,V1.conc,Cell.conc,vwN,if_neg (ach t),CU]
       rw [Ba]at hr
       simp only [Option.map_none,Sem.run_bind,hr,Result.andThen_ok,Sem.run_pure,Int.toNat_natCast]
      ·cases gr
     ·cases gr
   ·cases h
  ·cases h
theorem Zf(H:Nat→Option Obj)(n:Nat):iT H (.int .i64) (z8 n (Value.int .i64 0)) (Ob n):=by
 refine⟨by rw [Mi,z6];exact(Nat.mul_one _).symm,fun i y hy=> ?_⟩
 have hy2:(z8 n (0:Int))[i]? =some y:=hy
 obtain⟨iM,hye⟩:=z7.1 hy2
 have hl:i < (z8 n (Value.int .i64 0)).length:=by simpa using iM
 have h0:(0:Int)=y:=by rw [← hye];exact(List.getElem_replicate _).symm
 simp only [Rep,CTy.size,Nat.mul_one]
 rw [List.drop_eq_getElem_cons hl,List.take_succ_cons,List.take_zero,List.getElem_replicate]
 exact congrArg (fun y=> [Value.int .i64 y]) h0
theorem Wo(c:Ctx B ρ s a w look ent A){cl:Call}{x:Operand}(ho:o.op= .call cl)(hb:cl.callee= .builtin .clear)(uY:cl.args.toList= [x])(h:YB P look ent A cl.argTypes x=some r)
  (hC:lr B s ρ r o a K):o.wp P a w K Q:=by
 obtain⟨dst,op,ty,pos,after,guard⟩:=o
 simp only at ho;subst ho
 have xT:cl.args= #[x]:=by rw [← w9 (xs:=cl.args),uY]
 unfold YB at h
 split at h
 ·rename_i id T hx WZ
  have Tk:cl.argTypes= #[T]:=by rw [← w9 (xs:=cl.argTypes),WZ]
  split at h
  ·rename_i e xs e' he hT
   split at h
   ·rename_i inf rR
    split at h
    ·rename_i hz
     cases h
     have wV:=c.hE _ _ he
     obtain⟨⟨cs,h1,h2,h3⟩,iU,_⟩:=c.hp.he _ _ wV
     have pN:=(c.evC hx).1
     simp only [Cell.conc]at pN
     have hzero: ∀ w',(zeroValue e').run P w'= .ok (.int .i64 0) w':=fun w'=>by simp [zeroValue,typeInfo,rR,hz]
     have kg:(Ob xs.length).length=xs.length:=Mi _
     have fin: ∀ W cs',(Builtin.clear_ #[T] ty #[ρ id]).run P w= .ok (.tuple #[]) W→xZ W e (CTy.int IntKind.i64).size (ρ id) (Ob xs.length).length cs'→iT ρ.mem (.int .i64) cs' (Ob xs.length)→Chg w W (fun k=>k∈fZ (ρ id))→
       Oper.wp P ⟨dst,.call cl,ty,pos,after,guard⟩ a w K Q:=by
      intro W cs' hr nQ oB hg
      obtain⟨hX,hp⟩:=c.hp.rowSet (xs':=Ob xs.length) wV hg nQ oB
      refine az (u:= .tuple #[]) (w':=W) ?_ (hC ρ _ W hX rfl (by simpa [Mh] using hp))
      simp [execOp,resolve,hb,invoke,builtin,xT,Tk,pN,hr]
     have oB:iT ρ.mem (.int .i64) (z8 xs.length (Value.int .i64 0)) (Ob xs.length):=Zf _ _
     rcases h1.2 with⟨hv,hn⟩ | ⟨g,cap,cur,hv,hc0,hg,DR,MG,Ba,MH⟩
     ·have hn:xs.length=0:=hn
      have DQ:cs= []:=List.length_eq_zero_iff.1 (by rw [h1.1,hn,Nat.zero_mul])
      have e0:Ob xs.length= []:=by rw [hn];rfl
      refine fin w [] ?_ (by rw [e0];exact⟨by simp,.inl ⟨hv,rfl⟩⟩) (by rw [e0];exact iT.nil _ _) (Chg.refl _ _)
      rcases hv with hv | ⟨d,hv⟩ <;> simp [Builtin.clear_,hv,run_underlying hT]
     ·have Ba:cur.size=cap:=by rw [Ba];exact Nat.mul_one _
      by_cases hn:xs.length=0
      ·have DQ:cs= []:=List.length_eq_zero_iff.1 (by rw [h1.1,hn,Nat.zero_mul])
       have e0:Ob xs.length= []:=by rw [hn];rfl
       refine fin w [] ?_ (by rw [e0];rw [hn,DQ]at h1;exact h1) (by rw [e0];exact iT.nil _ _) (Chg.refl _ _)
       rw [hv,hn];simp [Builtin.clear_,run_underlying hT]
      ·obtain⟨m,hm⟩: ∃ m,xs.length=m + 1:=⟨xs.length - 1,by omega⟩
       have WY:=run_storeCells_at P g 0 e (z8 xs.length (Value.int .i64 (0:Int))) 0 cur w hg (by simp;omega) (fun u hu=>by rw [List.eq_of_mem_replicate hu];rfl)
       obtain⟨W,hW⟩: ∃ W,W=w.setRow g (cur.toList.take 0++z8 xs.length (Value.int .i64 0)++cur.toList.drop (0 + xs.length)).toArray:=⟨_,rfl⟩
       have hzc:(Builtin.zeroCells (Value.int .i64 0).cells xs.length).toList=z8 xs.length (Value.int .i64 0):=by
        simp only [Value.cells,Builtin.zeroCells]
        apply List.ext_getElem
        ·simp
        ·intro i h1 h2
         simp [Nat.mod_one]
       refine fin W _ ?_ ?_ oB ?_
       ·rw [hv]
        rw [hm]at WY hzc hW ⊢
        have hst2:(storeCells ⟨g,0,none⟩ (z8 (m + 1) (Value.int .i64 0))).run P w= .ok () W:=by rw [hW];simpa using WY
        simp only [Builtin.clear_]
        simp [run_underlying hT,hzero,hzc,hst2]
       ·refine⟨by rw [Mi,z6];exact(Nat.mul_one _).symm,.inr ⟨g,cap,_,by rw [kg];exact hv,hc0,by rw [hW];exact setRow_heap w g _ _ e _ hg,by rw [kg];exact DR,MG,?_,?_⟩⟩
        ·simp only [List.size_toArray,w7,w8,z6,List.length_drop,Array.length_toList]
         show _=cap * 1
         omega
        ·show (_:List Value).take ((Ob xs.length).length * 1)=_
         rw [kg,Nat.mul_one];simp
       ·refine Chg.own (v:=ρ id) ?_ ?_
        ·rw [hv,hW]
         exact⟨rfl,rfl,rfl,by simp [World.setRow],fun k _ hk=>setRow_other w g k _ fun e=>hk (by simp [Value.ownBlock,e])⟩
        ·intro k hk
         rw [hv]at hk ⊢;simp only [Value.ownBlock,w5]at hk;rw [pO hc0,← hk];simp
    ·cases h
   ·cases h
  ·cases h
 ·cases h
theorem Yz(c:Ctx B ρ s a w look ent A){bop:BinOp}{T T':TypeId}{x y:Operand}(ho:o.op= .binOp bop T x y T')(h:acB look A bop x y=some r)(ec: ∀ b∈r.nd,b=true)(hC:lr B s ρ r o a K):o.wp P a w K Q:=by
 obtain⟨dst,op,ty,pos,after,guard⟩:=o
 simp only at ho;subst ho
 unfold acB at h
 split at h
 ·rename_i u v hx hy
  cases h
  have hz:u.size + v.size≤9223372036854775807:=by simpa using ec (decide (u.size + v.size≤9223372036854775807)) (by simp)
  have pN:=(c.evC hx).1
  have Dh:=(c.evC hy).1
  simp only [Cell.conc]at pN Dh
  refine az (w':=w) ?_ (lr.same (v:=one (.val (.string (u++v)))) rfl hC c.hp)
  simp [execOp,eqGuard,pN,Dh,binOp_string_add,run_string_add_sum w u v hz,one,SV.conc,V1.conc,Cell.conc]
 ·cases h
def QA(P:Program)(look:Nat→Option SS)(ent:Nat→Option Entry)(A:List (Nat×Bool))(nid:Nat)(T:TypeId)(x y:Operand):Option Raw:=
 match evC look A x,ev1 look A y with
 |some (.el id z i off),some v=>match ent id,v.cells? with
  |some (.row true e t xs),some ns=>bif Nat.beq z t.size&&(wv P T off t.size ns&& !(t.flat||Nat.beq off 0&&Nat.beq ns.length t.size))then
    match wC (be ent (Co t (xs[i]?.getD (tC t)) nid)) t ((qn t (xs[i]?.getD (tC t)) nid).take off++ns++(qn t (xs[i]?.getD (tC t)) nid).drop (off + ns.length))with
    |some (y',l)=>bif memN l id then none else some ⟨SF,((id,.row true e t (xs.set i y'))::frz (be ent (Co t (xs[i]?.getD (tC t)) nid)) l)++Co t (xs[i]?.getD (tC t)) nid,aK nid t.nsl,[decide (i < xs.length)]⟩
    |none=>none
   else none
  |_,_=>none
 |_,_=>none
theorem SE(c:Ctx B ρ s a w look ent A){T:TypeId}{x y:Operand}(ho:o.op= .store T x y)(h:QA P look ent A nid T x y=some r)(kh: ∀ i∈r.new,s.used i=false)(ec: ∀ b∈r.nd,b=true)(hC:lr B s ρ r o a K):o.wp P a w K Q:=by
 obtain⟨dst,op,ty,pos,after,guard⟩:=o
 simp only at ho;subst ho
 unfold QA at h
 split at h
 ·rename_i id z i off v hx hy
  split at h
  ·rename_i e t xs ns he VI
   cases gr:(Nat.beq z t.size&&(wv P T off t.size ns&& !(t.flat||Nat.beq off 0&&Nat.beq ns.length t.size)))with
   |false=>simp only [gr,cond_false]at h;cases h
   |true=>
    simp only [gr,cond_true]at h
    simp only [w6]at gr
    obtain⟨k1,k2,_⟩:=gr
    have:=q8 k1;subst this
    split at h
    ·rename_i y' l Kg
     cases hm:memN l id with
     |true=>simp [hm]at h
     |false=>
      simp only [hm,cond_false]at h
      cases h
      have hi:i < xs.length:=by simpa using ec (decide (i < xs.length)) (by simp)
      have wV:=c.hE _ _ he
      have pN:=(c.evC hx).1
      obtain⟨Dh,hyin⟩:=c.ev1 hy
      have hnin:=V1.cells?_inU hyin VI
      obtain⟨⟨cs0,p1,p2,p3⟩,hidu,_⟩:=c.hp.he _ _ wV
      obtain⟨ρ',m',f',k',e',r'⟩:=Mc t _ _ nid ρ (p2.2 i _ (LO (d:=tC t) hi))
      have Cc: ∀ id,s.used id=true→ρ' id=ρ id:=fun id iU=>k' id (by
       have: ¬ (nid≤id∧id < nid + t.nsl):=fun hh=>by
        have:=kh id (memN_mem.1 (mU.2 hh))
        rw [this]at iU;cases iU
       omega)
      obtain⟨hX0,hp0⟩:=c.hp.names (es:=Co t (xs[i]?.getD (tC t)) nid) (new:=aK nid t.nsl) Cc m' (hfp:=fun id _ _=>by rw [f']) fun id e he=>by
       obtain⟨h0,h3,h4⟩:=r' id e he
       rcases h0 with rfl | ⟨e0,t0,ys,rfl,hr⟩
       ·exact⟨trivial,sf (memN_mem.1 (mU.2 ⟨h3,h4⟩)),trivial,rfl⟩
       ·exact⟨by simp only [Entry.holds];rw [m'];exact hr,sf (memN_mem.1 (mU.2 ⟨h3,h4⟩)),trivial,rfl⟩
      have hE': ∀ j en,be ent (Co t (xs[i]?.getD (tC t)) nid) j=some en→be s.ent (Co t (xs[i]?.getD (tC t)) nid) j=some en:=fun j en hj=>by
       simp only [be]at hj ⊢
       cases hl:look? (Co t (xs[i]?.getD (tC t)) nid) j with
       |none=>rw [hl]at hj;exact c.hE _ _ hj
       |some en'=>rw [hl]at hj;exact hj
      have hidN:look? (Co t (xs[i]?.getD (tC t)) nid) id=none:=by
       cases hl:look? (Co t (xs[i]?.getD (tC t)) nid) id with
       |none=>rfl
       |some en=>
        obtain⟨_,h3,h4⟩:=r' id en hl
        have:=kh id (memN_mem.1 (mU.2 ⟨h3,h4⟩))
        rw [hidu]at this;cases this
      obtain⟨ρ1,n1,x1,h1⟩:=hp0.freezes hE' l
      have hnl:id∉l:=fun hh=>by rw [memN_mem.2 hh]at hm;cases hm
      have hent1:be (be s.ent (Co t (xs[i]?.getD (tC t)) nid)) (frz (be ent (Co t (xs[i]?.getD (tC t)) nid)) l) id=some (.row true e t xs):=by
       simp only [be,look?_frz_not hnl,hidN];exact wV
      obtain⟨⟨cs,g1,g2,g3⟩,_,_⟩:=h1.he _ _ hent1
      have oB:=EZ hE' h1 t _ _ _ Kg fun i hi=>hi
      have iM:=qO (z:=t.size) hi
      have iU:ρ1 id=ρ id:=(Nm.of_nm n1 id).trans (Cc id hidu)
      rcases g1.2 with⟨_,hn⟩ | ⟨g,cap,cur,hv,hc0,hg,DR,MG,Ba,MH⟩
      ·omega
      ·have DQ:cs0=cs:=by
        rcases p1.2 with⟨_,hn⟩ | ⟨g',cap',cur',hv',_,hg',_,_,_,htk'⟩
        ·omega
        ·rw [iU,hv']at hv
         have hgg:g'=g:=by simpa using (Value.slice.inj hv).1
         subst hgg
         have LR:cur'=cur:=by rw [hg']at hg;simpa using hg
         subst LR
         rw [← htk',← MH]
       subst DQ
       have hle2:xs.length * t.size≤cur.size:=by rw [Ba];exact Nat.mul_le_mul_right _ DR
       have hns':off + ns.length≤t.size:=by
        unfold wv at k2
        split at k2
        ·simp only [w6]at k2;exact j6 k2.1.2
        ·cases k2
       have hr:=GO (ρ:=ρ) (w:=w) (b:=g) (off:=i * t.size + off) (cur:=cur) k2 (fun h=>by omega) (V1.cells?_conc ρ VI) hg
       obtain⟨W,hW⟩: ∃ W,W=w.setRow g (cur.toList.take (i * t.size + off)++ns.map (Cell.conc ρ)++cur.toList.drop (i * t.size + off + ns.length)).toArray:=⟨_,rfl⟩
       rw [← hW]at hr
       have hgr:w.grownBy W (ρ1 id).ownBlock:=by
        rw [hv,hW]
        exact⟨rfl,rfl,rfl,by simp [World.setRow],fun k _ hk=>setRow_other w g k _ fun e=>hk (by simp [Value.ownBlock,e])⟩
       have hspl:=Ol cur.toList (ns.map (Cell.conc ρ)) (i * t.size) off t.size (xs.length * t.size) (by simpa using hns') iM (by simpa using hle2)
       have nQ:W.ownsRow 0 e t.size (ρ1 id) (xs.set i y').length ((cur.toList.take (i * t.size + off)++ns.map (Cell.conc ρ)++cur.toList.drop (i * t.size + off + ns.length)).take (xs.length * t.size)):=by
        refine⟨?_,.inr ⟨g,cap,(cur.toList.take (i * t.size + off)++ns.map (Cell.conc ρ)++cur.toList.drop (i * t.size + off + ns.length)).toArray,?_,Nat.zero_le _,?_,?_,MG,?_,?_⟩⟩
        ·simp only [j8,w8,w7,List.length_map,List.length_drop,Array.length_toList];omega
        ·rw [j8];exact hv
        ·rw [hW];exact setRow_heap w g _ _ e _ hg
        ·rw [j8];exact DR
        ·simp only [List.size_toArray,w8,w7,List.length_map,List.length_drop,Array.length_toList];omega
        ·rw [j8]
       have hnmap:ns.map (Cell.conc ρ')=ns.map (Cell.conc ρ):=rB Cc hnin
       have hds:iT ρ1.mem t ((cur.toList.take (i * t.size + off)++ns.map (Cell.conc ρ)++cur.toList.drop (i * t.size + off + ns.length)).take (xs.length * t.size)) (xs.set i y'):=by
        rw [List.length_map]at hspl
        rw [hspl,MH]
        refine iT.set g2 hi ?_
        rw [NN n1]at oB
        simp only [List.map_append,List.map_take,List.map_drop,← e',hnmap]at oB
        exact oB
       obtain⟨hX,hp⟩:=h1.rowSet hent1 (Chg.own hgr fun k hk=>by rw [hv]at hk ⊢;simp only [Value.ownBlock,w5]at hk;rw [pO hc0,← hk];simp) (Fw nQ) hds
       rw [ux,ux]at hp
       refine Hh (w':=W) ?_ (hC ρ1 _ W ((hX0.trans x1 fun _ h=>gm _ h).trans hX fun _ h=>gm _ h) (SV.conc_ofValue ρ1 undef).symm hp)
       rw [Fl]at pN
       rw [iU]at hv
       simp only [hv,FX,NS,Nat.zero_add]at pN
       simp [execOp,Instr.storeAt,pN,Dh,Instr.sureAddr,hr]
    ·cases h
  ·cases h
 ·cases h
end
end Go.SX
namespace Go.SX
open Go.RowKit
def PF.parts(P:Program):PF P where
 k:=999994
 F:=fun _ _=>none
 ok:=fun _ _ _ h=>by cases h
def PF.parted{P:Program}:List (PF P)→Bool
 | []=>false
 |p::_=>Nat.beq p.k 999994
def abq(fr:Bool)(P:Program)(look:Nat→Option SS)(ent:Nat→Option Entry)(A:List (Nat×Bool))(T:TypeId)(x:Operand)(lo hi mx:Option Operand):Option Raw:=
 bif fr then(match mx,lo,hi,evC look A x with
  |none,none,some y,some (.ref id)=>match ent id,evI look A y with
   |some (.row true _ t xs),some l=>bif uw P T t then some ⟨one (.vw id 0 l.toNat),[],[],[decide (0≤l),decide (l≤xs.length)]⟩else none
   |_,_=>none
  |_,_,_,_=>none)else none
def DU{α:Type}(xs:List α)(k:Nat)(ys:List α):List α:=xs.take k++(ys.take (xs.length - k)++xs.drop (k + (ys.take (xs.length - k)).length))
theorem Ii{α:Type}{xs ys:List α}{k:Nat}(h:k≤xs.length):(DU xs k ys).length=xs.length:=by
 simp only [DU,w7,w8,List.length_drop];omega
theorem RS{α:Type}{xs ys:List α}{k:Nat}(h:ys.take (xs.length - k)= []):DU xs k ys=xs:=by
 simp only [DU,h,List.length_nil,Nat.add_zero,List.nil_append,List.take_append_drop]
def aaO(P:Program)(look:Nat→Option SS)(ent:Nat→Option Entry)(A:List (Nat×Bool))(ts:Array TypeId)(x y:Operand):Option Raw:=
 match evC look A x,evC look A y,ts.toList with
 |some (.ref id),some (.ref id2),[T,_]=>match ent id,ent id2 with
  |some (.row true e (.int .i64) xs),some (.row _ _ (.int .i64) ys)=>bif uw P T (.int .i64)&& !Nat.beq id id2 then
    some ⟨one (.val (.int .i64 ((List.take (xs.length - 0) ys).length:Int))),[(id,.row true e (.int .i64) (DU xs 0 ys))],[],[]⟩else none
  |_,_=>none
 |some (.vw id z k),some (.vw id2 z2 m),[T,_]=>match ent id with
  |some (.row true e (.int .i64) xs)=>bif uw P T (.int .i64)&&(Nat.beq id id2&&(Nat.beq z 1&&Nat.beq z2 0))then
    some ⟨one (.val (.int .i64 ((List.take (xs.length - k) (List.take m xs)).length:Int))),[(id,.row true e (.int .i64) (DU xs k (List.take m xs)))],[],[decide (k≤xs.length),decide (m≤xs.length)]⟩else none
  |_=>none
 |_,_,_=>none
def TR(P:Program)(look:Nat→Option SS)(A:List (Nat×Bool))(nid:Nat)(ts:Array TypeId)(x y:Operand):Option Raw:=
 match evC look A x,evI look A y,ts.toList with
 |some (.val (.slice none 0 0)),some n,[T,T2]=>match P.underlying T,P.underlying T2 with
  |some (.slice e),some (.int _)=>match P.info? e,Ub P 12 e with
   |some inf,some t=>match inf.zero with
    |some z=>match wC (fun _=>none) t (z.cells.toList.map .val)with
     |some (x0,_)=>bif Nat.beq inf.size 1&&(Nat.beq t.size 1&&(t.flat&&Nat.beq z.cells.size 1))then
       some ⟨one (.ref nid),[(nid,.row true e t (z8 n.toNat x0))],[nid],[decide (1≤n),decide (n≤9223372036854775807),decide (n * (inf.bytes:Int)≤281474976710656)]⟩else none
     |none=>none
    |none=>none
   |_,_=>none
  |_,_=>none
 |_,_,_=>none
theorem iT.i64s{H:Nat→Option Obj}: ∀ {cs:List Value} {xs:List Int},iT H (.int .i64) cs xs→cs=xs.map (Value.int .i64):=by
 intro cs xs h
 refine List.ext_getElem? fun i=> ?_
 have hl:cs.length=xs.length:=by rw [h.1];exact Nat.mul_one _
 by_cases hi:i < xs.length
 ·have:=h.2 i xs[i] (List.getElem?_eq_getElem hi)
  simp only [Rep,CTy.size,Nat.mul_one]at this
  have h2:=congrArg (fun l=>l[0]?) this
  simp [List.getElem?_take,List.getElem?_drop]at h2
  simp [h2,List.getElem?_eq_getElem hi]
 ·rw [List.getElem?_eq_none (by omega),List.getElem?_eq_none (by simp;omega)]
theorem iT.to_i64s{H:Nat→Option Obj}(xs:List Int):iT H (.int .i64) (xs.map (Value.int .i64)) xs:=by
 refine⟨by rw [List.length_map];exact(Nat.mul_one _).symm,fun i x hx=> ?_⟩
 simp only [Rep,CTy.size,Nat.mul_one]
 obtain⟨iM,he⟩:=z7.1 hx
 have hl:i < (xs.map (Value.int .i64)).length:=by rw [List.length_map];exact iM
 rw [List.drop_eq_getElem_cons hl,List.take_succ_cons,List.take_zero,List.getElem_map]
 exact congrArg (fun y=> [Value.int .i64 y]) he
section
variable{P:Program}{tbl:List (PF P)}{s:St}{look:Nat→Option SS}{ent:Nat→Option Entry}{A:List (Nat×Bool)}{nid:Nat}{o:Oper}{r:Raw}{B:Base}{ρ:Nm}{a:Act}{w:World}{K:Act→World→Prop}{Q:Exit→Act→World→Prop}
theorem VB{g cap:Nat}{cur:Array Value}{e dT sT ty el:TypeId}{xs ys:List Int}{k:Nat}{dp sp:Option Addr}{dCap sCap:Nat}
  (hu:P.underlying dT=some (.slice el)) (hs:(P.info? el).map (·.size)=some 1)
  (hg:w.heap[g]? =some (.cells cur e (0,0))) (Ba:cur.size=cap) (DR:xs.length≤cap) (MH:cur.toList.take xs.length=xs.map (Value.int .i64)) (hk:k≤xs.length)
  (hdp:0 < xs.length - k→dp=some ⟨g,k,none⟩)
  (hsp:0 < ys.length→ ∃ ad,sp=some ad∧ ∀ j v,ys[j]? =some v→w.cell? (ad.add j)=some (.int .i64 v)):
  ∃ (W:World) (cur':Array Value),(Builtin.copy_ #[dT,sT] ty #[.slice dp (xs.length - k) dCap,.slice sp ys.length sCap]).run P w= .ok (.int .i64 ((ys.take (xs.length - k)).length:Int)) W∧
   Chg w W (fun b=>b=g)∧W.heap[g]? =some (.cells cur' e (0,0))∧cur'.size=cap∧cur'.toList.take xs.length=(DU xs k ys).map (Value.int .i64):=by
 have kg:(ys.take (xs.length - k)).length=Nat.min ys.length (xs.length - k):=by rw [w8];exact Nat.min_comm ..
 by_cases h0:(ys.take (xs.length - k)).length=0
 ·have hr:=run_copy_none (P:=P) w dT sT ty el dp sp (xs.length - k) dCap ys.length sCap hu hs (by rw [← kg];exact h0)
  refine⟨w,cur,?_,Chg.refl _ _,hg,Ba,?_⟩
  ·rw [h0];exact hr
  ·rw [RS (List.length_eq_zero_iff.1 h0)];exact MH
 ·have hmin:0 < Nat.min ys.length (xs.length - k):=by omega
  have hm1:Nat.min ys.length (xs.length - k)≤ys.length:=Nat.min_le_left ..
  have hm2:Nat.min ys.length (xs.length - k)≤xs.length - k:=Nat.min_le_right ..
  obtain⟨ad,rfl,hsrc⟩:=hsp (by omega)
  obtain rfl:=hdp (by omega)
  have hr:=run_copy_row (P:=P) w dT sT ty el g k (xs.length - k) dCap ad ys.length sCap cur e ((ys.take (xs.length - k)).map (Value.int .i64)) hu hs hg (by rw [List.length_map];exact kg)
   (fun j v hj=>by
    rw [List.getElem?_map,q9]at hj
    obtain⟨u,hu',rfl⟩:=hj
    rw [List.getElem?_take]at hu'
    split at hu'
    ·exact hsrc j u hu'
    ·cases hu') (by rw [List.length_map];omega) (fun v hv=>by obtain⟨u,_,rfl⟩:=List.mem_map.1 hv;rfl)
  refine⟨_,(cur.toList.take k++(ys.take (xs.length - k)).map (Value.int .i64)++cur.toList.drop (k + ((ys.take (xs.length - k)).map (Value.int .i64)).length)).toArray,?_,Chg.setRow w g _,setRow_heap w g cur _ e _ hg,?_,?_⟩
  ·rw [hr,List.length_map];rfl
  ·simp only [List.size_toArray,w7,w8,List.length_map,List.length_drop,Array.length_toList]
   rw [w8]at kg
   omega
  ·have hX: ∃ tl,cur.toList=xs.map (Value.int .i64)++tl:=⟨cur.toList.drop xs.length,by rw [← MH,List.take_append_drop]⟩
   obtain⟨tl,hX⟩:=hX
   have hkl:k + (ys.take (xs.length - k)).length≤xs.length:=by omega
   have e1:cur.toList.take k=(xs.take k).map (Value.int .i64):=by
    rw [hX,List.take_append_of_le_length (by rw [List.length_map];exact hk),List.map_take]
   have e2:cur.toList.drop (k + (ys.take (xs.length - k)).length)=(xs.drop (k + (ys.take (xs.length - k)).length)).map (Value.int .i64)++tl:=by
    rw [hX,List.drop_append_of_le_length (by rw [List.length_map];exact hkl),List.map_drop]
   show List.take xs.length (cur.toList.take k++(ys.take (xs.length - k)).map (Value.int .i64)++cur.toList.drop (k + ((ys.take (xs.length - k)).map (Value.int .i64)).length))=_
   rw [List.length_map,e1,e2]
   have e3:(xs.take k).map (Value.int .i64)++(ys.take (xs.length - k)).map (Value.int .i64)++((xs.drop (k + (ys.take (xs.length - k)).length)).map (Value.int .i64)++tl)=(DU xs k ys).map (Value.int .i64)++tl:=by
    simp only [DU,List.map_append,List.append_assoc]
   rw [e3,List.take_append_of_le_length (by rw [List.length_map,Ii hk];exact Nat.le_refl _),List.take_of_length_le (by rw [List.length_map,Ii hk];exact Nat.le_refl _)]
theorem XS(c:Ctx B ρ s a w look ent A){fr:Bool}{T:TypeId}{x:Operand}{lo hi mx:Option Operand}(ho:o.op= .slice T x lo hi mx)(h:abq fr P look ent A T x lo hi mx=some r)
  (ec: ∀ b∈r.nd,b=true) (hC:lr B s ρ r o a K):o.wp P a w K Q:=by
 obtain⟨dst,op,ty,pos,after,guard⟩:=o
 simp only at ho;subst ho
 unfold abq at h
 cases fr with
 |false=>cases h
 |true=>
  simp only [cond_true]at h
  split at h
  ·rename_i y id hx
   split at h
   ·rename_i e t xs l he hl
    cases gr:uw P T t with
    |false=>simp [gr]at h
    |true=>
     simp only [gr,cond_true]at h
     cases h
     unfold uw at gr
     split at gr
     ·rename_i e' hT
      split at gr
      ·rename_i inf rR
       have h0:0≤l:=by simpa using ec (decide (0≤l)) (by simp)
       have h1:l≤xs.length:=by simpa using ec (decide (l≤(xs.length:Int))) (by simp)
       obtain⟨hh,_,_⟩:=c.hp.he _ _ (c.hE _ _ he)
       have pN:=(c.evC hx).1
       simp only [Cell.conc]at pN
       have hsl: ∃ b cap,ρ id= .slice b xs.length cap∧xs.length≤cap∧(cap=0∨ ∃ g,b=some ⟨g,0,none⟩):=by
        obtain⟨cs,k1,_,_⟩:=hh
        rcases k1.2 with⟨hv,hn⟩ | ⟨g,cap,cur,hv,_,_,DR,_⟩
        ·obtain⟨b0,hb0⟩:=AO hv
         have hn0:xs.length=0:=hn
         exact⟨b0,0,by rw [hn0];exact hb0,by omega,.inl rfl⟩
        ·exact⟨_,cap,hv,DR,.inr ⟨g,rfl⟩⟩
       obtain⟨b,cap,hv,DR,hb0⟩:=hsl
       have hb:bnd look A (some y) (xs.length:Int)=some l:=hl
       have Xw:=yG c hb
       have hr:=HF (P:=P) (w:=w) (b:=b) (len:=xs.length) (cap:=cap) (lo:=none) (l:=0) hT rR (.inl ⟨rfl,rfl⟩) Xw (Int.le_refl _) h0 h1 DR
       have hbb:(if cap=(0:Int).toNat then b else b.map (·.add ((0:Int).toNat * inf.size)))=b:=by
        simp only [Int.toNat_zero,Nat.zero_mul]
        rcases hb0 with hc | ⟨g,rfl⟩
        ·rw [if_pos hc]
        ·simp [Addr.add]
       rw [hbb]at hr
       refine az (w':=w) ?_ (lr.same (v:=one (.vw id 0 l.toNat)) rfl hC c.hp)
       simp only [execOp,pN,hv,one,SV.conc,V1.conc,Cell.conc,vwN,CU]
       simp only [Int.toNat_zero,Nat.sub_zero]at hr
       simp only [Option.map_none,Sem.run_bind,hr,Result.andThen_ok,Sem.run_pure,if_true]
      ·cases gr
     ·cases gr
   ·cases h
  ·cases h
theorem ac1(c:Ctx B ρ s a w look ent A){dst:Option Nat}{ty:TypeId}{pos after guard}{cl:Call}{x y:Operand}(hb:cl.callee= .builtin .copy)(xT:cl.args= #[x,y]){id id2:Nat}{T T2 e e2 el:TypeId}{own:Bool}{xs ys:List Int}
  (Tk:cl.argTypes= #[T,T2]) (he:ent id=some (.row true e (.int .i64) xs)) (he2:ent id2=some (.row own e2 (.int .i64) ys)) (hu:P.underlying T=some (.slice el)) (hs:(P.info? el).map (·.size)=some 1)
  (hx:evC look A x=some (.ref id)) (hy:evC look A y=some (.ref id2))
  (hC:lr B s ρ ⟨one (.val (.int .i64 ((List.take (xs.length - 0) ys).length:Int))),[(id,.row true e (.int .i64) (DU xs 0 ys))],[],[]⟩ ⟨dst,.call cl,ty,pos,after,guard⟩ a K):
  Oper.wp P ⟨dst,.call cl,ty,pos,after,guard⟩ a w K Q:=by
 have wV:=c.hE _ _ he
 obtain⟨⟨cs,h1,h2,h3⟩,iU,_⟩:=c.hp.he _ _ wV
 have DQ:cs=xs.map (Value.int .i64):=iT.i64s h2
 have h1:xZ w e 1 (ρ id) (List.length (α:=Int) xs) cs:=h1
 have pN:=(c.evC hx).1
 have Dh:=(c.evC hy).1
 simp only [Cell.conc]at pN Dh
 have hsrcv: ∃ sp sCap,ρ id2= .slice sp ys.length sCap∧(0 < List.length ys→ ∃ ad,sp=some ad∧ ∀ j v,ys[j]? =some v→w.cell? (ad.add j)=some (.int .i64 v)):=by
  rcases GN (c.hp.he _ _ (c.hE _ _ he2)).1 c.hp.hf.dat with⟨hv,hn⟩ | ⟨b,off,cap,news,hv,oB,_,_,hcell⟩
  ·obtain⟨b0,hb0⟩:=AO hv
   have hn:ys= []:=hn
   rw [hn]
   exact⟨b0,0,hb0,fun h=>absurd h (Nat.lt_irrefl 0)⟩
  ·have hnews:news=ys.map (Value.int .i64):=iT.i64s oB
   refine⟨_,cap,hv,fun _=>⟨_,rfl,fun j v hj=>hcell j _ ?_⟩⟩
   rw [hnews,List.getElem?_map,hj];rfl
 obtain⟨sp,sCap,hyy,hsp⟩:=hsrcv
 have fin: ∀ (W:World) (cs':List Value),(Builtin.copy_ #[T,T2] ty #[ρ id,ρ id2]).run P w= .ok (.int .i64 ((List.take (xs.length - 0) ys).length:Int)) W→Chg w W (fun b=>b∈fZ (ρ id))→
   xZ W e 1 (ρ id) (List.length (α:=Int) (DU xs 0 ys)) cs'→cs'=(DU xs 0 ys).map (Value.int .i64)→Oper.wp P ⟨dst,.call cl,ty,pos,after,guard⟩ a w K Q:=by
  intro W cs' hr LS nQ hcs'
  have oB:iT ρ.mem (.int .i64) cs' (DU xs 0 ys):=by rw [hcs'];exact iT.to_i64s _
  obtain⟨hX,hp⟩:=c.hp.rowSet (t:= .int .i64) (w':=W) (xs':=DU xs 0 ys) wV LS nQ oB
  refine az (u:= .int .i64 ((List.take (xs.length - 0) ys).length:Int)) (w':=W) ?_ (hC ρ _ W hX rfl (by simpa [Mh] using hp))
  simp only [execOp,resolve,hb,invoke,builtin,xT,Tk,List.map_toArray,z1,List.map_nil,pN,Dh]
  simp [hr]
 have kg:=Ii (xs:=xs) (ys:=ys) (k:=0) (Nat.zero_le _)
 rcases h1.2 with⟨hv,hn⟩ | ⟨g,cap,cur,hv,hc0,hg,DR,MG,Ba,MH⟩
 ·obtain⟨b0,hb0⟩:=AO hv
  have hx0:xs= []:=List.length_eq_zero_iff.1 hn
  have e0:DU xs 0 ys=xs:=RS (by rw [hn];simp)
  have hr:=run_copy_none (P:=P) w T T2 ty el b0 sp 0 0 ys.length sCap hu hs (Nat.min_zero _)
  refine fin w cs ?_ (Chg.refl _ _) (by rw [e0];exact h1) (by rw [e0];exact DQ)
  rw [hb0,hyy,hr,hx0];simp [goInt]
 ·have Ba:cur.size=cap:=by rw [Ba];exact Nat.mul_one _
  have MH:cur.toList.take xs.length=xs.map (Value.int .i64):=by rw [← DQ,← MH];congr 1;exact(Nat.mul_one _).symm
  obtain⟨W,cur',hr,LS,hg',hsz',htk'⟩:=VB (P:=P) (w:=w) (ty:=ty) (sT:=T2) (k:=0) (ys:=ys) (dCap:=cap) (sCap:=sCap) (dp:=some ⟨g,0,none⟩) (sp:=sp) hu hs hg Ba DR MH (Nat.zero_le _) (fun _=>rfl) hsp
  refine fin W _ ?_ ⟨LS.os,LS.tape,LS.output,LS.size,fun k hk hnk=>LS.block k hk fun hkg=>hnk (by rw [hv,pO hc0,hkg];simp)⟩
   ⟨by rw [List.length_map];exact(Nat.mul_one _).symm,.inr ⟨g,cap,cur',by rw [kg];exact hv,hc0,hg',by rw [kg];exact DR,MG,by rw [hsz'];exact(Nat.mul_one _).symm,by rw [kg,← htk'];congr 1;exact Nat.mul_one _⟩⟩ rfl
  rw [hv,hyy]
  exact hr
theorem ac2(c:Ctx B ρ s a w look ent A){dst:Option Nat}{ty:TypeId}{pos after guard}{cl:Call}{x y:Operand}(hb:cl.callee= .builtin .copy)(xT:cl.args= #[x,y]){id k m:Nat}{T T2 e el:TypeId}{xs:List Int}
  (Tk:cl.argTypes= #[T,T2]) (he:ent id=some (.row true e (.int .i64) xs)) (hu:P.underlying T=some (.slice el)) (hs:(P.info? el).map (·.size)=some 1)
  (hx:evC look A x=some (.vw id 1 k)) (hy:evC look A y=some (.vw id 0 m)) (hk:k≤xs.length) (hm:m≤xs.length)
  (hC:lr B s ρ ⟨one (.val (.int .i64 ((List.take (xs.length - k) (List.take m xs)).length:Int))),[(id,.row true e (.int .i64) (DU xs k (List.take m xs)))],[],[decide (k≤xs.length),decide (m≤xs.length)]⟩ ⟨dst,.call cl,ty,pos,after,guard⟩ a K):
  Oper.wp P ⟨dst,.call cl,ty,pos,after,guard⟩ a w K Q:=by
 have wV:=c.hE _ _ he
 obtain⟨⟨cs,h1,h2,h3⟩,iU,_⟩:=c.hp.he _ _ wV
 have DQ:cs=xs.map (Value.int .i64):=iT.i64s h2
 have h1:xZ w e 1 (ρ id) (List.length (α:=Int) xs) cs:=h1
 have pN:=(c.evC hx).1
 have Dh:=(c.evC hy).1
 simp only [Cell.conc]at pN Dh
 have fin: ∀ (W:World) (cs':List Value),(Builtin.copy_ #[T,T2] ty #[CU (vwN 1 k (ρ id)),CU (vwN 0 m (ρ id))]).run P w= .ok (.int .i64 ((List.take (xs.length - k) (List.take m xs)).length:Int)) W→Chg w W (fun b=>b∈fZ (ρ id))→
   xZ W e 1 (ρ id) (List.length (α:=Int) (DU xs k (List.take m xs))) cs'→cs'=(DU xs k (List.take m xs)).map (Value.int .i64)→Oper.wp P ⟨dst,.call cl,ty,pos,after,guard⟩ a w K Q:=by
  intro W cs' hr LS nQ hcs'
  have oB:iT ρ.mem (.int .i64) cs' (DU xs k (List.take m xs)):=by rw [hcs'];exact iT.to_i64s _
  obtain⟨hX,hp⟩:=c.hp.rowSet (t:= .int .i64) (w':=W) (xs':=DU xs k (List.take m xs)) wV LS nQ oB
  refine az (u:= .int .i64 ((List.take (xs.length - k) (List.take m xs)).length:Int)) (w':=W) ?_ (hC ρ _ W hX rfl (by simpa [Mh] using hp))
  simp only [execOp,resolve,hb,invoke,builtin,xT,Tk,List.map_toArray,z1,List.map_nil,pN,Dh]
  simp [hr]
 have hml:(List.take m xs).length=m:=by rw [w8];omega
 have kg:=Ii (xs:=xs) (ys:=List.take m xs) (k:=k) hk
 rcases h1.2 with⟨hv,hn⟩ | ⟨g,cap,cur,hv,hc0,hg,DR,MG,Ba,MH⟩
 ·obtain⟨b0,hb0⟩:=AO hv
  have hk0:k=0:=by omega
  have hm0:m=0:=by omega
  subst hk0 hm0
  have e0:DU xs 0 (List.take 0 xs)=xs:=RS (by simp)
  have hr:=run_copy_none (P:=P) w T T2 ty el b0 b0 0 0 0 0 hu hs (Nat.min_zero _)
  refine fin w cs ?_ (Chg.refl _ _) (by rw [e0];exact h1) (by rw [e0];exact DQ)
  rw [hb0]
  simp [vwN,CU,hr,goInt]
 ·have Ba:cur.size=cap:=by rw [Ba];exact Nat.mul_one _
  have MH:cur.toList.take xs.length=xs.map (Value.int .i64):=by rw [← DQ,← MH];congr 1;exact(Nat.mul_one _).symm
  have hcell: ∀ j v,(List.take m xs)[j]? =some v→w.cell? ((⟨g,0,none⟩:Addr).add j)=some (.int .i64 v):=by
   intro j v hj
   rw [List.getElem?_take]at hj
   split at hj
   ·have hjl:=(z7.1 hj).1
    have h5:(cur.toList.take xs.length)[j]? =some (.int .i64 v):=by rw [MH,List.getElem?_map,hj];rfl
    rw [List.getElem?_take,if_pos hjl]at h5
    rw [ub,td hg]
    simpa using h5
   ·cases hj
  obtain⟨W,cur',hr,LS,hg',hsz',htk'⟩:=VB (P:=P) (w:=w) (ty:=ty) (sT:=T2) (k:=k) (ys:=List.take m xs) (dCap:=cap - k) (sCap:=cap) (dp:=if cap=k then some ⟨g,0,none⟩else(some (⟨g,0,none⟩:Addr)).map (·.add (k * 1))) (sp:=some ⟨g,0,none⟩) hu hs hg Ba DR MH hk
   (fun hpos=>by
    have Hy: ¬ cap=k:=by omega
    rw [if_neg Hy]
    simp only [Option.map_some,Nat.mul_one,ub,Nat.zero_add])
   (fun _=>⟨_,rfl,hcell⟩)
  refine fin W _ ?_ ⟨LS.os,LS.tape,LS.output,LS.size,fun b hb' hnk=>LS.block b hb' fun hkg=>hnk (by rw [hv,pO hc0,hkg];simp)⟩
   ⟨by rw [List.length_map];exact(Nat.mul_one _).symm,.inr ⟨g,cap,cur',by rw [kg];exact hv,hc0,hg',by rw [kg];exact DR,MG,by rw [hsz'];exact(Nat.mul_one _).symm,by rw [kg,← htk'];congr 1;exact Nat.mul_one _⟩⟩ rfl
  rw [hml]at hr
  rw [hv]
  simp only [vwN,CU,if_true,if_false,Nat.one_ne_zero]
  exact hr
theorem PP(v:Value)(n:Nat):(Builtin.zeroCells #[v] n).toList=z8 n v:=by
 simp only [Builtin.zeroCells]
 apply List.ext_getElem
 ·simp
 ·intro i h1 h2
  simp [Nat.mod_one]
theorem VM{α:Type}(v:α): ∀ m,oY (z8 m [v])=z8 m v
 |0=>rfl
 |m + 1=>by rw [List.replicate_succ,List.replicate_succ,oY,VM v m];rfl
theorem TS(c:Ctx B ρ s a w look ent A){cl:Call}{x y:Operand}(ho:o.op= .call cl)(hb:cl.callee= .builtin .append)(uY:cl.args.toList= [x,y])(h:TR P look A nid cl.argTypes x y=some r)
  (kh: ∀ i∈r.new,s.used i=false) (ec: ∀ b∈r.nd,b=true) (hC:lr B s ρ r o a K):o.wp P a w K Q:=by
 obtain⟨dst,op,ty,pos,after,guard⟩:=o
 simp only at ho;subst ho
 have xT:cl.args= #[x,y]:=by rw [← w9 (xs:=cl.args),uY]
 unfold TR at h
 split at h
 ·rename_i n T T2 hx hy WZ
  have Tk:cl.argTypes= #[T,T2]:=by rw [← w9 (xs:=cl.argTypes),WZ]
  split at h
  ·rename_i e k hT hT2
   split at h
   ·rename_i inf t rR ht
    split at h
    ·rename_i z hz
     split at h
     ·rename_i x0 ids Kg
      cases gr:(Nat.beq inf.size 1&&(Nat.beq t.size 1&&(t.flat&&Nat.beq z.cells.size 1)))with
      |false=>simp [gr]at h
      |true=>
       simp only [gr,cond_true]at h
       cases h
       simp only [w6]at gr
       obtain⟨k1,k2,_,k4⟩:=gr
       have k1:=q8 k1
       have k2:=q8 k2
       have k4:=q8 k4
       have n0:1≤n:=of_decide_eq_true (ec _ (List.mem_cons_self ..))
       have n1:n≤9223372036854775807:=of_decide_eq_true (ec _ (List.mem_cons_of_mem _ (List.mem_cons_self ..)))
       have n2:n * (inf.bytes:Int)≤281474976710656:=of_decide_eq_true (ec _ (List.mem_cons_of_mem _ (List.mem_cons_of_mem _ (List.mem_cons_self ..))))
       have pN:=(c.evC hx).1
       obtain⟨kl,Dh⟩:=c.evI hy
       simp only [Cell.conc]at pN
       obtain⟨m,rfl⟩: ∃ m:Nat,n=(m:Int):=⟨n.toNat,by omega⟩
       have hm2:m * inf.bytes≤281474976710656:=by rw [← Int.natCast_mul]at n2;omega
       have hr:=Lib.run_append_nil_zeros (P:=P) w T T2 ty e inf z kl k hT hT2 rR hz m (by omega) (by omega) n1 hm2
       have oB:=LL (ρ:=ρ) (H:=ρ.mem) t _ _ _ Kg
       rw [Is]at oB
       obtain⟨zv,hzv⟩: ∃ zv,z.cells= #[zv]:=by
        rcases hc:z.cells with⟨l⟩
        rw [hc]at k4
        match l,k4 with
        | [v],_=>exact⟨v,rfl⟩
       have hcap:=grownCap_ge w m 0 e
       have Ba:(Builtin.zeroCells z.cells m++Builtin.zeroCells z.cells (grownCap w m 0 e - m)).size=grownCap w m 0 e * t.size:=by
        rw [Array.size_append,size_zeroCells,size_zeroCells,k4,k2];omega
       have kg:(z8 (m:Int).toNat x0).length=m:=by simp
       have nQ:xZ (w.drew.alloc (.cells (Builtin.zeroCells z.cells m++Builtin.zeroCells z.cells (grownCap w m 0 e - m)) e)) e t.size (.slice (some ⟨w.heap.size,0,none⟩) m (grownCap w m 0 e)) (z8 (m:Int).toNat x0).length (z8 m zv):=by
        rw [kg]
        refine⟨by rw [z6,k2,Nat.mul_one],.inr ⟨w.heap.size,grownCap w m 0 e,_,rfl,by omega,heap_alloc_new w.drew _,hcap,?_,Ba,?_⟩⟩
        ·by_cases hml:m≤maxLen
         ·exact grownCap_le_maxLen w m 0 e hml
         ·exact absurd (tN (n:=m) (by omega)) hml
        ·rw [k2,Nat.mul_one,Array.toList_append,hzv,PP,PP,List.take_append_of_le_length (by simp),List.take_of_length_le (by simp)]
       have hrepl:iT ρ.mem t (z8 m zv) (z8 (m:Int).toNat x0):=by
        have h2:=iT.replicate oB m
        rw [hzv]at h2
        have h2:iT ρ.mem t (oY (z8 m [zv])) (z8 m x0):=h2
        rw [VM]at h2
        simpa using h2
       obtain⟨hX,hp⟩:=c.hp.rowNew (nid:=nid) (kh nid (by simp)) (w':=w.drew.alloc (.cells (Builtin.zeroCells z.cells m++Builtin.zeroCells z.cells (grownCap w m 0 e - m)) e))
        ⟨rfl,rfl,rfl,(World.grownBy_alloc w.drew _ none).size,fun q hq hn=>(World.grownBy_alloc w.drew _ none).block q hq hn⟩ nQ hrepl (fun b hb=>Nat.le_of_eq (Hv hb).symm)
       refine az ?_ (hC _ (.slice (some ⟨w.heap.size,0,none⟩) m (grownCap w m 0 e)) _ hX ?_ hp)
       ·simp only [execOp,resolve,hb,invoke,builtin,xT,Tk,List.map_toArray,z1,List.map_nil,pN,Dh]
        simp [hr]
       ·simp only [one,SV.conc,V1.conc,Cell.conc]
        rw [gk _ _ rfl]
     ·cases h
    ·cases h
   ·cases h
  ·cases h
 ·cases h
theorem Xo(c:Ctx B ρ s a w look ent A){cl:Call}{x y:Operand}(ho:o.op= .call cl)(hb:cl.callee= .builtin .copy)(uY:cl.args.toList= [x,y])(h:aaO P look ent A cl.argTypes x y=some r)
  (ec: ∀ b∈r.nd,b=true) (hC:lr B s ρ r o a K):o.wp P a w K Q:=by
 obtain⟨dst,op,ty,pos,after,guard⟩:=o
 simp only at ho;subst ho
 have xT:cl.args= #[x,y]:=by rw [← w9 (xs:=cl.args),uY]
 have hT1: ∀ T,uw P T (.int .i64)=true→ ∃ el,P.underlying T=some (.slice el)∧(P.info? el).map (·.size)=some 1:=by
  intro T gr
  unfold uw at gr
  split at gr
  ·rename_i e' hT
   split at gr
   ·rename_i inf rR
    exact⟨e',hT,by rw [rR,Option.map_some,q8 gr];rfl⟩
   ·cases gr
  ·cases gr
 unfold aaO at h
 split at h
 ·rename_i id id2 T T2 hx hy WZ
  have Tk:cl.argTypes= #[T,T2]:=by rw [← w9 (xs:=cl.argTypes),WZ]
  split at h
  ·rename_i e xs own e2 ys he he2
   cases gr:(uw P T (.int .i64)&& !Nat.beq id id2)with
   |false=>rw [gr]at h;cases h
   |true=>
    rw [gr]at h
    simp only [w6]at gr
    cases h
    obtain⟨el,hu,hs⟩:=hT1 T gr.1
    exact ac1 c hb xT Tk he he2 hu hs hx hy hC
  ·cases h
 ·rename_i id z k id2 z2 m T T2 hx hy WZ
  have Tk:cl.argTypes= #[T,T2]:=by rw [← w9 (xs:=cl.argTypes),WZ]
  split at h
  ·rename_i e xs he
   cases gr:(uw P T (.int .i64)&&(Nat.beq id id2&&(Nat.beq z 1&&Nat.beq z2 0)))with
   |false=>rw [gr]at h;cases h
   |true=>
    rw [gr]at h
    simp only [w6]at gr
    obtain⟨gr,hid2,hz,hz2⟩:=gr
    obtain rfl:=q8 hid2
    obtain rfl:=q8 hz
    obtain rfl:=q8 hz2
    cases h
    have hk:k≤xs.length:=by simpa using ec (decide (k≤xs.length)) (by simp)
    have hm:m≤xs.length:=by simpa using ec (decide (m≤xs.length)) (by simp)
    obtain⟨el,hu,hs⟩:=hT1 T gr
    exact ac2 c hb xT Tk he hu hs hx hy hk hm hC
  ·cases h
 ·cases h
def HD{α:Type}(z k:Nat)(l:List α):List α:=bif Nat.beq z 0 then l.take k else l.drop k
theorem iT.drop{H:Nat→Option Obj}{t:CTy}{cs:List Value}{xs:List (E t)}(h:iT H t cs xs){m:Nat}(hm:m≤xs.length):iT H t (cs.drop (m * t.size)) (xs.drop m):=by
 refine⟨by rw [List.length_drop,List.length_drop,h.1,Nat.sub_mul],fun i x hx=> ?_⟩
 rw [List.getElem?_drop]at hx
 have:=h.2 (m + i) x hx
 rw [List.drop_drop,← Nat.add_mul]
 exact this
theorem abE{id:Nat}{e:TypeId}{t:CTy}{xs:List (E t)}(h:(Entry.row true e t xs).holds B ρ w id)(hf: ∀ b o,ρ.mem b=some o→w.heap[b]? =some o){z k:Nat}(hz:z=0∨z=t.size)(hk:k≤xs.length):
  (PQ (vwN z k (ρ id))∧HD z k xs= [])∨ ∃ b off c news,vwN z k (ρ id)= .slice (some ⟨b,off,none⟩) (HD z k xs).length c∧iT ρ.mem t news (HD z k xs)∧
   (∀ j u,news[j]? =some u→w.cell? ((⟨b,off,none⟩:Addr).add j)=some u):=by
 rcases GN h hf with⟨hv,hn⟩ | ⟨b,off,cap,news,hv,oB,DR,_,hcells⟩
 ·left
  subst hn
  have hk0:k=0:=by simpa using hk
  subst hk0
  refine⟨?_,by simp only [HD];cases Nat.beq z 0 <;> rfl⟩
  rcases hv with hv | ⟨a,hv⟩
  ·left;rw [hv];simp only [vwN];split <;> rfl
  ·right;exact⟨a,by rw [hv];simp only [vwN];split <;> simp⟩
 ·right
  rw [hv]
  rcases hz with rfl | rfl
  ·refine⟨b,off,cap,news.take (k * t.size),?_,?_,fun j u hj=> ?_⟩
   ·simp only [vwN,HD,Nat.beq,cond_true,if_pos,w8,Nat.min_eq_left hk]
   ·exact oB.take hk
   ·rw [List.getElem?_take]at hj
    split at hj
    ·exact hcells j u hj
    ·cases hj
  ·have hs:=rE t
   have hb:Nat.beq t.size 0=false:=by
    cases hq:Nat.beq t.size 0 with
    |false=>rfl
    |true=>have:=q8 hq;omega
   have hp:HD t.size k xs=xs.drop k:=by simp only [HD,hb,cond_false]
   rw [hp]
   by_cases hc:cap=k
   ·have hl:(xs.drop k).length=0:=by rw [List.length_drop];omega
    have hx:=List.length_eq_zero_iff.1 hl
    refine⟨b,off,cap - k,[],?_,by rw [hx];exact iT.nil _ _,fun j u hj=>by simp at hj⟩
    simp only [vwN,if_neg (show ¬ t.size=0 by omega),if_pos hc,List.length_drop]
   ·refine⟨b,off + k * t.size,cap - k,news.drop (k * t.size),?_,oB.drop hk,fun j u hj=> ?_⟩
    ·simp only [vwN,if_neg (show ¬ t.size=0 by omega),if_neg hc,Option.map_some,ub,List.length_drop]
    ·rw [List.getElem?_drop]at hj
     have:=hcells _ u hj
     rw [ub]at this ⊢
     rw [Nat.add_assoc];exact this
def TP(P:Program)(look:Nat→Option SS)(ent:Nat→Option Entry)(A:List (Nat×Bool))(nid:Nat)(ts:Array TypeId)(x y:Operand):Option Raw:=
 match evC look A x,evC look A y,ts.toList with
 |some (.ref id),some (.vw jd z k),[t1,t2]=>match ent id,ent jd with
  |some (.row true e t xs),some (.row true _ t' ys)=>match P.underlying t1,P.info? e with
   |some (.slice e'),some inf=>match inf.zero with
    |some zz=>if h:t'=t then
      bif Nat.beq t1 t2&&Nat.beq e' e&&Nat.beq inf.size t.size&&Nat.beq zz.cells.size t.size&&(Nat.beq z 0||Nat.beq z t'.size)then
       some ⟨one (.ref nid),[(nid,.row true e t (xs++HD z k (h ▸ ys))),(id,.gone)],[nid],[decide (k≤ys.length),decide (xs.length + (HD z k ys).length≤9223372036854775807),decide ((xs.length + (HD z k ys).length) * inf.bytes≤140737488355328)]⟩
      else none
     else none
    |none=>none
   |_,_=>none
  |_,_=>none
 |_,_,_=>none
theorem TQ(c:Ctx B ρ s a w look ent A){cl:Call}{x y:Operand}(ho:o.op= .call cl)(hb:cl.callee= .builtin .append)(uY:cl.args.toList= [x,y])(h:TP P look ent A nid cl.argTypes x y=some r)(kh: ∀ i∈r.new,s.used i=false)(ec: ∀ b∈r.nd,b=true)(hC:lr B s ρ r o a K):o.wp P a w K Q:=by
 obtain⟨dst,op,ty,pos,after,guard⟩:=o
 simp only at ho;subst ho
 have xT:cl.args= #[x,y]:=by rw [← w9 (xs:=cl.args),uY]
 unfold TP at h
 split at h
 ·rename_i id jd z k t1 t2 hx hy WZ
  split at h
  ·rename_i e t xs e2 t' ys he1 he2
   split at h
   ·rename_i e' inf hT rR
    split at h
    ·rename_i zz hzz
     split at h
     ·rename_i ht
      subst ht
      cases gr:(Nat.beq t1 t2&&Nat.beq e' e&&Nat.beq inf.size t'.size&&Nat.beq zz.cells.size t'.size&&(Nat.beq z 0||Nat.beq z t'.size))with
      |false=>simp [gr]at h
      |true=>
       simp only [gr,cond_true]at h
       cases h
       simp only [w6,Bool.or_eq_true]at gr
       obtain⟨⟨⟨⟨k1,k2⟩,k3⟩,k4⟩,k5⟩:=gr
       have k1:=q8 k1
       have k2:=q8 k2
       have k3:=q8 k3
       have k4:=q8 k4
       have hz:z=0∨z=t'.size:=k5.imp q8 q8
       subst k1;subst k2
       have hk:k≤ys.length:=by simpa using ec (decide (k≤ys.length)) (by simp)
       have n1:xs.length + (HD z k ys).length≤9223372036854775807:=by simpa using ec (decide (xs.length + (HD z k ys).length≤9223372036854775807)) (by simp)
       have n2:(xs.length + (HD z k ys).length) * inf.bytes≤140737488355328:=by simpa using ec (decide ((xs.length + (HD z k ys).length) * inf.bytes≤140737488355328)) (by simp)
       have Tk:cl.argTypes= #[t1,t1]:=by rw [← w9 (xs:=cl.argTypes),WZ]
       have pN:=(c.evC hx).1
       have Dh:=(c.evC hy).1
       simp only [Cell.conc]at pN Dh
       have wV:=c.hE _ _ he1
       obtain⟨⟨cs,h1,h2,h3⟩,iU,_⟩:=c.hp.he _ _ wV
       obtain⟨hh2,_,_⟩:=c.hp.he _ _ (c.hE _ _ he2)
       have It:s.used nid=false:=kh nid (by simp)
       have fin: ∀ v' w' cs',(Builtin.append_ #[t1,t1] ty #[ρ id,CU (vwN z k (ρ jd))]).run P w= .ok v' w'→xZ w' e' t'.size v' (xs++HD z k ys).length cs'→iT ρ.mem t' cs' (xs++HD z k ys)→Chg w w' (fun k=>k∈fZ (ρ id))→(∀ b∈fZ v',w.heap.size≤b∨b∈fZ (ρ id))→
         Oper.wp P ⟨dst,.call cl,ty,pos,after,guard⟩ a w K Q:=by
        intro v' w' cs' hr nQ oB hg MF
        obtain⟨hX,hp⟩:=c.hp.rowTo wV It hg nQ oB MF
        refine az (u:=v') (w':=w') ?_ (hC _ v' w' hX ?_ hp)
        ·simp [execOp,resolve,hb,invoke,builtin,xT,pN,Dh,Tk,hr]
        ·simp only [one,SV.conc,V1.conc,Cell.conc]
         rw [gk _ _ (qr nQ)]
       rcases abE hh2 c.hp.hf.dat hz hk with⟨hv,hn⟩ | ⟨b,off,cap,news,hv,oB,hcells⟩
       ·rw [QF hv]at fin
        rw [hn]at fin n1 n2
        rcases hv with hv | ⟨b,hv⟩
        ·have hr:=AE (P:=P) (w:=w) t1 ty e' inf t'.size hT rR (ρ id) xs.length cs h1
         rw [← hv]at hr
         exact fin _ _ cs hr (by simpa using h1) (by simpa using h2) (Chg.refl _ _) fun b hb=> .inr hb
        ·obtain⟨v',w',hr,g1,g2,g3⟩:=rD (P:=P) t1 ty e' inf zz t'.size inf.bytes hT rR hzz k3 rfl k4 (rE t') (ρ id) xs.length cs h1 b 0 0 [] (by simp) (fun j u hj=>by simp at hj) (fun u hu=>by simp at hu) (tN (by simpa using n1)) (by simpa using n2)
         rw [← hv]at hr
         exact fin _ _ _ hr (by simpa using g1) (by simpa using h2) g2 g3
       ·obtain⟨v',w',hr,g1,g2,g3⟩:=rD (P:=P) t1 ty e' inf zz t'.size inf.bytes hT rR hzz k3 rfl k4 (rE t') (ρ id) xs.length cs h1 ⟨b,off,none⟩ (HD z k ys).length cap news oB.1 hcells oB.cell_one (tN n1) n2
        have hsl:CU (vwN z k (ρ jd))=vwN z k (ρ jd):=by rw [hv];rfl
        rw [hsl]at fin
        rw [← hv]at hr
        refine fin _ _ _ hr (by rw [w7];exact g1) (h2.append oB) g2 g3
     ·cases h
    ·cases h
   ·cases h
  ·cases h
 ·cases h
end
end Go.SX
namespace Go.SX
open Go.RowKit
section
variable{P:Program}{tbl:List (PF P)}{s:St}{look:Nat→Option SS}{ent:Nat→Option Entry}{A:List (Nat×Bool)}{nid:Nat}{o:Oper}{r:Raw}{B:Base}{ρ:Nm}{a:Act}{w:World}{K:Act→World→Prop}{Q:Exit→Act→World→Prop}
theorem PG: ∀ (n k:Nat),(aK n k).Nodup
 |n,0=>List.nodup_nil
 |n,k + 1=>List.nodup_cons.2 ⟨fun h=>by
   have:=(mU.1 (memN_mem.2 h)).1
   omega,PG (n + 1) k⟩
theorem Nz(c:Ctx B ρ s a w look ent A){k:FuncId}{args:List SV}{L:List Nat}(uL: ∀ v∈args,v.inU s.used)(hr:(execOp a.eval o).run P w= .ok (.enter k (args.map (SV.conc ρ)).toArray) w)
  (h:Xg tbl ent nid k args L=some r) (kh: ∀ i∈r.new,s.used i=false) (ec: ∀ b∈r.nd,b=true) (hC:lr B s ρ r o a K):o.wp P a w K Q:=by
 unfold Xg at h
 split at h
 ·rename_i args' es0 ha SM
  split at h
  ·rename_i out kp hout
   simp only at h
   split at h
   ·rename_i v es' hv hes'
    cases hnd':NQ L with
    |false=>simp [hnd']at h
    |true=>
     simp only [hnd',cond_true]at h
     cases h
     have hn:=NR hnd'
     have hlend:=lend (B:=B) (w:=w) c.hE c.hp hn SM
     have hc:=RO hout ec (memBig w s.ent ρ L) (subNm ρ L) w hlend
     have uY:args'.map (SV.conc (subNm ρ L))=args.map (SV.conc ρ):=
      AC ha fun x hx y hy=>SV.ren_conc (U:=s.used) (fun i j _ hj=>nP (xg hj)) (uL x hx) hy
     rw [uY]at hc
     unfold Oper.wp;rw [hr]
     refine hc.mono fun e w' ⟨ρc,hx,he,hl,hU,hpl⟩=> ?_
     subst he
     have hl0:es0.length=L.length:=(AB SM).1
     obtain⟨ρ',hX,hren,hp⟩:=adG (m:=out.new.length) c.hE c.hp hn SM kh (by rw [w7,hl,hl0]) hx hpl hes'
     refine hC ρ' _ w' hX (SV.ren_conc hren hU hv).symm ?_
     have Gb:=NA hout ec
     have hLn:=hn
     have hMn:(L++aK nid out.new.length).Nodup:=by
      refine List.nodup_append.2 ⟨hn,PG _ _,fun x hx y hy hxy=> ?_⟩
      subst hxy
      have h1:=kh x hy
      obtain⟨j,hj⟩:=List.mem_iff_getElem?.1 hx
      have hj2:j < es0.length:=by rw [hl0];exact(z7.1 hj).1
      obtain⟨i,e,q1,q2,_⟩:=HE c.hE SM (List.getElem?_eq_getElem hj2)
      rw [hj]at q1;cases q1
      have:=(c.hp.he _ _ q2).2.1
      rw [this]at h1;cases h1
     rw [Ym c.hE hMn fun q i e h1 h2 h3=>by
      simp only [Nat.zero_add,w6]at h3
      have hq:q < L.length:=j6 h3.1
      have hqk:=Gb q (memN_mem.1 h3.2)
      have hi:L[q]? =some i:=by rw [List.getElem?_append_left hq]at h1;exact h1
      have hq0:q < es0.length:=by omega
      obtain⟨e1,he1,hr1⟩:=(AB hes').2 q e h2
      rw [List.getElem?_append_left (by omega),hqk]at he1
      obtain⟨i2,q1,q2⟩:=(AB SM).2 q e1 he1
      rw [hi]at q1;cases q1
      unfold XV at q2
      split at q2
      ·rename_i e0 he0
       have:e=e0:=Entry.ren_round (fun a b d h1 h2=>by
        have:=xg h1
        simp only [SI]at h2
        rw [List.getElem?_append_left (z7.1 this).1,this]at h2
        exact(Option.some.inj h2).symm) q2 hr1
       rw [this];exact he0
      ·cases q2]
     exact hp
   ·cases h
  ·cases h
 ·cases h
theorem Md{k:FuncId}{args:Array Value}(h:XO P k=true):(callFunc k args).run P w= .ok (.enter k args) w:=by
 unfold XO at h
 split at h
 ·rename_i fn hfn
  simp only [w6,Bool.not_eq_true']at h
  obtain⟨h1,h2⟩:=h
  unfold callFunc
  have h3: ¬ fn.name= "runtime.NumGoroutine" :=by simpa using h1
  have h4:fn.body≠none:=fun e=>by rw [e]at h2;cases h2
  simp [program,Sem.run_bind,Sem.run,hfn,h3,h4]
 ·cases h
theorem Yy(caps:List Nat):(Xi caps).map (SV.conc ρ)=caps.map fun id=>Value.pointer (some ⟨FX (ρ id),0,none⟩):=by
 simp only [Xi,List.map_map];rfl
theorem ZZ(bs:List (Nat×Option Value)):(aaK bs).conc ρ= .agg (bs.map (bcV ρ)).toArray:=by
 simp only [aaK,SV.conc,V1.conc,List.map_map]
 congr 2
 refine List.map_congr_left fun p _=> ?_
 obtain⟨id,o⟩:=p
 cases o <;> rfl
theorem TV{U:Nat→Bool}: ∀ {bs:List (Nat×Option Value)},(∀ id∈Kf bs,U id=true)→(aaK bs).inU U
 | [],_=>fun x hx=>by cases hx
 |(id,none)::r,h=>fun x hx=>by
  rcases List.mem_cons.1 hx with rfl | hx
  ·exact h id (List.mem_cons_self ..)
  ·exact TV (bs:=r) (fun i hi=>h i (List.mem_cons_of_mem _ hi)) x hx
 |(id,some v)::r,h=>fun x hx=>by
  rcases List.mem_cons.1 hx with rfl | hx
  ·trivial
  ·exact TV (bs:=r) (fun i hi=>h i hi) x hx
theorem Xh(c:Ctx B ρ s a w look ent A){cl:Call}{f:Operand}(ho:o.op= .call cl)(hf:cl.callee= .value f)(h:aaL P tbl look ent A nid f cl.args.toList=some r)
  (kh: ∀ i∈r.new,s.used i=false) (ec: ∀ b∈r.nd,b=true) (hC:lr B s ρ r o a K):o.wp P a w K Q:=by
 obtain⟨dst,op,ty,pos,after,guard⟩:=o
 simp only at ho;subst ho
 unfold aaL at h
 split at h
 ·rename_i k fi ca vs hk VJ
  split at h
  ·rename_i h1 h2
   have e1:fi= #[]:=by rw [← w9 (xs:=fi),h1]
   have e2:ca= #[]:=by rw [← w9 (xs:=ca),h2]
   subst e1;subst e2
   cases gr:XO P k with
   |false=>simp [gr]at h
   |true=>
    simp only [gr,cond_true]at h
    obtain⟨g1,g2⟩:=KM c VJ
    have hkv:=(c.evC hk).1
    simp only [Cell.conc]at hkv
    refine Nz c g2 ?_ h kh ec hC
    have xT:cl.args.map a.eval=(vs.map (SV.conc ρ)).toArray:=by rw [← g1,← w9 (xs:=cl.args.map a.eval),Array.toList_map]
    simp [execOp,resolve,hf,Deferred.ofValue,hkv,invoke,xT,Md gr]
  ·cases h
 ·rename_i k caps vs hk VJ
  cases gr:XO P k with
  |false=>simp [gr]at h
  |true=>
   simp only [gr,cond_true]at h
   obtain⟨g1,g2⟩:=KM c VJ
   obtain⟨hkv,hku⟩:=c.evC hk
   simp only [Cell.conc]at hkv
   refine Nz c (fun v hv=> ?_) ?_ h kh ec hC
   ·rcases List.mem_append.1 hv with hv | hv
    ·exact g2 v hv
    ·simp only [Xi,List.mem_map]at hv
     obtain⟨id,iU,rfl⟩:=hv
     intro x hx;simp only [j7]at hx;subst hx;exact hku id iU
   ·have xT:cl.args.map a.eval=(vs.map (SV.conc ρ)).toArray:=by rw [← g1,← w9 (xs:=cl.args.map a.eval),Array.toList_map]
    simp [execOp,resolve,hf,Deferred.ofValue,hkv,invoke,xT,Md gr,Yy]
 ·rename_i k bs vs hk VJ
  cases gr:XO P k with
  |false=>simp [gr]at h
  |true=>
   simp only [gr,cond_true]at h
   obtain⟨g1,g2⟩:=KM c VJ
   obtain⟨hkv,hku⟩:=c.evC hk
   simp only [Cell.conc]at hkv
   refine Nz c (fun v hv=> ?_) ?_ h kh ec hC
   ·rcases List.mem_cons.1 hv with rfl | hv
    ·exact TV hku
    ·exact g2 v hv
   ·have xT:cl.args.map a.eval=(vs.map (SV.conc ρ)).toArray:=by rw [← g1,← w9 (xs:=cl.args.map a.eval),Array.toList_map]
    simp [execOp,resolve,hf,Deferred.ofValue,hkv,invoke,xT,Md gr,ZZ]
 ·cases h
end
def orE{α:Type}:Option α→Option α→Option α
 |some a,_=>some a
 |none,b=>b
theorem oP{α:Type}{x y:Option α}{r:α}(h:orE x y=some r):x=some r∨y=some r:=by
 cases x with
 |none=>exact .inr h
 |some a=>exact .inl h
def opV(P:Program)(tbl:List (PF P))(look:Nat→Option SS)(ent:Nat→Option Entry)(A:List (Nat×Bool))(nid:Nat)(o:Oper):Option Raw:=
 match o.op with
 | .move x=>orE (acR (PF.rawed tbl) look A x) (ZP P (PF.treed tbl) look A nid o.type x)
 | .assign x=>ZP P (PF.treed tbl) look A nid o.type x
 | .pick c x y=>abr look A c x y
 | .alloc T=>Ys P (PF.treed tbl) nid T
 | .box T x=>acA P (PF.treed tbl) look A nid T x
 | .load T x=>abh P look ent A nid T x
 | .store T x y=>orE (SD (PF.treed tbl) P look ent A nid T x y) (orE (QA P look ent A nid T x y) (Zq P look ent A nid T x y))
 | .fieldAddr T x f=>Qk P look A T x f
 | .field T x f=>orE (DX P look A o) (YI P look A T x f)
 | .nilCheck x=>orE (Si look A x) (DX P look A o)
 | .indexAddr T x ix=>orE (Qn P look ent A T x ix) (Ww P look A nid T x ix)
 | .index T x ix=>orE (YQ P look A T x ix) (DX P look A o)
 | .slice T x lo hi mx=>orE (SC P look A T x lo hi mx) <| orE (abq (PF.parted tbl) P look ent A T x lo hi mx) <| orE (abC (PF.viewed tbl||PF.parted tbl) P look ent A T x lo hi mx) (orE (Zn P look ent A nid (PF.marked tbl) T x lo hi mx) (Wx P look A nid T x lo hi mx))
 | .makeFunc fn fi ca=>Se look A fn fi ca
 | .makeSlice T l c=>Qq P (PF.treed tbl) look A nid T l c
 | .buildSlice T n ps=>Ny P (PF.treed tbl) look ent A nid T n ps
 | .build T ps=>orE (Yx P (PF.treed tbl) look A nid T ps) (DX P look A o)
 | .binOp op T x y _=>orE (acC look A op x y) (orE (acB look A op x y) (orE (eqV P look A op T x y) (orE (YF P look ent A op T x y) (DX P look A o))))
 | .extract x i=>match ev look A x with
  |some (.tup vs)=>vs[i]?.map fun v=>Raw.ofV (.one v)
  |_=>none
 | .call cl=>match cl.callee,cl.args.toList with
  | .builtin .len,[x]=>orE (acM P look ent A cl.argTypes x) (DX P look A o)
  | .builtin .append,[x,y]=>orE (Wk P look ent A nid cl.argTypes x y) (orE (Wj P look ent A nid cl.argTypes x y) (orE (TR P look A nid cl.argTypes x y) (TP P look ent A nid cl.argTypes x y)))
  | .builtin .clear,[x]=>orE (YB P look ent A cl.argTypes x) (DX P look A o)
  | .builtin .copy,[x,y]=>aaO P look ent A cl.argTypes x y
  | .builtin _,_=>DX P look A o
  | .value f,args=>orE (aaL P tbl look ent A nid f args) (acG P look A f args)
  |_,_=>none
 | .select _ _=>none
 | .convert S D x=>orE (acY P look ent A S D x) (DX P look A o)
 |_=>DX P look A o
section
variable{P:Program}{tbl:List (PF P)}{s:St}{look:Nat→Option SS}{ent:Nat→Option Entry}{A:List (Nat×Bool)}{nid:Nat}{o:Oper}{r:Raw}{B:Base}{ρ:Nm}{a:Act}{w:World}{K:Act→World→Prop}{Q:Exit→Act→World→Prop}
theorem VR(c:Ctx B ρ s a w look ent A)(h:opV P tbl look ent A nid o=some r)(kh: ∀ i∈r.new,s.used i=false)(ec: ∀ b∈r.nd,b=true)(hC:lr B s ρ r o a K):o.wp P a w K Q:=by
 unfold opV at h
 cases Fh:o.op <;> rw [Fh]at h <;> simp only at h
 case move x=>
  rcases oP h with h | h
  ·exact Zb c Fh h hC
  ·exact Tb c (.inl Fh) h kh hC
 case assign x=>exact Tb c (.inr Fh) h kh hC
 case pick cc x y=>exact XT c Fh h hC
 case alloc T=>exact Wi c Fh h kh hC
 case box T x=>exact Yw c Fh h kh hC
 case load T x=>exact XM c Fh h kh ec hC
 case store T x y=>
  rcases oP h with h | h
  ·exact Tz c Fh h kh hC
  ·rcases oP h with h | h
   ·exact SE c Fh h kh ec hC
   ·exact WS c Fh h kh ec hC
 case fieldAddr T x f=>exact RY c Fh h hC
 case field T x f=>
  rcases oP h with h | h
  ·exact rm c (fun _ _=>by simp [Fh]) h hC
  ·exact Wu c Fh h hC
 case nilCheck x=>
  rcases oP h with h | h
  ·exact Tq c Fh h hC
  ·exact rm c (fun _ _=>by simp [Fh]) h hC
 case indexAddr T x ix=>
  rcases oP h with h | h
  ·exact Sd c Fh h ec hC
  ·exact Vd c Fh h kh ec hC
 case index T x ix=>
  rcases oP h with h | h
  ·exact WC c Fh h ec hC
  ·exact rm c (fun _ _=>by simp [Fh]) h hC
 case slice T x lo hi mx=>
  rcases oP h with h | h
  ·exact Ty c Fh h ec hC
  rcases oP h with h | h
  ·exact XS c Fh h ec hC
  rcases oP h with h | h
  ·exact Yi c Fh h ec hC
  rcases oP h with h | h
  ·exact WR c Fh h kh ec hC
  ·exact Ve c Fh h kh ec hC
 case makeFunc fn fi ca=>exact Tm c Fh h hC
 case makeSlice T l m=>exact Sf c Fh h kh ec hC
 case buildSlice T n ps=>exact QQ c Fh h kh hC
 case build T ps=>
  rcases oP h with h | h
  ·exact Wm c Fh h kh hC
  ·exact rm c (fun _ _=>by simp [Fh]) h hC
 case binOp bop T x y T'=>
  rcases oP h with h | h
  ·exact YC c Fh h ec hC
  ·rcases oP h with h | h
   ·exact Yz c Fh h ec hC
   rcases oP h with h | h
   ·exact aae c Fh h hC
   rcases oP h with h | h
   ·exact Wt c Fh h ec hC
   ·exact rm c (fun _ _=>by simp [Fh]) h hC
 case extract x i=>
  obtain⟨dst,op,ty,pos,after,guard⟩:=o
  simp only at Fh;subst Fh
  split at h
  ·rename_i vs hx
   cases hv:vs[i]? with
   |none=>simp [hv]at h
   |some v=>
    simp [hv]at h;subst h
    refine az (u:=v.conc ρ) (w':=w) ?_ (lr.same (v:= .one v) rfl hC c.hp)
    have:=(c.ev hx).1
    simp [execOp,this,SV.conc,Instr.extract,hv]
  ·cases h
 case call cl=>
  split at h
  ·rename_i x Kg uY
   rcases oP h with h | h
   ·exact YU c Fh Kg uY h hC
   ·exact rm c (fun _ _=>by simp [Fh]) h hC
  ·rename_i x y Kg uY
   rcases oP h with h | h
   ·exact Va c Fh Kg uY h kh ec hC
   rcases oP h with h | h
   ·exact UZ c Fh Kg uY h kh ec hC
   rcases oP h with h | h
   ·exact TS c Fh Kg uY h kh ec hC
   ·exact TQ c Fh Kg uY h kh ec hC
  ·rename_i x Kg uY
   rcases oP h with h | h
   ·exact Wo c Fh Kg uY h hC
   ·exact rm c (fun _ _=>by simp [Fh]) h hC
  ·rename_i x y Kg uY
   exact Xo c Fh Kg uY h ec hC
  ·exact rm c (fun _ _=>by simp [Fh]) h hC
  ·rename_i f Kg
   rcases oP h with h | h
   ·exact Xh c Fh Kg h kh ec hC
   ·exact YH c Fh Kg h hC
  ·cases h
 case select=>cases h
 case convert S D x=>
  rcases oP h with h | h
  ·exact Zr c Fh h hC
  ·exact rm c (fun _ _=>by simp [Fh]) h hC
 all_goals exact rm c (fun _ _=>by simp [Fh]) h hC
end
end Go.SX
