import Derived.Test.YtocfkfhdcnjklaaGreatDoorLight
import Derived.Maps.RangeRun
import Derived.MapKept
open Bool renaming and_eq_true->j',not_eq_true'->K'
open Nat renaming le_of_ble_eq_true->q',beq->y',le_refl->A',ble->C',mul_le_mul_right->F',blt->J',lt_irrefl->h!,succ_mul->l!,zero_le->t!,add_assoc->x!,zero_add->z!,lt_or_ge->G!,add_mul->H!
open List renaming getElem?_eq_some_iff->z',mem_cons->B',range->G',getElem?_append_right->I',all_eq_true->L',append_assoc->O',mem_of_getElem?->P',getElem?_append_left->Q',map_cons->R',mem_append->U',getElem?_cons_zero->V',mem_range->W',mem_map->X',nodup_append->Y',getElem?_map->Z',nil_append->b!,length_append->c!,mem_or_eq_of_mem_set->e!,nodup_range->i!,not_mem_nil->j!,getElem?_cons_succ->k!,map_set->n!,getElem?_set_self->o!,nodup_cons->p!,filterMap_append->q!,mem_cons_of_mem->u!,getElem?_set_ne->v!,filterMap_cons->w!,filterMap_map->y!,getElem?_set->A!,map_toArray->B!,length_cons->C!,any_eq_true->D!,length_nil->E!,map_append->F!
open Option renaming map_eq_some_iff->D',map_some->T'
open Array renaming getElem?_setIfInBounds->M',eq_empty_of_size_eq_zero->a!,getElem?_eq_some_iff->d!,toList_push->g!,getElem?_modify->r!
namespace Go.Proofs.YtocfkfhdcnjklaaGreatDoor
section
open Go.RowKit
noncomputable section
def Lj (fr:Tr):Option Operand->Option (Option Nat)
 |none=>some none
 | some x=>match kR fr x with
   |some (.v (.int _ (.ofNat j)))=>some (some j)
   |_=>none
def fy (o:Option Nat)(d:Nat):Nat:=match o with
 |some x=>x
 |none=>d
def HO.with (cs:List SV):HO->HO
 | .blk _ ty=>.blk cs ty
 | .row _ n sz ty=>.row cs n sz ty
 |o=>o
def HO.wcs:HO->Option (List SV)
 | .blk cs _=>some cs
 | .row cs _ _ _=>some cs
 |_=>none
def zK (hp:dq)(g j:Nat)(cs:List SV):Option dq:=match mc hp g with
 | some o=>match o.wcs with
   | some all=>match C' (j+cs.length) all.length&&cs.all SV.one with
     |true=>some (zJ hp g (o.with (RA all j cs)))
     |false=>none
   |none=>none
 |none=>none
def rl (hp:dq)(g j n:Nat):Option (List SV):=match mc hp g with
 | some o=>match o.cs with
   | some all=>match C' (j+n) all.length with
     |true=>some ((all.drop j).take n)
     |false=>none
   |none=>none
 |none=>none
def X1 (hp:dq)(sz:Nat):SV->Option (Nat×List SV)
 | .v (.slice none 0 _)=>some (0,[])
 | .sl g off len _ _=>match y' len 0 with
   |true=>some (0,[])
   | false=>match rl hp g off (len*sz)with
     |some cs=>some (len,cs)
     |none=>none
 |_=>none
def oF (n kP sz:Nat)(z:Value):Bool:=C' n 9223372036854775807&&C' (n*kP) 140737488355328&&y' z.cells.size sz&&J' 0 sz
def zn (P:Program) (hp:dq) (lo t:Nat) (x y:SV):Option (SV×dq×Nat):=match iA P t with
 |none=>none
 | some e=>match jj P e with
   |none=>none
   | some (z,sz,kP)=>match X1 hp sz y with
     |none=>none
     | some (m,U)=>match x with
       | .v (.slice none 0 0)=>match y' m 0 with
         |true=>some (.v (.slice none 0 0),hp,lo)
         | false=>match oF (0+m) kP sz z&&U.all SV.one with
           |true=>some (.sl lo 0 (0+m) 0 true,(lo,.row ([]++U) (0+m) sz e)::hp,lo+1)
           |false=>none
       | .sl g off len cap own=>match mc hp g with
         | some (.row cs n Ot e')=>match y' Ot sz&&y' off (cap*sz)&&own&&C' (cap+(len+m)) n with
           | true=>match zK hp g (off+len*sz) U with
             |some df=>some (.sl g off (len+m) cap own,df,lo)
             |none=>none
           | false=>match own&&y' off 0&&y' cap 0&&y' len n&&y' Ot sz&&y' e' e&&oF (n+m) kP sz z&&U.all SV.one with
             |true=>some (.sl lo 0 (n+m) 0 true,Iw hp g lo (.row (cs++U) (n+m) sz e),lo+1)
             | false=>match !own&&y' len cap&&oF (len+m) kP sz z&&J' 0 m with
               | true=>match rl hp g off (len*sz)with
                 |some old=>some (.sl lo 0 (len+m) 0 true,(lo,.row (old++U) (len+m) sz e)::hp,lo+1)
                 |none=>none
               |false=>none
         | some (.blk cs e')=>match !own&&y' off 0&&y' len cap&&y' (cap*sz) cs.length&&y' e' e&&oF (cap+m) kP sz z&&U.all SV.one with
           |true=>some (.sl lo 0 (cap+m) 0 true,Iw hp g lo (.row (cs++U) (cap+m) sz e),lo+1)
           |false=>none
         |_=>none
       |_=>none
def FJ (P:Program) (hp:dq) (lo t:Nat) (x:SV) (l h m:Option Nat):Option (SV×dq×Nat):=match iA P t with
 |none=>none
 | some e=>match QT P e with
   |none=>none
   | some sz=>match x with
     | .v (.slice none 0 0)=>match y' (fy l 0) 0&&y' (fy h 0) 0&&y' (fy m 0) 0 with
       |true=>some (.v (.slice none 0 0),hp,lo)
       |false=>none
     | .sl g off len cap own=>match own with
       | false=>match C' (fy l 0) (fy h len)&&C' (fy h len) (fy m cap)&&C' (fy m cap) cap with
         |true=>some (.sl g (match y' (fy m cap) (fy l 0)with|true=>off|false=>off+fy l 0*sz) (fy h len-fy l 0) (fy m cap-fy l 0) false,hp,lo)
         |false=>none
       | true=>match mc hp g with
         |  some (.row _ n _ _)=>match m with
            | some U=>match C' (fy l 0) (fy h len)&&C' (fy h len) U&&C' (cap+U) n with
              |true=>some (.sl g (match y' U (fy l 0)with|true=>off|false=>off+fy l 0*sz) (fy h len-fy l 0) (U-fy l 0) false,hp,lo)
              |false=>none
            | none=>match C' (fy l 0) (fy h len)&&C' (cap+fy h len) n with
              | true=>match y' (fy l 0) 0,J' (cap+fy l 0) n with
                |true,_=>some (.sl g off (fy h len) cap true,hp,lo)
                |false,true=>some (.sl g (off+fy l 0*sz) (fy h len-fy l 0) (cap+fy l 0) true,hp,lo)
                |false,false=>some (.sl lo 0 (fy h len-fy l 0) 0 true,hp,lo+1)
              |false=>none
         |_=>none
     |_=>none
def BX (P:Program)(fr:Tr)(hp:dq)(lo:Nat)(t:Nat):Option (Option SV×dq×Nat):=match j1 P t with
 |some z=>some (some (.ptr lo 0),(lo,.blk (SV.of z).cells t)::hp,lo+1)
 |none=>none
def LR (P:Program)(fr:Tr)(hp:dq)(lo:Nat)(t:Nat)(x:Operand):Option (Option SV×dq×Nat):=match kR fr x with
 | some v=>match v.isOpq with
   |false=>some (some (.ptr lo 0),(lo,.blk v.cells t)::hp,lo+1)
   |true=>none
 |none=>none
def Qd3 (P:Program)(fr:Tr)(hp:dq)(lo:Nat)(t:Nat)(len:Nat)(U:Array (Nat×Operand)):Option (Option SV×dq×Nat):=match iA P t with
 | some e=>match QT P e,j1 P e,KH fr U.toList with
   | some sz,some z,some parts=>match C' (len*sz) 16777216,BA (Qcn sz) ((zp len sz z).map .v) parts with
     |true,some out=>some (some (.sl lo 0 len len false),(lo,.blk out e)::hp,lo+1)
     |_,_=>none
   |_,_,_=>none
 |none=>none
def C1 (P:Program)(fr:Tr)(hp:dq)(lo:Nat)(t:Nat)(x:Operand)(y:Operand):Option (Option SV×dq×Nat):=match kR fr x,kR fr y with
 | some (.ptr g off),some v=>match !v.isOpq&&(match QT P t with|some sz=>y' v.cells.length sz|none=>false)with
   | true=>match zK hp g off v.cells with
     |some df=>some (none,df,lo)
     |none=>none
   |false=>none
 |_,_=>none
def BZ (P:Program)(fr:Tr)(hp:dq)(lo:Nat)(t:Nat)(x:Operand)(l:Option Operand)(h:Option Operand)(m:Option Operand):Option (Option SV×dq×Nat):=match kR fr x,Lj fr l,Lj fr h,Lj fr m with
 | some v,some U,some h',some m'=>match m'.isNone||h'.isSome with
   | true=>match FJ P hp lo t v U h' m' with
     |some (r,df,du)=>some (some r,df,du)
     |none=>none
   |false=>none
 |_,_,_,_=>none
def xE (P:Program)(fr:Tr)(hp:dq)(lo:Nat)(xs:Array Operand)(ts:Array Nat):Option (Option SV×dq×Nat):=match xs.toList,ts.toList with
 | [x,y],[t,U]=>match kR fr x,kR fr y,y' t U with
   | some v,some u,true=>match zn P hp lo t v u with
     |some (r,df,du)=>some (some r,df,du)
     |none=>none
   |_,_,_=>none
 |_,_=>none
def F6 (P:Program)(fr:Tr)(hp:dq)(lo:Nat):Op->Option (Option SV×dq×Nat)
 | .alloc t=>BX P fr hp lo t
 | .box t x=>LR P fr hp lo t x
 | .buildSlice t len U=>Qd3 P fr hp lo t len U
 | .store t x y=>C1 P fr hp lo t x y
 | .slice t x l h m=>BZ P fr hp lo t x l h m
 | .call {callee:=.builtin .append,args:=xs,argTypes:=ts}=>xE P fr hp lo xs ts
 |_=>none
section GJ
variable {P:Program} {C:Ctx} {n:FD} {ρ:Env} {E:List Value} {fr:Tr} {hp:dq} {S:List (Nat×Value)} {H:List Fact}
variable {w:World}{sz t m ty e lo hi c len j off kP cap du g b:Nat}{df:dq}{p:Option Addr}{xs vs:List Value}{cs:List SV}{r y:SV}{z v x u:Value}{l h:Option Nat}{lv hv mv:Option Value}
theorem Qcr:∀(cs l:List Value)(j k:Nat),(Jr l j cs).take k=Jr (l.take k) j cs
 |[],_,_,_=>rfl
 | c::cs,l,j,k=>by
   unfold Jr;rw[Qcr cs,List.take_set]
theorem mQ (hd:jQ ρ E hp H)(h:rl hp g j m=some cs):∃b c vs,ρ g=some (b,c,0)/\SV.dens ρ E cs=some vs/\cs.length=m/\∀w,Ql C [] H w->qV w b j vs:=by
 unfold rl at h;split at h
 ·rename_i o ho;split at h
  ·rename_i all U;split at h
   ·rename_i hle;cases h;obtain⟨k,φ,h1,h2,_,_⟩:=OM hd ho;obtain⟨b,c,vs,h3,h4,h5⟩:=HO.cells_at h2 U;have:=q' hle;refine⟨b,c,_,h3,QcH m (QcG j h4),by simp;omega,λw ⟨F,N,hi⟩=>?_⟩;have:=QcO (j:=j) (h5 _ _ _ (hi.owns k _ h1)) rfl (sz:=m);rwa [z!]at this
   · cases h
  · cases h
 · cases h
theorem rm (hd:jQ ρ E hp H) (h:zK hp g j cs=some df) (hx:SV.dens ρ E cs=some xs):
  ∃b c,ρ g=some (b,c,0)/\∃H',jQ ρ E df H'/\∀w,Ql C [] H w->(storeCells ⟨b,j,none⟩ xs 0).run P w=.ok () (HH w b j xs)/\Ql C [] H' (HH w b j xs):=by
 unfold zK at h;split at h
 ·rename_i o ho;split at h
  ·rename_i all fe;split at h
   ·rename_i hb;cases h;simp only[j']at hb;have hle:=q' hb.1;obtain⟨k,φ,h1,h2,h3,_⟩:=OM hd ho;have PZ:=oG hx hb.2;have hlen:=B3 hx;cases o with
    | blk vS ty=>
      cases fe;obtain⟨b,c,vs,h4,U,rfl⟩:=h2;refine⟨b,c,h4,_,h3 ρ _ (.blk b (wL vs j xs) ty) (λ_ _ h=>h) ⟨b,c,_,h4,tY j U hx,rfl⟩,λw hw=>⟨?_,hw.store j h1 (by rw[hlen,B3 U];omega) rfl rfl⟩⟩;obtain⟨F,N,hi⟩:=hw;have:=Zw (P:=P) xs vs j 0 w (hi.owns k _ h1).2 (by rw[hlen,B3 U];omega) PZ;simpa using this
    | row vS m sz ty=>
      cases fe;obtain⟨b,c,vs,h4,U,rfl⟩:=h2;have LU:=B3 U;refine⟨b,c,h4,_,h3 ρ _ (A7 ty sz b m c (wL vs j xs)) (λ_ _ h=>h) ⟨b,c,_,h4,tY j U hx,rfl⟩,λw hw=>?_⟩;obtain⟨F,N,hi⟩:=hw;have bp:=(z'.1 h1).1;obtain⟨hNb,gw⟩:=hi.owns k _ h1;have hol:=gw.1;rcases gw.2 with⟨h0,_⟩|⟨g',cap,cur,hv,hbg,hg,AQ,mn,sQ,hU⟩
      · cases h0
      ·cases hv;have hg':w.heap[b]? =some (.cells cur.toList.toArray ty):=by simpa using hg
       have hmc:m*sz<=c*sz:=F' _ AQ;have GK:j+xs.length<=m*sz:=by rw[<-hol,LU,hlen];exact hle
       have hr:=Zw (P:=P) xs cur.toList j 0 w hg' (by simp;omega) PZ;refine⟨by simpa using hr,F,N,hi.set k bp ((Qbw b xs j w).mono λi _ e=>by subst e;exact hNb) _ ⟨hNb,?_⟩⟩;have hs:=Qbv xs cur.toList j w hg';refine⟨?_,.inr ⟨b,c,_,rfl,t! _,hs,AQ,mn,?_,?_⟩⟩
       ·rw[<-Qau _ _ _ an,<-hU,<-Qcr,QaY xs cur.toList j (by simp;omega)];simp;omega
       · rw[QaY xs cur.toList j (by simp;omega)];simp;omega
       ·simp only[List.toList_toArray];rw[Qcr,hU,Qau _ _ _ an]
    |mp es c=>cases fe
    |it m since seen lG=>cases fe
    |ro cs=>cases fe
   · cases h
  · cases h
 · cases h
def wY (C:Ctx)(ρ:Env)(E:List Value)(lo hi:Nat)(r:Option SV)(df:dq)(du:Nat)(nx:Next)(w':World):Prop:=
 ∃ U H',Ext ρ U lo hi/\jQ U E df H'/\nO U du hi/\lo<=du/\Ql C [] H' w'/\match r with
   |some v=>∃x,nx=.value x/\v.den U E=some x
   |none=>nx=.skip
theorem U2 {H':List Fact} (hf:nO ρ lo hi)(U:jQ ρ E df H')(hw:Ql C [] H' w)(hr:r.den ρ E=some x):wY C ρ E lo hi (some r) df lo (.value x) w:=
 ⟨ρ,H',Ext.refl _ _ _,U,hf,A' _,hw,x,rfl,hr⟩
theorem pU (r:SV) (hf:nO ρ lo hi)(bp:lo+1<=hi)(hd:jQ ρ E hp H)(hw:Ql C [] H w)(hx:SV.dens ρ E cs=some xs)(hr:∀U:Env,U lo=some (w.heap.size,off,0)->r.den U E=some x):
  wY C ρ E lo hi (some r) ((lo,.blk cs ty)::hp) (lo+1) (.value x) (w.alloc (.cells xs.toArray ty)):=by
 have hg:=hf lo (A' _) an;have he:=Env.put_ext (e:=(w.heap.size,off,0)) hg (show lo<hi by omega);refine⟨ρ.put lo (w.heap.size,off,0),.blk w.heap.size xs ty::H,he,⟨⟨_,_,xs,Env.put_same,SV.dens_mono he.le _ _ hx,rfl⟩,hd.mono he.le⟩,Env.put_free hf,an,?_,x,rfl,hr _ Env.put_same⟩;have:=hw.alloc xs.toArray ty;simpa using this
theorem Ql.swap {w w':World} (hw:Ql C [] H w) {k:Nat} {ψ:Fact} {v:Value} {φ:Fact} (hk:H[k]? =some ψ)(hN:∀N F,ψ.op N F w->∀j,v.ownBlock=some j->N j)(iQ:w.grownBy w' v.ownBlock)(b:Nat)
  (hb:v.ownBlock=some b\/(b=w.heap.size/\b<w'.heap.size)) (ku:∀(N F:ep),N b->φ.op N F w'):Ql C [] (H.set k φ) w':=by
 obtain⟨F,N,hi⟩:=hw;have bp:=(z'.1 hk).1;have U:=hN _ _ (hi.owns k _ hk);have hM:Mod (N k) w w':=⟨iQ.os,iQ.tape,iQ.output,iQ.size,λj hj hn=>iQ.block j hj λe=>hn (U j e.symm)⟩
 exact ⟨F,_,hi.set' k bp hM (λj=>j=b) (λi e=>by
  subst e;rcases hb with hb|hb;· exact .inl (U _ hb)
  · exact .inr ⟨an,hb.2⟩) φ (ku _ F rfl)⟩
theorem IW {ys:List SV} (hd:jQ ρ E hp H)(h:X1 hp sz y=some (m,ys))(hu:y.den ρ E=some u):
  ∃p c vs,u=.slice p m c/\SV.dens ρ E ys=some vs/\vs.length=m*sz/\∀w,Ql C [] H w->(0<m->∃b off,p=some ⟨b,off,none⟩/\qV w b off vs):=by
 unfold X1 at h;split at h;· cases h;cases hu;exact⟨_,_,[],rfl,rfl,ax,λ_ _ h=>absurd h an⟩
 ·rename_i g off len cap own;simp only[SV.den,D']at hu;obtain⟨e,h1,rfl⟩:=hu;split at h
  ·rename_i h0;cases h;have:=Qs h0;subst this;exact⟨_,_,[],rfl,rfl,ax,λ_ _ h=>absurd h an⟩
  ·split at h
   ·rename_i cs hr;cases h;obtain⟨b,c,vs,U,h3,h4,h5⟩:=mQ hd hr (C:=C);rw[h1]at U;cases U;exact⟨_,_,vs,rfl,h3,by rw[B3 h3,h4],λw hw _=>⟨b,off,ax,h5 w hw⟩⟩
   · cases h
 · cases h
theorem mG {k:Nat} (ht:iA P t=some e)(hr:jj P e=some (z,sz,kP))(cr:oF (k+m) kP sz z=true)
  (gw:w.ownsRow 0 e sz v k xs) (hl:vs.length=m*sz) (hp:0<m->∃b off,p=some ⟨b,off,none⟩/\qV w b off vs) (h1:∀u∈vs,u.oneCell'=true) (hm:0<k+m\/v≠.slice none 0 0):
  ∃b c' w',(Builtin.append_ #[t,t] ty #[v,.slice p m c]).run P w=.ok (.slice (some ⟨b,0,none⟩) (k+m) c') w'/\w'.ownsRow 0 e sz (.slice (some ⟨b,0,none⟩) (k+m) c') (k+m) (xs++vs)/\w.grownBy w' v.ownBlock/\(v.ownBlock=some b\/(b=w.heap.size/\b<w'.heap.size)):=by
 simp only[oF,j']at cr;obtain⟨⟨⟨a1,a2⟩,a3⟩,a4⟩:=cr;obtain⟨i,uw,hz,ov,j3⟩:=Qb5 hr;obtain⟨v',w',h2,h3,h4,U⟩:=Qcp (P:=P) (w:=w) t ty e i z sz kP (w5 ht) uw hz ov j3 (Qs a3) (q' a4) v k xs gw p m c vs hl hp h1 (by unfold maxLen;exact q' a1) (q' a2);have Ii:=h3;rcases h3.2 with⟨rfl,h0⟩|⟨g,cap,cur,rfl,hbg,hg,AQ,mn,sQ,hU⟩
 ·rcases hm with hm|hm;· omega
  ·exfalso;rcases gw.2 with⟨h6,_⟩|⟨g,cap,cur,rfl,hbg,hg,AQ,mn,sQ,hU⟩
   · exact hm h6
   · rcases U with U|U<;>cases U
 ·refine⟨g,cap,w',h2,Ii,h4,?_⟩;rcases U with U|U;· exact .inl (by rw[<-U];rfl)
  ·have:=Ii.lt g rfl;cases U;exact .inr ⟨rfl,this.2⟩
theorem Ql.pushNew {w w':World} (hw:Ql C [] H w) {φ:Fact} (U:w.grownBy w' none)(j9:w.heap.size<w'.heap.size)(ku:∀(N F:ep),N w.heap.size->φ.op N F w'):Ql C [] (φ::H) w':=by
 obtain⟨F,N,hi⟩:=hw;have hb:Below w.heap.size w w':=⟨U.os,U.tape,U.output,U.size,λk hk=>U.block k hk ax⟩
 refine⟨F,r6 (λk=>k=w.heap.size) N,(hi.grow hb).push _ _ (ku _ F rfl) ?_ ?_⟩
 ·rintro k rfl;exact⟨j9,.inl hi.mod.size,λhf=>h! _ (hi.flt _ hf)⟩
 ·rintro i k hl rfl hn;exact h! _ (hi.nlt i _ hl hn).1
theorem Qch (U:vs.length=m*sz)(hp:0<m->∃b off,p=some ⟨b,off,none⟩/\qV w b off vs):(Builtin.firstCells sz m (.slice p m c)).run P w=.ok vs.toArray w:=by
 by_cases hm:0<m
 ·obtain⟨b,off,rfl,hc⟩:=hp hm;simp only[Builtin.firstCells];rw[<-U];exact run_loadCells_list (P:=P) w ⟨b,off,none⟩ vs (λj v hv=>by rw[DC];exact hc j v hv)
 ·have:m=0:=an
  subst this;have:vs=[]:=List.eq_nil_of_length_eq_zero (cx U);subst this;cases p<;>simp[Builtin.firstCells,loadCells,loadCellsFrom]
theorem tK (U:iA P t=some e)(hs:QT P e=some sz):(Builtin.append_ #[t,t] ty #[.slice none 0 0,.slice p 0 c]).run P w=.ok (.slice none 0 0) w:=by
 have:=Qch (P:=P) (sz:=sz) (m:=0) (c:=c) (p:=p) (vs:=[]) (w:=w) ax (λh=>absurd h an);simp[Builtin.append_,run_underlying (w5 U),AD hs,Builtin.lenOf,this]
theorem wj {q:Nat} {w':World} (U:iA P t=some e)(hs:QT P e=some sz)(hle:len+m<=cap)(hl:vs.length=m*sz)(hp:0<m->∃b off,p=some ⟨b,off,none⟩/\qV w b off vs)
  (hq:off+len*sz=q) (ca:(storeCells ⟨b,q,none⟩ vs 0).run P w=.ok () w'):(Builtin.append_ #[t,t] ty #[.slice (some ⟨b,off,none⟩) len cap,.slice p m c]).run P w=.ok (.slice (some ⟨b,off,none⟩) (len+m) cap) w':=by
 have:=Qch (P:=P) (sz:=sz) (c:=c) hl hp;have hu:(underlying t).run P w=.ok (.slice e) w:=run_underlying (w5 U) w;subst hq;simp[Builtin.append_,run_underlying (w5 U),AD hs,Builtin.lenOf,this,hle,DC,ca]
theorem J0 (h:jj P e=some (z,sz,kP)):QT P e=some sz:=by
 obtain⟨i,hi,_,hs,_⟩:=Qb5 h;simp[QT,hi,hs]
theorem Bg (ht:iA P t=some e)(hr:jj P e=some (z,sz,kP))(cr:oF (len+m) kP sz z=true)
  (hx:xs.length=len*sz) (hxc:qV w b off xs) (hl:vs.length=m*sz) (hp:0<m->∃b off,p=some ⟨b,off,none⟩/\qV w b off vs) (hm:0<m):
  ∃c' U,(Builtin.append_ #[t,t] ty #[.slice (some ⟨b,off,none⟩) len len,.slice p m c]).run P w=.ok (.slice (some ⟨w.heap.size,0,none⟩) (len+m) c') U/\U.ownsRow 0 e sz (.slice (some ⟨w.heap.size,0,none⟩) (len+m) c') (len+m) (xs++vs)/\w.grownBy U none/\w.heap.size<U.heap.size:=by
 simp only[oF,j']at cr;obtain⟨⟨⟨a1,a2⟩,a3⟩,a4⟩:=cr;obtain⟨i,uw,hz,ov,j3⟩:=Qb5 hr;have a1:=q' a1;have a2:=q' a2;have vU:=Qs a3;have hM:len+m<=maxLen:=by unfold maxLen;exact a1
 obtain⟨q,qo,rfl,hq⟩:=hp hm;subst ov;subst j3;have holds:∀j u,xs[j]? =some u->w.cell? ((⟨b,off,none⟩:Addr).add j)=some u:=λj u hj=>by rw[DC];exact hxc j u hj
 have LN:∀j u,vs[j]? =some u->w.cell? ((⟨q,qo,none⟩:Addr).add j)=some u:=λj u hj=>by rw[DC];exact hq j u hj
 have ri:=grownCap_ge w (len+m) len e;have mn:grownCap w (len+m) len e<=maxLen:=grownCap_le_maxLen w (len+m) len e hM;have hlen:(xs++vs).length=(len+m)*i.size:=by rw[c!,hx,hl,H!]
 have fk:=run_append_grow (P:=P) (w:=w) t ty e i z (w5 ht) uw hz ⟨b,off,none⟩ len len xs hx holds ⟨q,qo,none⟩ m c vs hl LN an an (growslice_fits an a2);refine⟨_,_,fk,⟨hlen,.inr ⟨w.heap.size,_,_,rfl,t! _,heap_alloc_new w.drew _,ri,mn,?_,?_⟩⟩,⟨rfl,rfl,rfl,ax,λk hk _=>Go.heap_alloc_old w.drew _ (show k<w.drew.heap.size from hk)⟩,ax⟩
 ·simp only[Array.size_append,List.size_toArray,size_zeroCells,vU,hx,hl,<-H!];congr 1;omega
 ·simp only[Array.toList_append,O'];rw[<-O',<-hlen];exact List.take_left
theorem zo {x:SV} (hf:nO ρ lo hi) (hd:jQ ρ E hp H) (hv:x.den ρ E=some v) (hu:y.den ρ E=some u) (h:zn P hp lo t x y=some (r,df,du)) (DV:du<=hi) (hw:Ql C [] H w):
  ∃val w',(Builtin.append_ #[t,t] ty #[v,u]).run P w=.ok val w'/\wY C ρ E lo hi (some r) df du (.value val) w':=by
 unfold zn at h;split at h;· cases h
 ·rename_i e ht;split at h;· cases h
  ·rename_i z sz kP hr;have hs:=J0 hr;split at h;· cases h
   ·rename_i m ys Wn;obtain⟨p,c,vs,rfl,JD,LU,a19⟩:=IW hd Wn hu (C:=C);have hsw:=a19 w hw;split at h
    ·
     cases hv;split at h
     ·rename_i h0;have:=Qs h0;subst this;cases h;exact⟨_,w,tK ht hs,U2 hf hd hw rfl⟩
     ·rename_i h0;split at h
      ·rename_i cr;cases h;simp only[j']at cr;have hm:=NT h0;obtain⟨b,c',w',h1,h2,h3,h4⟩:=mG (ty:=ty) (c:=c) ht hr cr.1 (World.ownsRow_nil w 0 e sz) LU hsw (oG JD cr.2) (.inl an);have hb:b=w.heap.size/\b<w'.heap.size:=by rcases h4 with h4|h4;cases h4;exact h4
       obtain⟨rfl,hb⟩:=hb;simp only[b!,z!]at h1 h2⊢;refine⟨_,w',h1,?_⟩;have hg:=hf lo (A' _) an;have he:=Env.put_ext (e:=(w.heap.size,c',0)) hg (show lo<hi by omega)
       exact ⟨ρ.put lo (w.heap.size,c',0),A7 e sz w.heap.size m c' vs::H,he,⟨⟨_,_,vs,Env.put_same,SV.dens_mono he.le _ _ JD,rfl⟩,hd.mono he.le⟩,Env.put_free hf,an,
        hw.pushNew h3 hb (λN F hN=>⟨hN,h2⟩),_,rfl,by simp[SV.den,Env.put_same]⟩
      · cases h
    ·rename_i g off len cap own;simp only[SV.den,D']at hv;obtain⟨en,PQ,rfl⟩:=hv;split at h
     ·rename_i cs n' Ot e' ho;obtain⟨k,φ,k1,k2,k3,k4⟩:=OM hd ho;obtain⟨b,cc,xs,k5,k6,rfl⟩:=k2;rw[k5]at PQ;cases PQ;obtain⟨_,_,ku⟩:∃N F,(A7 e' Ot b n' cc xs).op N F w:=by obtain⟨F,N,hi⟩:=hw;exact⟨_,_,hi.owns k _ k1⟩
      have gw:=ku.2
      have AQ:n'<=cc:=by
       rcases gw.2 with⟨h0,_⟩|⟨g',a06,cur,R3,_,_,AQ,_⟩
       · cases h0
       · cases R3;exact AQ
      split at h
      ·rename_i hb;simp only[j']at hb;obtain⟨⟨⟨b1,b2⟩,b3⟩,U⟩:=hb;have b1:=Qs b1;have b2:=Qs b2;have U:=q' U;subst b1;subst b2;subst b3;split at h
       ·rename_i jg ca;cases h;obtain⟨b',c2,l1,H2,l2,l3⟩:=rm (P:=P) (C:=C) hd ca JD;rw[k5]at l1;cases l1;obtain⟨l4,l5⟩:=l3 w hw;refine⟨_,_,wj ht hs (by simp;omega) LU hsw ax l4,?_⟩;exact U2 hf l2 l5 (by simp[SV.den,k5])
       · cases h
      ·split at h
       ·rename_i hb;cases h;simp only[j']at hb;obtain⟨⟨⟨⟨⟨⟨⟨b1,b2⟩,b3⟩,U⟩,b5⟩,b6⟩,b7⟩,b8⟩:=hb;have b2:=Qs b2;have b3:=Qs b3;have U:=Qs U;have b5:=Qs b5;have b6:=Qs b6;subst b1;subst b2;subst b3;subst U;subst b5;subst b6;obtain⟨b',c',w',h1,h2,h3,h4⟩:=mG (ty:=ty) (c:=c) ht hr b7 gw LU hsw (oG JD b8) (.inr ax);refine⟨_,w',by simpa using h1,?_⟩;have hg:=hf lo (A' _) an;have he:=Env.put_ext (e:=(b',c',0)) hg (show lo<hi by omega)
        exact ⟨ρ.put lo (b',c',0),_,he,k4 _ lo _ (A7 e' Ot b' (len+m) c' (xs++vs)) he.le ⟨_,_,_,Env.put_same,SV.dens_mono he.le _ _ (Sj k6 JD),rfl⟩,Env.put_free hf,an,
         hw.swap k1 (λN F h j hj=>by cases hj;exact h.1) h3 b' h4 (λN F hN=>⟨hN,h2⟩),_,rfl,by simp[SV.den,Env.put_same]⟩
       ·split at h
        ·rename_i hb;simp only[j',K']at hb;obtain⟨⟨⟨b1,b2⟩,b3⟩,U⟩:=hb;have b2:=Qs b2;have U:=q' U;subst b1;subst b2;split at h
         ·rename_i old Iv;cases h;obtain⟨bb,c2,os,l1,l2,l3,l4⟩:=mQ (C:=C) hd Iv;rw[k5]at l1;cases l1;obtain⟨c',w',h1,h2,h3,h4⟩:=Bg (ty:=ty) (c:=c) ht hr b3 (by rw[B3 l2,l3]) (l4 w hw) LU hsw U;refine⟨_,w',by simpa using h1,?_⟩;have hg:=hf lo (A' _) an;have he:=Env.put_ext (e:=(w.heap.size,c',0)) hg (show lo<hi by omega)
          exact ⟨ρ.put lo (w.heap.size,c',0),A7 e sz w.heap.size (len+m) c' (os++vs)::H,he,⟨⟨_,_,_,Env.put_same,SV.dens_mono he.le _ _ (Sj l2 JD),rfl⟩,hd.mono he.le⟩,Env.put_free hf,an,
           hw.pushNew h3 h4 (λN F hN=>⟨hN,h2⟩),_,rfl,by simp[SV.den,Env.put_same]⟩
         · cases h
        · cases h
     ·rename_i cs e' ho;obtain⟨k,φ,k1,k2,k3,k4⟩:=OM hd ho;obtain⟨b,cc,xs,k5,k6,rfl⟩:=k2;rw[k5]at PQ;cases PQ;obtain⟨_,_,ku⟩:∃N F,(Fact.blk b xs e').op N F w:=by obtain⟨F,N,hi⟩:=hw;exact⟨_,_,hi.owns k _ k1⟩
      split at h
      ·rename_i hb;cases h;simp only[j',K']at hb;obtain⟨⟨⟨⟨⟨⟨b1,b2⟩,b3⟩,U⟩,b5⟩,b6⟩,b7⟩:=hb;have b2:=Qs b2;have b3:=Qs b3;have U:=Qs U;have b5:=Qs b5;subst b1;subst b2;subst b3;subst b5;have Tf:=B3 k6
       have We:len<=maxLen:=by
        simp only[oF,j']at b6;have:=q' b6.1.1.1;unfold maxLen;omega
       have gw:w.ownsRow 0 e' sz (.slice (some ⟨b,0,none⟩) len len) len xs:=⟨by rw[Tf,U],.inr ⟨b,len,xs.toArray,rfl,t! _,ku.2,A' _,We,by simp[Tf,U],by simp[U,<-Tf]⟩⟩
       obtain⟨b',c',w',h1,h2,h3,h4⟩:=mG (ty:=ty) (c:=c) ht hr b6 gw LU hsw (oG JD b7) (.inr ax);refine⟨_,w',by simpa using h1,?_⟩;have hg:=hf lo (A' _) an;have he:=Env.put_ext (e:=(b',c',0)) hg (show lo<hi by omega)
       exact ⟨ρ.put lo (b',c',0),_,he,k4 _ lo _ (A7 e' sz b' (len+m) c' (xs++vs)) he.le ⟨_,_,_,Env.put_same,SV.dens_mono he.le _ _ (Sj k6 JD),rfl⟩,Env.put_free hf,an,
        hw.swap (v:=.slice (some ⟨b,0,none⟩) len len) k1 (λN F h j hj=>by cases hj;exact h.1) h3 b' h4 (λN F hN=>⟨hN,h2⟩),_,rfl,by simp[SV.den,Env.put_same]⟩
      · cases h
     · cases h
    · cases h
def O8:Option Nat->Option Value->Prop
 |none,none=>True
 |some j,some v=>∃k,v=.int k (j:Int)
 |_,_=>False
theorem qd (h:Rel ρ E fr hp S H) {o:Option Operand} {b:Option Nat} (U:Lj fr o=some b) {a:Act} (hf:gU n S a):O8 b (o.map a.eval):=by
 unfold Lj at U;split at U;· cases U;trivial
 ·split at U
  ·rename_i x k j hx;cases U;exact⟨k,by simp[hf.eval (nN h hx)]⟩
  · cases U
theorem OH {k:IntKind} {y:Nat} {c:BoundsCode} (h:j<=y):(Instr.sliceBound (.int k (j:Int)) y c).run P w=.ok j w:=by
 have:(0:Int)<=(j:Int)/\(j:Int)<=(y:Int):=an
 simp[Instr.sliceBound,asIntOf,h]
theorem rY {m:Option Nat} (hl:O8 l lv)(hh:O8 h hv)(hm:O8 m mv)(T4:(m.isNone||h.isSome)=true)
  (h1:fy l 0<=fy h len) (U:fy h len<=fy m cap) (h3:fy m cap<=cap):(Instr.sliceBounds true len cap lv hv mv).run P w=.ok (fy l 0,fy h len,fy m cap) w:=by
 cases m<;>cases mv<;>first|exact hm.elim|skip
 ·cases h<;>cases hv<;>first|exact hh.elim|skip
  ·cases l<;>cases lv<;>first|exact hl.elim|skip
   · simp[Instr.sliceBounds,fy]
   · obtain⟨k,rfl⟩:=hl;simp only[fy]at h1 U h3⊢;simp[Instr.sliceBounds,OH h1]
  ·obtain⟨kh,rfl⟩:=hh;cases l<;>cases lv<;>first|exact hl.elim|skip
   · simp only[fy]at h1 U h3⊢;simp[Instr.sliceBounds,OH U]
   · obtain⟨k,rfl⟩:=hl;simp only[fy]at h1 U h3⊢;simp[Instr.sliceBounds,OH h1,OH U]
 ·obtain ⟨km,rfl⟩:=hm;cases h<;>cases hv<;>first|exact hh.elim|skip
  · cases T4
  ·obtain⟨kh,rfl⟩:=hh;cases l<;>cases lv<;>first|exact hl.elim|skip
   · simp only[fy]at h1 U h3⊢;simp[Instr.sliceBounds,OH U,OH h3]
   · obtain⟨k,rfl⟩:=hl;simp only[fy]at h1 U h3⊢;simp[Instr.sliceBounds,OH h1,OH U,OH h3]
theorem yo {U:Option Addr} {m:Option Nat} (ht:iA P t=some e)(hs:QT P e=some sz)(hl:O8 l lv)(hh:O8 h hv)(hm:O8 m mv)(T4:(m.isNone||h.isSome)=true)
  (h1:fy l 0<=fy h len) (h2:fy h len<=fy m cap) (h3:fy m cap<=cap):(Instr.sliceAt t (.slice U len cap) lv hv mv).run P w=.ok (.slice (if fy m cap=fy l 0 then U else U.map (·.add (fy l 0*sz))) (fy h len-fy l 0) (fy m cap-fy l 0)) w:=by
 have:=rY (P:=P) (w:=w) hl hh hm T4 h1 h2 h3;simp[Instr.sliceAt,Instr.slice,run_underlying (w5 ht),this,AD hs]
theorem CN {x:SV} {m:Option Nat} (hf:nO ρ lo hi) (hd:jQ ρ E hp H) (hx:x.den ρ E=some v) (hl:O8 l lv) (hh:O8 h hv) (hm:O8 m mv) (T4:(m.isNone||h.isSome)=true)
  (he:FJ P hp lo t x l h m=some (r,df,du)) (DV:du<=hi) (hw:Ql C [] H w):
  ∃val,(Instr.sliceAt t v lv hv mv).run P w=.ok val w/\wY C ρ E lo hi (some r) df du (.value val) w:=by
 unfold FJ at he;split at he;· cases he
 ·rename_i e ht;split at he;· cases he
  ·rename_i sz hs;split at he
   ·cases hx;split at he
    ·rename_i hb;cases he;simp only[j']at hb;obtain⟨⟨U,b2⟩,b3⟩:=hb;have U:=Qs U;have b2:=Qs b2;have b3:=Qs b3;refine⟨_,yo ht hs hl hh hm T4 an an an,?_⟩;rw[U,b2,b3];exact U2 hf hd hw rfl
    · cases he
   ·rename_i g off len cap own;simp only[SV.den,D']at hx;obtain⟨en,PQ,rfl⟩:=hx
    have key:∀(cp:Nat),(if own then en.2.1-cap else cap)=cp->fy l 0<=fy h len->fy h len<=fy m cp->fy m cp<=cp->
      (Instr.sliceAt t (.slice (some ⟨en.1,en.2.2+off,none⟩) len cp) lv hv mv).run P w=.ok (.slice (some ⟨en.1,en.2.2+(if fy m cp=fy l 0 then off else off+fy l 0*sz),none⟩) (fy h len-fy l 0) (fy m cp-fy l 0)) w:=by
     intro cp _ h1 h2 h3;rw[yo ht hs hl hh hm T4 h1 h2 h3];split;· rfl
     · simp[DC,x!]
    split at he
    ·split at he
     ·rename_i hb;cases he;simp only[j']at hb;obtain⟨⟨U,b2⟩,b3⟩:=hb;have U:=q' U;have b2:=q' b2;have b3:=q' b3;refine⟨_,by simpa using key cap rfl U b2 b3,U2 hf hd hw ?_⟩;cases hbb:y' (fy m cap) (fy l 0)with
      |true=>simp[SV.den,PQ,Qs hbb]
      |false=>simp[SV.den,PQ,NT hbb]
     · cases he
    ·split at he
     ·rename_i cs n' Ot e' ho;obtain⟨k,φ,k1,k2,k3,k4⟩:=OM hd ho;obtain⟨b,cc,xs,k5,k6,rfl⟩:=k2;rw[k5]at PQ;cases PQ;obtain⟨_,_,ku⟩:∃N F,(A7 e' Ot b n' cc xs).op N F w:=by obtain⟨F,N,hi⟩:=hw;exact⟨_,_,hi.owns k _ k1⟩
      have AQ:n'<=cc:=by
       rcases ku.2.2 with⟨h0,_⟩|⟨g',a06,cur,R3,_,_,AQ,_⟩
       · cases h0
       · cases R3;exact AQ
      split at he
      ·rename_i mm;have e0:fy (some mm) (cc-cap)=mm:=rfl;split at he
       ·rename_i hb;cases he;simp only[j']at hb;obtain⟨⟨U,b2⟩,b3⟩:=hb;have U:=q' U;have b2:=q' b2;have b3:=q' b3;have fk:=key (cc-cap) ax U (by rw[e0];exact b2) (by rw[e0];omega);rw[e0]at fk;refine⟨_,by simpa using fk,U2 hf hd hw ?_⟩;cases hbb:y' mm (fy l 0)with
        |true=>simp[SV.den,k5,Qs hbb]
        |false=>simp[SV.den,k5,NT hbb]
       · cases he
      ·have e0:fy none (cc-cap)=cc-cap:=rfl;split at he
       ·rename_i hb;simp only[j']at hb;have U:=q' hb.1;have b2:=q' hb.2;have fk:=key (cc-cap) ax U (by rw[e0];omega) (by rw[e0];omega);rw[e0]at fk;split at he
        ·rename_i h0;cases he;have h0:=Qs h0;refine⟨_,by simpa using fk,U2 hf hd hw ?_⟩;rw[h0];simp[SV.den,k5]
        ·rename_i h0 bp;cases he;have h0:=NT h0;have bp:=q' bp;refine⟨_,by simpa using fk,U2 hf hd hw ?_⟩;rw[if_neg an];simp[SV.den,k5,Nat.sub_add_eq]
        ·rename_i h0 bp;cases he;refine⟨_,by simpa using fk,?_⟩;have hg:=hf lo (A' _) an;have he:=Env.put_ext (e:=(b,cc-cap-fy l 0,0+(if cc-cap=fy l 0 then off else off+fy l 0*sz))) hg (show lo<hi by omega);exact⟨_,H,he,hd.mono he.le,Env.put_free hf,an,hw,_,rfl,by simp[SV.den,Env.put_same]⟩
       · cases he
     · cases he
   · cases he
theorem Mi (z:Value):SV.dens ρ E (SV.of z).cells=some z.cells.toList:=SV.cells_den (SV.of_den z) (λi=>by unfold SV.of;split<;>simp)
theorem BM (h:Rel ρ E fr hp S H) {o:Oper} {r:Option SV} (hf:nO ρ lo hi)(he:F6 P fr hp lo o.op=some (r,df,du))(DV:du<=hi):
  ∀(a:Act) w,gU n S a->Ql C [] H w->∃nx w',(execOp a.eval o).run P w=.ok nx w'/\wY C ρ E lo hi r df du nx w':=by
 intro a w gj hw;unfold F6 at he;split at he
 ·
  rename_i t U;unfold BX at he;split at he
  ·rename_i z hz;cases he;refine⟨.value (.pointer (some ⟨w.heap.size,0,none⟩)),w.alloc (.cells z.cells.toList.toArray t),?_,pU (off:=0) _ hf DV h.hp hw (Mi z) (λck e=>by simp[SV.den,e])⟩;simp[execOp,U,Instr.alloc,U6 hz,newVar,Yh]
  · cases he
 ·
  rename_i t x U;unfold LR at he;split at he
  ·rename_i v hx;obtain⟨u,h1,h2⟩:=sD h hx;split at he
   ·rename_i hq;cases he;refine⟨.value (.pointer (some ⟨w.heap.size,0,none⟩)),w.alloc (.cells u.cells.toList.toArray t),?_,pU (off:=0) _ hf DV h.hp hw (SV.cells_den h1 (λi e=>by subst e;cases hq)) (λck e=>by simp[SV.den,e])⟩;simp[execOp,U,Instr.box,gj.eval h2,newVar,Yh]
   · cases he
  · cases he
 ·
  rename_i t len ps U;unfold Qd3 at he;split at he
  ·rename_i e ht;split at he
   ·rename_i sz z parts hs hz R1;split at he
    ·rename_i out hle Wj;cases he;obtain⟨xs,h1,h2⟩:=pY h R1;obtain⟨os,h3,h4⟩:=mM (zx _) h1 Wj
     have h0:ps.map (λx=>(x.1,a.eval x.2))=xs.toArray:=by
      rw[<-gj.evalP h2,<-B!]
     have h5:=Qcq ht hs hz hle rfl h4 w;rw[<-h0]at h5;refine⟨.value (.slice (some ⟨w.heap.size,0,none⟩) len len),_,?_,pU (off:=0) _ hf DV h.hp hw h3 (λck e=>by simp[SV.den,e])⟩;simp only[execOp,U,Sem.run_bind];rw[show(ps.map λx=>match x with|(i,x)=>(i,a.eval x))=ps.map (λx=>(x.1,a.eval x.2))from rfl,h5];rfl
    · cases he
   · cases he
  · cases he
 ·
  rename_i t x y U;unfold C1 at he;split at he
  ·rename_i g off v hx hy;split at he
   ·rename_i hb;simp only[j']at hb;split at he
    ·rename_i jg ca;cases he;obtain⟨p,h1,h2⟩:=sD h hx;obtain⟨u,h3,h4⟩:=sD h hy;have hc:=SV.cells_den h3 (H5 hb.1);obtain⟨b,c,h5,H',h6,h7⟩:=rm (P:=P) (C:=C) h.hp ca hc;obtain⟨h8,h9⟩:=h7 w hw;simp only[SV.den,h5,T',Option.some.injEq]at h1;subst h1;refine⟨.skip,_,?_,ρ,H',Ext.refl _ _ _,h6,hf,A' _,h9,rfl⟩;have ur:=hb.2;split at ur
     ·rename_i sz hs;have j9:u.cells.size=sz:=by rw[<-Qs ur,<-B3 hc];simp
      simp only[execOp,U,gj.eval h2,gj.eval h4,Instr.storeAt,Instr.sureAddr,storeVar,Sem.run_bind,Sem.run_pure,Result.andThen_ok,AD hs,j9];simp[h8]
     · cases ur
    · cases he
   · cases he
  · cases he
 ·
  rename_i t x l hh m U;unfold BZ at he;split at he
  ·rename_i v l' h' m' hx hl hhb hm;split at he
   ·rename_i T4;split at he
    ·rename_i r' jg oC hs;cases he;obtain⟨u,h1,h2⟩:=sD h hx;obtain⟨val,h3,h4⟩:=CN (P:=P) hf h.hp h1 (qd h hl gj) (qd h hhb gj) (qd h hm gj) T4 hs DV hw;refine⟨.value val,w,?_,h4⟩;simp[execOp,U,gj.eval h2,h3]
    · cases he
   · cases he
  · cases he
 ·
  rename_i xs ts U;unfold xE at he;split at he
  ·rename_i x y t t' JC YI;have Wr:xs=#[x,y]:=by cases xs;simp_all
   have Wo:ts=#[t,t']:=by cases ts;simp_all
   subst Wr;subst Wo;split at he
   ·rename_i v u hx hy ht;have:=Qs ht;subst this;split at he
    ·rename_i r' jg oC hs;cases he;obtain⟨v',h1,h2⟩:=sD h hx;obtain⟨u',h3,h4⟩:=sD h hy;obtain⟨val,w',h5,h6⟩:=zo (P:=P) (ty:=o.type) hf h.hp h1 h3 hs DV hw;refine⟨.value val,w',?_,h6⟩;simp[execOp,U,resolve,invoke,builtin,gj.eval h2,gj.eval h4,h5]
    · cases he
   · cases he
  · cases he
 · cases he
end GJ
end
end
section
open Go.RowKit
noncomputable section
def lB {α:Type} (P:Program):Sem α->Option α
 | .pure a=>some a
 | .program k=>lB P (k P)
 | .mark _ k=>lB P k
 |_=>none
theorem Qco {α:Type} {P:Program}:∀{s:Sem α} {a:α},lB P s=some a->∀w,s.run P w=.ok a w
 | .pure a,b,h,w=>by cases h;rfl
 | .program k,b,h,w=>by
   unfold lB at h;unfold Sem.run;exact Qco h w
 | .mark m k,b,h,w=>by
   unfold lB at h;unfold Sem.run;exact Qco h w
 | .load _ _ _,_,h,_=>by cases h
 | .store _ _ _ _,_,h,_=>by cases h
 | .new _ _,_,h,_=>by cases h
 | .shape _ _,_,h,_=>by cases h
 | .freeze _ _ _,_,h,_=>by cases h
 | .frozen _ _,_,h,_=>by cases h
 | .getObj _ _,_,h,_=>by cases h
 | .setObj _ _ _,_,h,_=>by cases h
 | .choose _ _,_,h,_=>by cases h
 | .sys _ _,_,h,_=>by cases h
 | .halt _,_,h,_=>by cases h
def xY:Env:=λ_=>none
def UE (v:SV):Option Value:=SV.den xY [] v
mutual
theorem SV.close_den {ρ:Env} {E:List Value}:∀(v:SV)(x:Value),v.den xY []=some x->v.den ρ E=some x
 | .v _,_,e=>e
 | .opq i,x,e=>by simp[SV.den]at e
 | .ptr g off,x,e=>by simp[SV.den,xY]at e
 | .sl g off len cap own,x,e=>by simp[SV.den,xY]at e
 | .mp g,x,e=>by simp[SV.den,xY]at e
 | .fn f fi gX,x,e=>by
   obtain⟨us,vs,h1,U,rfl⟩:=ui e;exact Ld (SV.close_dens fi us h1) (SV.close_dens gX vs U)
 | .agg l,x,e=>by
   simp only[SV.den,D']at e⊢;obtain⟨a,h1,U⟩:=e;exact⟨a,SV.close_dens l a h1,U⟩
 | .tup l,x,e=>by
   simp only[SV.den,D']at e⊢;obtain⟨a,h1,U⟩:=e;exact⟨a,SV.close_dens l a h1,U⟩
theorem SV.close_dens {ρ:Env} {E:List Value}:∀(l:List SV)(xs:List Value),SV.dens xY [] l=some xs->SV.dens ρ E l=some xs
 |[],_,e=>e
 | x::l,xs,e=>by
   obtain⟨v,ws,rfl,h1,U⟩:=QI e;exact Eb (SV.close_den x v h1) (SV.close_dens l ws U)
end
def SV.ofT:Value->SV
 | .tuple vs=>.tup (vs.toList.map SV.of)
 |x=>SV.of x
theorem Gw {ρ:Env} {E:List Value}:∀(l:List Value),SV.dens ρ E (l.map SV.of)=some l
 |[]=>rfl
 |x::l=>Eb (SV.of_den x) (Gw l)
theorem SV.ofT_den {ρ:Env} {E:List Value} (x:Value):(SV.ofT x).den ρ E=some x:=by
 unfold SV.ofT;split;· simp[SV.den,Gw]
 · exact SV.of_den x
def sH (fr:Tr)(x:Operand):Option Value:=match kR fr x with
 |some v=>UE v
 |none=>none
def XC (fr:Tr)(x:Operand):Value:=match sH fr x with
 |some y=>y
 |none=>undef
def Ce:Op->Bool
 | .select _ _=>true
 |_=>false
def Py (P:Program)(fr:Tr)(o:Oper):Option SV:=match(o.op.operands.toList.all λx=>(sH fr x).isSome)&& !Ce o.op with
 | true=>match lB P (execOp (XC fr) o)with
   |some (.value v)=>some (SV.ofT v)
   |_=>none
 |false=>none
def N2 (P:Program)(t:Nat):Option (Nat×Nat):=match P.underlying t with
 |some (.array n e)=>some (n,e)
 |_=>none
theorem N3 {P:Program} {t n e:Nat} (h:N2 P t=some (n,e)):P.underlying t=some (.array n e):=by
 unfold N2 at h;split at h;· rename_i hu;cases h;exact hu
 · cases h
def X4 (P:Program)(fr:Tr):Op->Option SV
 | .binOp op _ x y _=>match kR fr x,kR fr y with
   | some (.v (.string a)),some (.v (.string b))=>match op with
     | .eql=>some (.v (.bool (a.data.toList==b.data.toList)))
     | .neq=>some (.v (.bool (!(a.data.toList==b.data.toList))))
     | .lss=>some (.v (.bool (Op.bytesLess a.data.toList b.data.toList)))
     | .gtr=>some (.v (.bool (!(Op.bytesLess a.data.toList b.data.toList||a.data.toList==b.data.toList))))
     |_=>none
   |_,_=>none
 | .indexAddr t x i=>match kR fr x,kR fr i,N2 P t with
   | some (.ptr g off),some (.v (.int _ (.ofNat j))),some (n,e)=>match QT P e,J' j n with
     |some sz,true=>some (.ptr g (off+j*sz))
     |_,_=>none
   |_,_,_=>none
 |_=>none
def Mz (P:Program)(fr:Tr)(hp:dq)(o:Oper):Option (SV×Option Nat):=match My P fr hp o.op with
 |some r=>some r
 | none=>match X4 P fr o.op with
   |some v=>some (v,none)
   | none=>match Py P fr o with
     |some v=>some (v,none)
     |none=>none
section
variable {P:Program} {n:FD} {ρ:Env} {E:List Value} {fr:Tr} {hp:dq} {S:List (Nat×Value)} {H:List Fact}
variable {o:Oper}{v:SV}
theorem zq (h:Rel ρ E fr hp S H) {x:Operand} {y:Value} (U:sH fr x=some y):da S x=some y:=by
 unfold sH at U;split at U
 ·rename_i v hv;obtain⟨z,h1,h2⟩:=sD h hv;rw[SV.close_den v y U]at h1;cases h1;exact h2
 · cases U
theorem xy (h:Rel ρ E fr hp S H) (he:Py P fr o=some v):mF P n ρ E hp S H o v none:=by
 unfold Py at he;split at he
 ·rename_i U;simp only[j',L',K']at U;split at he
  ·rename_i y hy;cases he;refine yY (SV.ofT_den y) λa w hf=>?_
   have hc:execOp a.eval o=execOp (XC fr) o:=execOp_congr o (λcs b e=>by rw[e]at U;exact absurd U.2 (by simp[Ce])) (λx hx=>by
    have h1:=U.1 x (cx hx);obtain⟨z,hz⟩:=Option.isSome_iff_exists.1 h1;rw[hf.eval (zq h hz)];simp[XC,hz])
   rw[hc];exact Qco hy w
  · cases he
 · cases he
theorem IZ (h:Rel ρ E fr hp S H) (he:X4 P fr o.op=some v):mF P n ρ E hp S H o v none:=by
 unfold X4 at he;split at he
 ·rename_i op t x y u U;split at he
  ·rename_i a b hx hy
   split at he<;>first|(cases he;done)|(
    cases he;exact yY rfl (K1 U (nN h hx) (nN h hy) λw=>by simp[eqGuard,binOp,Op.stringOp,ByteArray.toList_eq]))
  · cases he
 ·rename_i t x i U;split at he
  ·rename_i g off ik j m e hx hi ht;split at he
   ·rename_i sz hs hj;cases he;obtain⟨y,h1,h2⟩:=sD h hx;simp only[SV.den,D']at h1;obtain⟨en,h3,rfl⟩:=h1;have fb:=nN h hi;have bp:j<m:=q' hj;refine yY (x:=.pointer (some ⟨en.1,en.2.2+off+j*sz,none⟩)) (by simp[SV.den,h3,x!]) λa w hf=>?_
    simp[execOp,U,hf.eval h2,hf.eval fb,Instr.indexAt,asIntOf,Instr.sureAddr,run_underlying (N3 ht),bp,AD hs,DC]
   · cases he
  · cases he
 · cases he
theorem FG (h:Rel ρ E fr hp S H) {d:Option Nat} (he:Mz P fr hp o=some (v,d)):mF P n ρ E hp S H o v d:=by
 unfold Mz at he;split at he
 ·rename_i r hr;cases he;exact FF h hr
 ·split at he
  ·rename_i v' U;cases he;exact IZ h U
  ·split at he
   ·rename_i v' U;cases he;exact xy h U
   · cases he
end
end
end
section
open Go.RowKit
noncomputable section
section
variable {P:Program} {C:Ctx} {n:FD} {ρ:Env} {E:List Value} {fr:Tr} {hp:dq} {S:List (Nat×Value)} {H:List Fact}
def Lx (P:Program)(fr:Tr)(hp:dq)(lo:Nat)(op:Op):Option (Option SV×dq×Nat):=F6 P fr hp lo op
theorem BN (h:Rel ρ E fr hp S H) {lo hi U:Nat} {o:Oper} {r:Option SV} {df:dq} (hf:nO ρ lo hi)(he:Lx P fr hp lo o.op=some (r,df,U))(DV:U<=hi):
  ∀(a:Act) w,gU n S a->Ql C [] H w->∃nx w',(execOp a.eval o).run P w=.ok nx w'/\wY C ρ E lo hi r df U nx w':=by
 exact BM h hf he DV
def Mx (P:Program)(fr:Tr)(hp:dq)(o:Oper):Option (SV×Option Nat):=Mz P fr hp o
theorem ng (h:Rel ρ E fr hp S H) {o:Oper} {v:SV} {d:Option Nat} (he:Mx P fr hp o=some (v,d)):mF P n ρ E hp S H o v d:=by
 exact FG h he
end
end
end
section
open Go.RowKit
noncomputable section
abbrev AH:=Nat->List SV->dq->Nat->Nat->Option (SV×dq×Nat)
def Mo (P:Program)(call:AH)(fr:Tr)(hp:dq)(lo hi:Nat)(o:Oper)(y:Operand)(xs:Array Operand):Option (Option SV×dq×Nat):=match kR fr y,I6 fr xs.toList with
 | some (.fn f U gX),some vs=>match cy P f with
   | true=>match call f (U++vs++gX) hp lo hi with
     |some (v,df,du)=>some (some v,df,du)
     |none=>none
   | false=>match Py P fr o with
     |some v=>some (some v,hp,lo)
     |none=>none
 |_,_=>none
def sW (P:Program)(fr:Tr)(hp:dq)(lo hi:Nat)(op:Op):Option (Option SV×dq×Nat):=match Lx P fr hp lo op with
 | some (r,df,du)=>match C' du hi with
   |true=>some (r,df,du)
   |false=>none
 |none=>none
def Mp (P:Program)(fr:Tr)(hp:dq)(o:Oper):Option SV:=match H7 fr o.op with
 |some v=>some v
 | none=>match Mx P fr hp o with
   |some (v,_)=>some v
   |none=>none
def R9:Op->Bool
 | .alloc _| .box _ _| .makeSlice _ _ _| .buildSlice _ _ _| .store _ _ _| .makeMap _ _| .mapUpdate _ _ _ _| .mapEntry _ _ _| .entryStore _ _ _ _| .range _ _| .next _ _| .entry _=>true
 | .call {callee:=.builtin .append,args:=_,argTypes:=_}=>true
 | .call {callee:=.builtin .clear,args:=_,argTypes:=_}=>true
 | .call {callee:=.builtin .delete,args:=_,argTypes:=_}=>true
 |_=>false
def opC (P:Program)(call:AH)(fr:Tr)(hp:dq)(lo hi:Nat)(o:Oper):Option (Option SV×dq×Nat):=
 match o.op with
 | .call {callee:=.value y,args:=xs,argTypes:=_}=>Mo P call fr hp lo hi o y xs
 | op=>match R9 op with
   |true=>sW P fr hp lo hi op
   | false=>match Mp P fr hp o with
     |some v=>some (some v,hp,lo)
     |none=>sW P fr hp lo hi op
def Rt (P:Program)(call:AH)(n:Nat)(ops:Array Oper)(o:Oper)(fr:Tr)(hp:dq)(lo hi:Nat):Option (Tr×dq×Nat):=
 match Hu ops fr o with
 | some false=>match o.dst with
   | some d=>match J' d n&&J' d 16000 with
     |true=>some (fr.put d (.v undef),hp,lo)
     |false=>none
   |none=>none
 | some true=>match opC P call fr hp lo hi o with
   | some (some v,df,du)=>match o.dst with
     | some d=>match J' d n&&J' d 16000 with
       |true=>some (fr.put d v,df,du)
       |false=>none
     |none=>some (fr,df,du)
   | some (none,df,du)=>match o.dst with
     |none=>some (fr,df,du)
     |some _=>none
   |none=>none
 |none=>none
def Rv (P:Program)(call:AH)(n:Nat)(ops:Array Oper)(hi:Nat):List Oper->Tr->dq->Nat->Option (Tr×dq×Nat)
 |[],fr,hp,lo=>some (fr,hp,lo)
 | o::rest,fr,hp,lo=>match Rt P call n ops o fr hp lo hi with
   |some (U,df,du)=>Rv P call n ops hi rest U df du
   |none=>none
def K3 (P:Program)(E:List Value)(call:AH):Prop:=
 ∀ f args hp lo hi v df du,call f args hp lo hi=some (v,df,du)->∀ρ vals H,SV.dens ρ E args=some vals->jQ ρ E hp H->nO ρ lo hi->
   QD P f vals [] H (λx bo Hr=>bo=[]/\∃U,Ext ρ U lo hi/\v.den U E=some x/\jQ U E df Hr/\nO U du hi/\lo<=du)
theorem uM:∀{l:List Nat} {m:Nat},(∀i∈l,i<m)->l.Nodup->ig l m=true
 |[],_,_,_=>rfl
 | i::l,m,h,hn=>by
   simp only[ig,j',K',List.any_eq_false];have Jy:=p!.1 hn;refine⟨⟨Nat.ble_eq_true_of_le (h i ax),λj U hb=>?_⟩,uM (λj U=>h j (by simp[U])) Jy.2⟩;exact Jy.1 (by rw[Qs hb];exact U)
theorem yd (H:List Fact):QQ H (G' H.length)=H:=by
 unfold QQ
 have:∀(A B:List Fact),(G' B.length).filterMap (λi=>(A++B)[A.length+i]?)=B:=by
  intro A B;induction B generalizing A with
  |nil=>rfl
  | cons b B U=>
    rw[C!,List.range_succ_eq_map,w!];simp only[Nat.add_zero,I' (A' _),Nat.sub_self,V'];rw[y!];have:=U (A++[b]);simp only[O',List.singleton_append,c!,List.length_singleton]at this
    have e:((λi=>(A++b::B)[A.length+i]?)∘Nat.succ)=λi=>(A++b::B)[A.length+1+i]?:=by
     funext i;simp only[Function.comp,Nat.succ_eq_add_one];rw[show A.length+(i+1)=A.length+1+i from by omega]
    rw[e,this]
 simpa using this [] H
theorem KC {P:Program} {n:FD} {S:List (Nat×Value)} {o:Oper} {f:FuncId} {y:Operand} {xs:Array Operand} {ts:Array TypeId} {U args:List Value} {fi gX:Array Value} (ho:o.op=.call {callee:=.value y,args:=xs,argTypes:=ts})(hy:da S y=some (.func (.func f) fi gX))(hx:xm S xs.toList=some U)
  (kS:cy P f=true) (ha:fi.toList++U++gX.toList=args):∀(a:Act) w,gU n S a->(execOp a.eval o).run P w=.ok (.enter f args.toArray) w:=by
 intro a w hf
 have gY:xs.map a.eval=U.toArray:=by
  have:=hf.evalL hx;have h0:xs=xs.toList.toArray:=ax
  rw[<-this,h0,B!]
 have h2:(resolve a.eval {callee:=.value y,args:=xs,argTypes:=ts} o.type).run P w=.ok {target:=.fn (.func f) gX,args:=fi++U.toArray} w:=by
  simp[resolve,hf.eval hy,Deferred.ofValue,gY]
 have h3:fi++U.toArray++gX=args.toArray:=by rw[<-ha];simp
 unfold execOp;simp only[ho,Sem.run_bind,h2,Result.andThen_ok];simp[invoke,Yl kS,<-h3]
section run
variable {P:Program} {C:Ctx} {n:FD} {Q:Exit->Act->World->Prop} {E:List Value} {call:AH} {ops:Array Oper} {rest:List Oper}
variable {fr:Tr}{hp df:dq}{lo du hi:Nat}{o:Oper}{ρ:Env}{S:List (Nat×Value)}{H:List Fact}
def YX (P:Program)(C:Ctx)(n:FD)(Q:Exit->Act->World->Prop)(E:List Value)(ops:Array Oper)(rest:List Oper)(ρ:Env)(lo hi:Nat)(fr:Tr)(hp:dq)(du:Nat):Prop:=
 ∀U S' H',Ext ρ U lo hi->Rel U E fr hp S' H'->nO U du hi->lo<=du->WL P C n Q [] H' S' ops rest
theorem uN (fa:K3 P E call) {r:Option SV} (he:opC P call fr hp lo hi o=some (r,df,du)) (h:Rel ρ E fr hp S H)(hf:nO ρ lo hi)
  (hg:QM ops S o=some true)
  (next:∀ck H' x,Ext ρ ck lo hi->jQ ck E df H'->nO ck du hi->lo<=du->(match r with|some v=>v.den ck E=some x|none=>o.dst=none)->(∀a w,gU n S a->Ql C [] H' w->wpList P ops Q rest (a.put o.dst x) w)) (hr:r=none->o.dst=none):
  WL P C n Q [] H S ops (o::rest):=by
 have GJ:∀{op:Op},op=o.op->sW P fr hp lo hi op=some (r,df,du)->WL P C n Q [] H S ops (o::rest):=by
  intro op ku he;unfold sW at he;subst ku;split at he
  ·rename_i r' jg oC hh;split at he
   ·rename_i hle;cases he;intro a w U hw;obtain⟨nx,w',h1,ck,H',e1,e2,e3,e4,e5,e6⟩:=BN (P:=P) h hf hh (q' hle) a w U hw;refine wpList_step λK hK=>?_
    rw[Jf U hg,if_pos rfl];unfold Oper.wp;rw[h1];cases r with
    | some v=>
      obtain⟨x,rfl,h2⟩:=e6;rw[Oper.upon_value];exact hK _ _ (next ck H' x e1 e2 e3 e4 h2 a w' U e5)
    | none=>
      obtain rfl:=e6;rw[Oper.upon_skip];exact hK _ _ (next ck H' undef e1 e2 e3 e4 (hr rfl) a w' U e5)
   · cases he
  · cases he
 have read:∀{v:SV} {d:Option Nat},mF P n ρ E hp S H o v d->(r,df,du)=(some v,hp,lo)->WL P C n Q [] H S ops (o::rest):=by
  rintro v d ⟨x,B,m,h1,h2,_,_,h3⟩ e;cases e;intro a w U hw
  have zF:AY [] B w:=by
   obtain⟨F,N,fb⟩:=hw;refine⟨⟨F,λφ bj=>by cases bj⟩,λb hb=>?_⟩;rw[<-h2]at hb;obtain⟨i,_,hb⟩:=List.mem_filterMap.1 hb;exact⟨_,_,fb.owns i b hb⟩
  refine wpList_step λK hK=>?_;rw[Jf U hg,if_pos rfl];unfold Oper.wp;rw[h3 a w U zF,Oper.upon_value];exact hK _ _ (next ρ H x (Ext.refl _ _ _) h.hp hf (A' _) h1 a w U hw)
 unfold opC at he;split at he
 ·
  rename_i y xs ts ho;unfold Mo at he;split at he
  ·rename_i f fi gX vs hy JC;split at he
   ·rename_i kS;split at he
    · rename_i v jg oC hc;cases he;obtain⟨u,h1,h2⟩:=sD h hy;obtain⟨us,cs,h6,h3,rfl⟩:=ui h1;obtain⟨ys,h4,h5⟩:=QcI h JC;have a16:=fa _ _ _ _ _ _ _ _ hc ρ (us++ys++cs) H (Sj (Sj h6 h4) h3) h.hp hf;refine tQ (G' H.length) [] hg (KC (args:=us++ys++cs) ho h2 h5 kS ax) (yd H) a16 (λF w _ φ bj=>by cases bj) (uM ax (cx i!)) (H':=[]) rfl ?_;rintro x bo Hr ⟨rfl,ck,e1,e2,e3,e4,e5⟩ a w U hw;exact next ck Hr x e1 e3 e4 e5 e2 a w U (cx hw)
    · cases he
   ·split at he
    · rename_i v hv;exact read (xy (P:=P) (n:=n) h hv) (Option.some.inj he).symm
    · cases he
  · cases he
 ·split at he;· exact GJ rfl he
  ·split at he
   ·rename_i v hv;unfold Mp at hv;split at hv
    · rename_i v' R3;cases hv;obtain⟨x,h1,h2⟩:=uS h R3;exact read (d:=none) ⟨x,[],[],h1,rfl,λ_=>rfl,(λ_ h=>by cases h),λa w hf _=>nc hf h2 w⟩ (Option.some.inj he).symm
    · split at hv
      ·rename_i v' d R3;cases hv;exact read (ng (P:=P) (n:=n) h R3) (Option.some.inj he).symm
      · cases hv
   · exact GJ rfl he
theorem y8 (fa:K3 P E call) {iP:Tr} (he:Rt P call n ops o fr hp lo hi=some (iP,df,du)) (h:Rel ρ E fr hp S H)(hf:nO ρ lo hi)
  (next:YX P C n Q E ops rest ρ lo hi iP df du):WL P C n Q [] H S ops (o::rest):=by
 unfold Rt at he;split at he
 ·
  rename_i hw;split at he
  ·rename_i d hd;split at he
   ·rename_i hb;cases he;simp only[j']at hb;have:=q' hb.2;exact ND (QbS h hw) hd hb.1 rfl (next ρ _ H (Ext.refl _ _ _) (h.put (λ_ _ h=>h) an rfl h.hp) hf (A' _))
   · cases he
  · cases he
 ·rename_i hw;have hg:=QbS h hw;split at he
  ·rename_i v jg oC ho;split at he
   ·rename_i d hd;split at he
    ·rename_i hb;cases he;simp only[j']at hb;have h16:=q' hb.2;refine uN fa ho h hf hg (λck H' x U e2 e3 e4 e5 a w gj jY=>?_) (λe=>by cases e);rw[hd];exact next ck _ H' U (h.put U.le an e5 e2) e3 e4 _ w (gj.put (q' hb.1) rfl) jY
    · cases he
   ·rename_i hd;cases he;refine uN fa ho h hf hg (λck H' x U e2 e3 e4 e5 a w gj jY=>?_) (λe=>by cases e);rw[hd];exact next ck S H' U (h.mono U.le e2) e3 e4 _ w gj jY
  ·rename_i jg oC ho;split at he
   ·rename_i hd;cases he;refine uN fa ho h hf hg (λck H' x U e2 e3 e4 e5 a w gj jY=>?_) (λ_=>hd);rw[hd];exact next ck S H' U (h.mono U.le e2) e3 e4 _ w gj jY
   · cases he
  · cases he
 · cases he
theorem yb (fa:K3 P E call) {hi:Nat}:∀{l:List Oper} {fr iP:Tr} {hp df:dq} {lo du:Nat},Rv P call n ops hi l fr hp lo=some (iP,df,du)->∀{ρ:Env} {S:List (Nat×Value)} {H:List Fact},Rel ρ E fr hp S H->nO ρ lo hi->
   (∀U S' H',Ext ρ U lo hi->Rel U E iP df S' H'->nO U du hi->lo<=du->WE C n Q [] H' S' .normal)->WL P C n Q [] H S ops l
 | [],fr,iP,hp,df,lo,du,he,ρ,S,H,h,hf,next=>by
   cases he;exact Q2 (next ρ S H (Ext.refl _ _ _) h hf (A' _))
 | o::l,fr,iP,hp,df,lo,du,he,ρ,S,H,h,hf,next=>by
   unfold Rv at he;split at he
   ·rename_i Ju jg oC h1;exact y8 fa h1 h hf λU S' H' e1 e2 e3 e4=>yb fa he e2 e3 λJ9 Ur H'' f1 f2 f3 f4=>next J9 Ur H'' (e1.trans f1 e4 (A' _)) f2 f3 an
   · cases he
end run
end
end
section
open Go.RowKit
noncomputable section
def Value.eqb:Value->Value->Bool
 | .bool a,.bool b=>a==b
 | .int k a,.int U b=>R7 k U&&decide (a=b)
 | .string a,.string b=>decide (a=b)
 | .pointer none,.pointer none=>true
 | .slice none a b,.slice none c d=>y' a c&&y' b d
 | .map none,.map none=>true
 | .nilFunc,.nilFunc=>true
 | .nilIface,.nilIface=>true
 | .tuple a,.tuple b=>y' a.size 0&&y' b.size 0
 |_,_=>false
theorem Value.eqb_eq {a b:Value} (h:Value.eqb a b=true):a=b:=by
 unfold Value.eqb at h;split at h;· rw[eq_of_beq h]
 · simp only[j',decide_eq_true_eq]at h;rw[sT h.1,h.2]
 · rw[of_decide_eq_true h]
 · rfl
 · simp only[j']at h;rw[Qs h.1,Qs h.2]
 · rfl
 · rfl
 · rfl
 ·simp only[j']at h;rw[a! (Qs h.1),a! (Qs h.2)]
 · cases h
mutual
def SV.beq:SV->SV->Bool
 | .v a,.v b=>Value.eqb a b
 | .opq i,.opq j=>y' i j
 | .ptr g o,.ptr g' o'=>y' g g'&&y' o o'
 | .sl g o l c w,.sl g' o' l' c' w'=>y' g g'&&y' o o'&&y' l l'&&y' c c'&&(w==w')
 | .mp g,.mp g'=>y' g g'
 | .fn f u l,.fn f' u' l'=>y' f f'&&SV.beqs u u'&&SV.beqs l l'
 | .agg l,.agg l'=>SV.beqs l l'
 | .tup l,.tup l'=>SV.beqs l l'
 |_,_=>false
def SV.beqs:List SV->List SV->Bool
 |[],[]=>true
 |x::l,y::m=>SV.beq x y&&SV.beqs l m
 |_,_=>false
end
mutual
theorem SV.beq_eq:∀(a b:SV),SV.beq a b=true->a=b
 | .v a,b,h=>by
   cases b<;>simp only[SV.beq]at h<;>first|(cases h;done)|rw[Value.eqb_eq h]
 | .opq i,b,h=>by
   cases b<;>simp only[SV.beq]at h<;>first|(cases h;done)|rw[Qs h]
 | .ptr g o,b,h=>by
   cases b<;>simp only[SV.beq,j']at h<;>first|(cases h;done)|rw[Qs h.1,Qs h.2]
 | .sl g o l c w,b,h=>by
   cases b<;>simp only[SV.beq,j']at h<;>first|(cases h;done)|(obtain⟨⟨⟨⟨h1,U⟩,h3⟩,h4⟩,h5⟩:=h;rw[Qs h1,Qs U,Qs h3,Qs h4,eq_of_beq h5])
 | .mp g,b,h=>by
   cases b<;>simp only[SV.beq]at h<;>first|(cases h;done)|rw[Qs h]
 | .fn f u l,b,h=>by
   cases b<;>simp only[SV.beq,j']at h<;>first|(cases h;done)|rw[Qs h.1.1,SV.beqs_eq _ _ h.1.2,SV.beqs_eq _ _ h.2]
 | .agg l,b,h=>by
   cases b<;>simp only[SV.beq]at h<;>first|(cases h;done)|rw[SV.beqs_eq _ _ h]
 | .tup l,b,h=>by
   cases b<;>simp only[SV.beq]at h<;>first|(cases h;done)|rw[SV.beqs_eq _ _ h]
theorem SV.beqs_eq:∀(a b:List SV),SV.beqs a b=true->a=b
 |[],b,h=>by cases b<;>simp only[SV.beqs]at h<;>first|rfl|cases h
 | x::l,b,h=>by
   cases b<;>simp only[SV.beqs,j']at h<;>first|(cases h;done)|rw[SV.beq_eq _ _ h.1,SV.beqs_eq _ _ h.2]
end
def xl:List (SV×SV×Nat)->List (SV×SV×Nat)->Bool
 |[],[]=>true
 |(k,v,b)::r,(k',v',U)::s=>SV.beq k k'&&SV.beq v v'&&y' b U&&xl r s
 |_,_=>false
theorem Bu:∀{a b:List (SV×SV×Nat)},xl a b=true->a=b
 |[],b,h=>by cases b<;>simp only[xl]at h<;>first|rfl|cases h
 | (k,v,n)::r,b,h=>by
   cases b with
   |nil=>simp only[xl]at h;cases h
   | cons y m=>
     obtain⟨U,v',n'⟩:=y;simp only[xl,j']at h;rw[SV.beq_eq _ _ h.1.1.1,SV.beq_eq _ _ h.1.1.2,Qs h.1.2,Bu h.2]
def HO.beq:HO->HO->Bool
 | .blk c t,.blk c' t'=>SV.beqs c c'&&y' t t'
 | .row c n s t,.row c' n' s' t'=>SV.beqs c c'&&y' n n'&&y' s s'&&y' t t'
 | .mp es c,.mp U c'=>xl es U&&y' c c'
 | .it m s l p,.it m' s' l' p'=>decide (m=m')&&y' s s'&&decide (l=l')&&y' p p'
 | .ro c,.ro c'=>SV.beqs c c'
 |_,_=>false
theorem HO.beq_eq {a b:HO} (h:HO.beq a b=true):a=b:=by
 unfold HO.beq at h;split at h;· simp only[j']at h;rw[SV.beqs_eq _ _ h.1,Qs h.2]
 · simp only[j']at h;rw[SV.beqs_eq _ _ h.1.1.1,Qs h.1.1.2,Qs h.1.2,Qs h.2]
 · simp only[j']at h;rw[Bu h.1,Qs h.2]
 · simp only[j',decide_eq_true_eq]at h;rw[h.1.1.1,Qs h.1.1.2,h.1.2,Qs h.2]
 · rw[SV.beqs_eq _ _ h]
 · cases h
def uu:dq->dq->Bool
 |[],[]=>true
 |(g,o)::l,(U,o')::m=>y' g U&&HO.beq o o'&&uu l m
 |_,_=>false
theorem uv:∀{a b:dq},uu a b=true->a=b
 |[],b,h=>by cases b<;>simp only[uu]at h<;>first|rfl|cases h
 | (g,o)::l,b,h=>by
   cases b with
   |nil=>simp only[uu]at h;cases h
   | cons y m=>
     obtain⟨U,o'⟩:=y;simp only[uu,j']at h;rw[Qs h.1.1,HO.beq_eq h.1.2,uv h.2]
def WT:Option SV->Option SV->Bool
 |none,none=>true
 |some a,some b=>SV.beq a b
 |_,_=>false
theorem Rw {a b:Option SV} (h:WT a b=true):a=b:=by
 unfold WT at h;split at h;· rfl
 · rw[SV.beq_eq _ _ h]
 · cases h
def Tr.beq:Tr->Tr->Bool
 | .nil,.nil=>true
 | .node l x r,.node l' U r'=>WT x U&&Tr.beq l l'&&Tr.beq r r'
 |_,_=>false
theorem Tr.beq_eq:∀{a b:Tr},Tr.beq a b=true->a=b
 | .nil,b,h=>by cases b<;>simp only[Tr.beq]at h<;>first|rfl|cases h
 | .node l x r,b,h=>by
   cases b with
   |nil=>simp only[Tr.beq]at h;cases h
   | node U x' r'=>
     simp only[Tr.beq,j']at h;rw[Rw h.1.1,Tr.beq_eq h.1.2,Tr.beq_eq h.2]
structure Nd where
 L:List Nat
 D:List (Nat×Nat×HO)
 fr:Tr
 hp:dq
def a0c (x y:Nat×Nat×HO):Bool:=y' x.1 y.1&&y' x.2.1 y.2.1&&HO.beq x.2.2 y.2.2
def X5 (a b:List (Nat×Nat×HO)):Bool:=a.all λx=>b.any λy=>a0c x y
def Nd.same (a b:Nd):Bool:=a.L.all (jo b.L)&&b.L.all (jo a.L)&&X5 a.D b.D&&X5 b.D a.D&&Tr.beq a.fr b.fr&&uu a.hp b.hp
def Iz:Op->Bool
 | .move _| .binOp _ _ _ _ _| .unOp _ _ _| .pick _ _ _| .fieldAddr _ _ _| .load _ _| .indexAddr _ _ _| .extract _ _| .build _ _| .nilCheck _| .makeFunc _ _ _| .index _ _ _| .convert _ _ _| .field _ _ _=>true
 | .call {callee:=.builtin .len,args:=_,argTypes:=_}=>true
 |_=>false
def oB (ops:Array Oper):List Nat:=(G' ops.size).filter λi=>match ops[i]? with
 | some o=>Iz o.op&&(match o.dst with
   | some d=>(G' ops.size).all λj=>y' i j||(match ops[j]? with
     |some U=>!jo (nf ops U) d||Ek ops j i
     |none=>false)
   |none=>false)
 |none=>false
def Fj (P:Program) (n:Nat) (ops:Array Oper) (au:List Nat) (i:Nat) (o:Oper) (U:Nd):Option Nd:=match o.dst with
 |none=>none
 | some d=>match nE ops au U.L i n d o&&J' d 16000 with
   |false=>none
   | true=>match Hu ops U.fr o with
     |some false=>some ⟨i::U.L,U.D,U.fr.put d (.v undef),U.hp⟩
     | some true=>match H7 U.fr o.op with
       |some v=>some ⟨i::U.L,U.D,U.fr.put d v,U.hp⟩
       | none=>match Mx P U.fr U.hp o with
         |some (v,none)=>some ⟨i::U.L,U.D,U.fr.put d v,U.hp⟩
         |  some (v,some g)=>match mc U.hp g with
            |some ob=>some ⟨i::U.L,(i,g,ob)::U.D,U.fr.put d v,U.hp⟩
            |none=>none
         |none=>none
     |none=>none
def yc (P:Program)(n:Nat)(ops:Array Oper)(au:List Nat):List Nat->Nd->Option Nd
 |[],U=>some U
 | i ::r,U=>match ops[i]? with
   | some o=>match !jo U.L i&&(o.after.toList.all λe=>!Region.binds .any e||jo U.L e.on)with
     | true=>match Fj P n ops au i o U with
       |some DZ=>yc P n ops au r DZ
       |none=>none
     |false=>yc P n ops au r U
   |none=>none
def PS (g:Nat)(o:HO):dq->dq
 |[]=>[(g,o)]
 | (U,o')::r=>match C' U g with
   |true=>(g,o)::(U,o')::r
   |false=>(U,o')::PS g o r
def BV:dq->dq
 |[]=>[]
 |(g,o)::r=>PS g o (BV r)
def Rj (P:Program)(call:AH)(n:Nat)(ops:Array Oper)(au:List Nat)(lo w k:Nat)(U:Nd):Option Nd:=match ops[k]? with
 | some o=>match Rt P call n ops o U.fr U.hp (lo+k*w) (lo+k*w+w)with
   | some (iP,hp0,_)=>match BV hp0 with
     | df=>match U.D.all (λx=>Ek ops k x.1||(match mc df x.2.1 with|some ob=>HO.beq ob x.2.2|none=>false))with
       |true=>yc P n ops au au ⟨k::U.L,U.D,iP,df⟩
       |false=>none
   |none=>none
 |none=>none
def GY (P:Program)(call:AH)(n:Nat)(ops:Array Oper)(U:List Nat)(lo w:Nat)(nd:Nd):List Nat->Option (List Nd)
 |[]=>some []
 | k::r=>match Rj P call n ops U lo w k nd,GY P call n ops U lo w nd r with
   |some x,some l=>some (x::l)
   |_,_=>none
def Gn (ops:Array Oper)(L:List Nat):Bool:=(G' ops.size).all (jo L)
def sJ (P:Program)(call:AH)(n:Nat)(ops:Array Oper)(U:List Nat)(lo w:Nat):List Nd->Option (List Nd)
 |[]=>some []
 | nd::r=>match !Gn ops nd.L&&(nh ops U nd.L).all (λk=>!jo U k)with
   | true=>match GY P call n ops U lo w nd (nh ops U nd.L),sJ P call n ops U lo w r with
     |some l,some m=>some (l++m)
     |_,_=>none
   |false=>none
def a1j (U:Nd)(l:List Nd):List Nd:=match l.any (λx=>Nd.same U x)with
 |true=>l
 |false=>U::l
def zv:List Nd->List Nd
 |[]=>[]
 |U::r=>a1j U (zv r)
def Rf (P:Program)(call:AH)(n:Nat)(ops:Array Oper)(au:List Nat)(lo w:Nat):Nat->List Nd->Option Nd
 |0,_=>none
 | f + 1,Ti=>match Ti with
   |[]=>none
   | U::rest=>match Gn ops U.L with
     | true=>match rest.all (λx=>Gn ops x.L&&Tr.beq x.fr U.fr&&uu x.hp U.hp)with
       |true=>some U
       |false=>none
     | false=>match sJ P call n ops au lo w (U::rest)with
       |some ns=>Rf P call n ops au lo w f (zv ns)
       |none=>none
def KA (P:Program)(call:AH)(n:Nat)(ops:Array Oper)(hi:Nat)(fr:Tr)(hp:dq)(lo:Nat):Option (Tr×dq×Nat):=
 match P.follows .mixedOrders&&jd ops (oB ops)&&C' lo hi with
 | true=>match yc P n ops (oB ops) (oB ops) ⟨[],[],fr,hp⟩with
   | some U=>match Rf P call n ops (oB ops) lo ((hi-lo)/(65536*(ops.size+1))) (ops.size+1) [U]with
     |some fin=>some (fin.fr,fin.hp,lo+ops.size*((hi-lo)/(65536*(ops.size+1))))
     |none=>none
   |none=>none
 |false=>none
end
end
section
open Go.RowKit
noncomputable section
def DD (ρ:Env)(E:List Value):List (Nat×Nat×HO)->List (Nat×Fact)->Prop
 |[],[]=>True
 |(i,g,o)::r,(j,φ)::s=>i=j/\o.isFact ρ E g φ/\DD ρ E r s
 |_,_=>False
section
variable {ρ ck:Env} {E:List Value}
theorem IterM.det {m a b:Option Nat} (h:IterM ρ m a)(k:IterM ρ m b):a=b:=by
 cases m<;>cases a<;>cases b<;>first|rfl|exact h.elim|exact k.elim|(obtain⟨c,hc⟩:=h;obtain⟨d,U⟩:=k;rw[hc]at U;cases U;rfl)
theorem kL.det:∀{l:List (SV×SV×Nat)} {m m':List MapEntry},kL ρ E l m->kL ρ E l m'->m=m'
 |[],[],[],_,_=>rfl
 | (k,v,b)::r,⟨ek,ev,eb⟩::s,⟨ek',ev',eb'⟩::s',h,h'=>by
   obtain⟨h1,U,h3,h4⟩:=h;obtain⟨k1,k2,k3,k4⟩:=h';simp only at h1 U h3 k1 k2 k3;rw[h1]at k1;cases k1;rw[U]at k2;cases k2;subst h3;subst k3;rw[kL.det h4 k4]
 |[],_::_,_,h,_=>h.elim
 |[],[],_::_,_,h=>h.elim
 |_::_,[],_,h,_=>h.elim
 |_::_,_::_,[],_,h=>h.elim
theorem HO.isFact_det {g:Nat} {o:HO} {φ ψ:Fact} (h:o.isFact ρ E g φ)(k:o.isFact ρ E g ψ):φ=ψ:=by
 cases o with
 | blk cs ty=>
   obtain⟨b,c,vs,h1,U,rfl⟩:=h;obtain⟨b',c',vs',k1,k2,rfl⟩:=k;rw[h1]at k1;cases k1;rw[U]at k2;cases k2;rfl
 | row cs n sz ty=>
   obtain⟨b,c,vs,h1,U,rfl⟩:=h;obtain⟨b',c',vs',k1,k2,rfl⟩:=k;rw[h1]at k1;cases k1;rw[U]at k2;cases k2;rfl
 | mp es c=>
   obtain⟨b,c1,es1,h1,U,rfl⟩:=h;obtain⟨b',c',Ps,k1,k2,rfl⟩:=k;rw[h1]at k1;cases k1;rw[kL.det U k2]
 | it m since seen lG=>
   obtain⟨b,c,bm,h1,U,rfl⟩:=h;obtain⟨b',c',bm',k1,k2,rfl⟩:=k;rw[h1]at k1;cases k1;rw[IterM.det U k2]
 | ro cs=>
   obtain⟨b,c,vs,h1,U,rfl⟩:=h;obtain⟨b',c',vs',k1,k2,rfl⟩:=k;rw[h1]at k1;cases k1;rw[U]at k2;cases k2;rfl
theorem DD.mono (h:ρ.le ck):∀{l:List (Nat×Nat×HO)} {m:List (Nat×Fact)},DD ρ E l m->DD ck E l m
 |[],[],_=>trivial
 |(_,_,_)::_,(_,_)::_,U=>⟨U.1,HO.isFact_mono h U.2.1,DD.mono h U.2.2⟩
 |[],_::_,U=>U.elim
 |_::_,[],U=>U.elim
theorem DD.mem:∀{l:List (Nat×Nat×HO)} {m:List (Nat×Fact)},DD ρ E l m->∀x∈m,∃g o,(x.1,g,o)∈l/\o.isFact ρ E g x.2
 |[],[],_,x,hx=>by cases hx
 | (i,g,o)::r,(j,φ)::s,U,x,hx=>by
   rcases B'.1 hx with rfl|hx;· obtain⟨rfl,h1,_⟩:=U;exact⟨g,o,ax,h1⟩
   ·obtain⟨g',o',h1,h2⟩:=DD.mem U.2.2 x hx;exact⟨g',o',by simp[h1],h2⟩
 |[],_::_,U,_,_=>U.elim
 |_::_,[],U,_,_=>U.elim
theorem DD.mem':∀{l:List (Nat×Nat×HO)} {m:List (Nat×Fact)},DD ρ E l m->∀i g o,(i,g,o)∈l->∃φ,(i,φ)∈m/\o.isFact ρ E g φ
 |[],[],_,_,_,_,U=>by cases U
 | (i,g,o)::r,(j,φ)::s,hd,i',g',o',U=>by
   rcases B'.1 U with U|U;· cases U;obtain⟨rfl,h1,_⟩:=hd;exact⟨φ,ax,h1⟩
   ·obtain⟨ψ,h1,h2⟩:=DD.mem' hd.2.2 i' g' o' U;exact⟨ψ,by simp[h1],h2⟩
 |[],_::_,hd,_,_,_,_=>hd.elim
 |_::_,[],hd,_,_,_,_=>hd.elim
theorem DD.ex {l:List (Nat×Nat×HO)} (U:∀i g o,(i,g,o)∈l->∃φ,HO.isFact ρ E g o φ):∃m,DD ρ E l m:=by
 induction l with
 |nil=>exact⟨[],trivial⟩
 | cons x r ih=>
   obtain⟨i,g,o⟩:=x;obtain⟨φ,h1⟩:=U i g o ax;obtain⟨m,h2⟩:=ih λi' g' o' h=>U i' g' o' (by simp[h]);exact⟨(i,φ)::m,rfl,h1,h2⟩
theorem vi {a b:List (Nat×Nat×HO)} (h:X5 a b=true):∀x∈a,x∈b:=λx U=>by
 have:=L'.1 h x U;obtain⟨y,hy,h1⟩:=D!.1 this;simp only[a0c,j']at h1
 have e:x=y:=by
  obtain⟨x1,x2,x3⟩:=x;obtain⟨y1,y2,y3⟩:=y;simp only at h1;rw[Qs h1.1.1,Qs h1.1.2,HO.beq_eq h1.2]
 rw[e];exact hy
end
theorem CA (A B D:List Fact):(G' B.length).filterMap (λi=>(A++B++D)[A.length+i]?)=B:=by
 have h:(G' B.length).filterMap (λi=>(A++B++D)[A.length+i]?)=(G' B.length).filterMap (λi=>B[i]?):=by
  have : ∀l:List Nat,(∀i∈l,i<B.length)->l.filterMap (λi=>(A++B++D)[A.length+i]?)=l.filterMap (λi=>B[i]?):=by
   intro l;induction l with
   |nil=>intro _;rfl
   | cons i l ih=>
     intro h;have h1:(A++B++D)[A.length+i]? =B[i]?:=by
         have:=h i ax;rw[O',I' an,Nat.add_sub_cancel_left,Q' this]
     simp only[w!,h1,ih (λj U=>h j (by simp[U]))]
  exact this _ (λi hi=>W'.1 hi)
 rw[h];exact yd B
theorem Ql.swapAdj {C:Ctx} {Φ pre post:List Fact} {a b:Fact} {w:World} (h:Ql C Φ (pre++a::b::post) w):Ql C Φ (pre++b::a::post) w:=by
 have hl:(pre++a::b::post).length=pre.length+post.length+2:=by simp;omega
 have:=h.pick (G' pre.length++[pre.length+1,pre.length]++(G' post.length).map (·+(pre.length+2))) (uM (λi hi=>by
  rw[hl];simp only[U',W',B',j!,or_false,X']at hi;rcases hi with(hi|hi|hi)|⟨j,hj,rfl⟩<;>omega) (by
  rw[Y',Y'];refine⟨⟨i!,ax,?_⟩,?_,?_⟩
  ·intro x U y hy;simp only[W',B',j!,or_false]at U hy;omega
  · exact List.Pairwise.map _ (λx y GN=>an) i!
  ·intro x U y hy;simp only[U',W',B',j!,or_false,X']at U hy;obtain⟨j,hj,rfl⟩:=hy;omega))
 have e:QQ (pre++a::b::post) (G' pre.length++[pre.length+1,pre.length]++(G' post.length).map (·+(pre.length+2)))=pre++b::a::post:=by
  unfold QQ;rw[q!,q!,y!];have h1:=CA [] pre (a::b::post);have h2:=CA (pre++[a,b]) post [];simp only[b!,E!,z!]at h1;simp only[List.append_nil,c!,C!,E!,O',List.cons_append,b!]at h2;rw[h1]
  have h3:((λi=>(pre++a::b::post)[i]?)∘(·+(pre.length+2)))=λi=>(pre++a::b::post)[pre.length+(0+1+1)+i]?:=by
   funext i;simp only[Function.comp];rw[show i+(pre.length+2)=pre.length+(0+1+1)+i from by omega]
  rw[h3,h2];simp
 rw[e]at this;exact this
theorem xC {ρ:Env} {E:List Value} {C:Ctx} {g:Nat} {o:HO} {φ:Fact} (hf:o.isFact ρ E g φ):∀{hp:dq} {H:List Fact},jQ ρ E hp H->∃H',jQ ρ E (PS g o hp) H'/\∀pre w,Ql C [] (pre++φ::H) w->Ql C [] (pre++H') w
 |[],[],_=>⟨[φ],⟨hf,trivial⟩,λ_ _ h=>h⟩
 | (g',o')::r,ψ::H,U=>by
   unfold PS;split;· exact⟨φ::ψ::H,⟨hf,U⟩,λ_ _ h=>h⟩
   ·obtain⟨H',h1,h2⟩:=xC (C:=C) hf U.2;refine⟨ψ::H',⟨U.1,h1⟩,λpre w h=>?_⟩;have:=h2 (pre++[ψ]) w (cx h.swapAdj);simpa using this
 |[],_::_,U=>U.elim
 |_::_,[],U=>U.elim
theorem uz {ρ:Env} {E:List Value} {C:Ctx}:∀{hp:dq} {H:List Fact},jQ ρ E hp H->∃H',jQ ρ E (BV hp) H'/\∀pre w,Ql C [] (pre++H) w->Ql C [] (pre++H') w
 |[],[],_=>⟨[],trivial,λ_ _ h=>h⟩
 | (g,o)::r,φ::H,U=>by
   obtain⟨H1,h1,h2⟩:=uz (C:=C) U.2;obtain⟨H2,h3,h4⟩:=xC (C:=C) U.1 h1;refine⟨H2,h3,λpre w h=>h4 pre w ?_⟩;have:=h2 (pre++[φ]) w (cx h);simpa using this
 |[],_::_,U=>U.elim
 |_::_,[],U=>U.elim
section draw
variable {P:Program} {C:Ctx} {n:FD} {Q:Exit->Act->World->Prop} {E:List Value} {call:AH} {ops:Array Oper} {au:List Nat} {lo hi w:Nat}
theorem NG {L L1:List Nat} {D D1:List (Nat×Fact)} {Φ H:List Fact} {S:List (Nat×Value)} (h:WX P C n Q ops au L1 D1 Φ H S)(hL:∀i,i∈L↔i∈L1)(hD:∀x,x∈D↔x∈D1):WX P C n Q ops au L D Φ H S:=by
 intro listed a av w U;refine h listed a av w ⟨U.frm,U.asize,U.adef,U.holds,U.lsize,λi hi=>(hL i).1 (U.sub i hi),λi hi=>U.inL i ((hL i).2 hi),λx hx=>U.agree x λi o hi=>hx i o ((hL i).1 hi),?_,λx hx=>U.deps x ((hD x).2 hx)⟩;intro i hi hu;obtain⟨o,d',v,JH,B,h1,h2,h3,h4,h5,h6,h7,h8,h9⟩:=(U.owed i ((hL i).2 hi) hu).ex;exact⟨o,d',v,JH,B,h1,h2,h3,h4,h5,λe he hb=>(hL _).1 (h6 e he hb),h7,λb hb=>(hD _).1 (h8 b hb),h9⟩
structure NdR (ρ0:Env) (E:List Value) (ops:Array Oper) (lo hi w:Nat) (ρ:Env) (nd:Nd) (S:List (Nat×Value)) (H:List Fact) (D:List (Nat×Fact)):Prop where
 rel:Rel ρ E nd.fr nd.hp S H
 ext:Ext ρ0 ρ lo hi
 free:∀j,j<ops.size->j∉nd.L->nO ρ (lo+j*w) (lo+j*w+w)
 rest:nO ρ (lo+ops.size*w) hi
 dd:DD ρ E nd.D D
def pT (P:Program)(C:Ctx)(n:FD)(Q:Exit->Act->World->Prop)(ρ0:Env)(E:List Value)(ops:Array Oper)(au:List Nat)(lo hi w:Nat)(U:Nd):Prop:=
 ∀ρ S H D,NdR ρ0 E ops lo hi w ρ U S H D->WX P C n Q ops au U.L D [] H S
variable {ρ0:Env}
theorem Cn (cr:jd ops au=true) {i:Nat} {o:Oper} {nd DZ:Nd} (ho:ops[i]? =some o)(he:Fj P n ops au i o nd=some DZ)(hw:pT P C n Q ρ0 E ops au lo hi w DZ):pT P C n Q ρ0 E ops au lo hi w nd:=by
 intro ρ S H D U;unfold Fj at he;split at he;· cases he
 ·rename_i d hd;split at he;· cases he
  ·rename_i hb;simp only[j']at hb;have h16:=q' hb.2;have iq:∀j,j<ops.size->j∉i::nd.L->nO ρ (lo+j*w) (lo+j*w+w):=λj hj hn=>U.free j hj λhm=>hn (u! _ hm)
   split at he
   ·rename_i uB;cases he;exact NI cr i ho hd hb.1 rfl (QbS U.rel uB) (hw ρ _ H D ⟨U.rel.put (λ_ _ h=>h) an rfl U.rel.hp,U.ext,iq,U.rest,U.dd⟩)
   ·rename_i uB;have hg:=QbS U.rel uB;split at he
    ·rename_i v hv;cases he;obtain⟨x,h1,h2⟩:=uS U.rel hv;exact HB cr i ho hd hb.1 rfl hg h2 (hw ρ _ H D ⟨U.rel.put (λ_ _ h=>h) an h1 U.rel.hp,U.ext,iq,U.rest,U.dd⟩)
    ·split at he
     ·rename_i v hv;cases he;obtain⟨x,B,m,h1,h2,h3,_,h4⟩:=ng (P:=P) (n:=n) U.rel hv;have hB:=h3 rfl;subst hB;exact Oc cr i [] m ho hd hb.1 rfl h2 hg h4 (hw ρ _ H D ⟨U.rel.put (λ_ _ h=>h) an h1 U.rel.hp,U.ext,iq,U.rest,U.dd⟩)
     ·rename_i v g hv;split at he
      ·rename_i ob hob;cases he;obtain⟨x,B,m,h1,h2,_,h3,h4⟩:=ng (P:=P) (n:=n) U.rel hv;obtain⟨ob',φ,h5,h6,rfl⟩:=h3 g rfl;rw[hob]at h5;cases h5;exact Oc cr i [φ] m ho hd hb.1 rfl h2 hg h4 (hw ρ _ H ((i,φ)::D) ⟨U.rel.put (λ_ _ h=>h) an h1 U.rel.hp,U.ext,iq,U.rest,⟨rfl,h6,U.dd⟩⟩)
      · cases he
     · cases he
   · cases he
theorem Qbr (cr:jd ops au=true):∀{l:List Nat} {nd U:Nd},yc P n ops au l nd=some U->pT P C n Q ρ0 E ops au lo hi w U->pT P C n Q ρ0 E ops au lo hi w nd
 |[],nd,U,he,hw=>by cases he;exact hw
 | i ::r,nd,U,he,hw=>by
   unfold yc at he;split at he
   ·rename_i o ho;split at he
    ·split at he
     ·rename_i nd2 h2;exact Cn cr ho h2 (Qbr cr he hw)
     · cases he
    · exact Qbr cr he hw
   · cases he
theorem IE (fa:K3 P E call)(cr:jd ops au=true)(DV:lo+ops.size*w<=hi) {k:Nat} {nd DZ:Nd} (hk:k<ops.size)(hkL:k∉nd.L)(he:Rj P call n ops au lo w k nd=some DZ)(hw:pT P C n Q ρ0 E ops au lo hi w DZ):
  ∀ρ S H D,NdR ρ0 E ops lo hi w ρ nd S H D->∀o,ops[k]? =some o->WL P C n (QX P C n Q ops au nd.L D [] k) [] H S ops [o]:=by
 intro ρ S H D U o ho;unfold Rj at he;rw[ho]at he;simp only at he;split at he
 ·rename_i iP df du h1;split at he
  ·rename_i hD;have YJ:=Qbr cr he hw;refine y8 fa h1 U.rel (U.free k hk hkL) λck S' H' e1 e2 e3 e4=>Q2 λa w' hf jY=>?_
   obtain⟨H2,d1,d2⟩:=uz (C:=C) e2.hp;have e2':=e2.mono (λ_ _ h=>h) d1;have a1c:=d2 [] w' (cx jY);simp only[b!]at a1c;have hkw:k*w+w<=ops.size*w:=by rw[<-l!];exact F' _ hk
   refine⟨[],H2,S',hf,a1c,(λφ bj=>by cases bj),λx hx hp=>?_,YJ ck S' H2 D ⟨e2',U.ext.trans e1 an an,λj hj hn g g1 g2=>?_,λg g1 g2=>?_,U.dd.mono e1.le⟩⟩
   ·obtain⟨g,ob,h2,h3⟩:=U.dd.mem x hx;have h4:=L'.1 hD _ h2;simp only[hp,Bool.false_or]at h4;split at h4
    ·rename_i ob' h5;obtain⟨q,ψ,h6,h7,_,_⟩:=OM d1 h5;rw[HO.beq_eq h4]at h7;rw[HO.isFact_det (HO.isFact_mono e1.le h3) h7];exact P' h6
    · cases h4
   ·have BS:j≠k:=λe=>hn (by rw[e];simp);have hj0:=U.free j hj (λhm=>hn (u! _ hm)) g g1 g2;refine e1.out g hj0 ?_;rcases G! j k with bp|ri
    ·have:j*w+w<=k*w:=by rw[<-l!];exact F' _ bp
     omega
    ·have:k*w+w<=j*w:=by rw[<-l!];exact F' _ an
     omega
   · exact e1.out g (U.rest g g1 g2) an
  · cases he
 · cases he
theorem uG:∀{l:List Nat} {U:Nd} {ns:List Nd},GY P call n ops au lo w U l=some ns->∀k∈l,∃DZ∈ns,Rj P call n ops au lo w k U=some DZ
 |[],_,_,_,k,hk=>by cases hk
 | j::r,U,ns,he,k,hk=>by
   unfold GY at he;split at he
   ·rename_i x l h1 h2;cases he;rcases B'.1 hk with rfl|hk;· exact⟨x,ax,h1⟩
    ·obtain⟨y,h3,h4⟩:=uG h2 k hk;exact⟨y,by simp[h3],h4⟩
   · cases he
theorem oa (fa:K3 P E call)(cr:jd ops au=true)(DV:lo+ops.size*w<=hi):∀{Ti ns:List Nd},sJ P call n ops au lo w Ti=some ns->(∀U∈ns,pT P C n Q ρ0 E ops au lo hi w U)->∀U∈Ti,pT P C n Q ρ0 E ops au lo hi w U
 |[],_,_,_,U,h=>by cases h
 | x ::r,ns,he,hw,U,h=>by
   unfold sJ at he;split at he
   ·rename_i hb;split at he
    ·rename_i l m h1 h2;cases he;rcases B'.1 h with rfl|h
     ·intro ρ S H D hr;simp only[j',K']at hb;refine AA cr (nh ops au U.L) rfl hb.2 hb.1 λk hk o ho=>?_
      obtain⟨DZ,h3,h4⟩:=uG h1 k hk;have ec:=List.mem_filter.1 hk
      have hkL:k∉U.L:=λhm=>by
       have:=ec.2;simp only[j',K']at this;rw[Ji.2 hm]at this;cases this.1
      exact IE fa cr DV (W'.1 ec.1) hkL h4 (hw DZ (by simp[h3])) ρ S H D hr o ho
     · exact oa fa cr DV h2 (λU hn=>hw U (by simp[hn])) U h
    · cases he
   · cases he
theorem IV {a b:Nd} (h:Nd.same a b=true)(hw:pT P C n Q ρ0 E ops au lo hi w b):pT P C n Q ρ0 E ops au lo hi w a:=by
 intro ρ S H D hr;simp only[Nd.same,j']at h;obtain⟨⟨⟨⟨⟨h1,h2⟩,h3⟩,h4⟩,h5⟩,h6⟩:=h;have l1:∀i,i∈a.L↔i∈b.L:=λi=>⟨λhi=>Ji.1 (L'.1 h1 i hi),λhi=>Ji.1 (L'.1 h2 i hi)⟩
 obtain ⟨D1,U⟩:∃m,DD ρ E b.D m:=DD.ex λi g o hm=>by
  obtain⟨φ,_,bj⟩:=hr.dd.mem' i g o (vi h4 _ hm);exact⟨φ,bj⟩
 refine NG (hw ρ S H D1 ⟨by rw[<-Tr.beq_eq h5,<-uv h6];exact hr.rel,hr.ext,λj hj hn=>hr.free j hj λhm=>hn ((l1 j).1 hm),hr.rest,U⟩) l1 λx=>⟨λhx=>?_,λhx=>?_⟩
 ·obtain⟨g,o,k1,k2⟩:=hr.dd.mem x hx;obtain⟨φ,k3,k4⟩:=U.mem' _ _ _ (vi h3 _ k1);rw[<-HO.isFact_det k2 k4]at k3;exact k3
 ·obtain⟨g,o,k1,k2⟩:=U.mem x hx;obtain⟨φ,k3,k4⟩:=hr.dd.mem' _ _ _ (vi h4 _ k1);rw[<-HO.isFact_det k2 k4]at k3;exact k3
theorem Qcc:∀{l:List Nd},(∀U∈zv l,pT P C n Q ρ0 E ops au lo hi w U)->∀U∈l,pT P C n Q ρ0 E ops au lo hi w U
 |[],_,U,h=>by cases h
 | x::r,hw,U,h=>by
   unfold zv a1j at hw;split at hw
   ·rename_i hb;rcases B'.1 h with rfl|h
    ·obtain⟨y,hy,h1⟩:=D!.1 hb;exact IV h1 (hw y hy)
    · exact Qcc hw U h
   ·rcases B'.1 h with rfl|h;· exact hw U ax
    · exact Qcc (λy hy=>hw y (by simp[hy])) U h
theorem xQ (fa:K3 P E call)(cr:jd ops au=true)(DV:lo+ops.size*w<=hi) {fin:Nd} (PR:∀ck S' H',Ext ρ0 ck lo hi->Rel ck E fin.fr fin.hp S' H'->nO ck (lo+ops.size*w) hi->WE C n Q [] H' S' .normal):
   ∀{f:Nat} {Ti:List Nd},Rf P call n ops au lo w f Ti=some fin->∀U∈Ti,pT P C n Q ρ0 E ops au lo hi w U
 |0,_,he,_,_=>by cases he
 | f + 1,Ti,he,U,h=>by
   unfold Rf at he;split at he;· cases h
   ·rename_i x rest;split at he
    ·rename_i fe;split at he
     ·rename_i hb;obtain rfl:x=fin:=Option.some.inj he
      have key:∀y,Gn ops y.L=true->y.fr=x.fr->y.hp=x.hp->pT P C n Q ρ0 E ops au lo hi w y:=λy h1 h2 h3 ρ S H D hr=>
       QE cr h1 (PR ρ S H hr.ext (by rw[<-h2,<-h3];exact hr.rel) hr.rest)
      rcases B'.1 h with rfl|h;· exact key _ fe rfl rfl
      ·have:=L'.1 hb U h;simp only[j']at this;exact key U this.1.1 (Tr.beq_eq this.1.2) (uv this.2)
     · cases he
    ·split at he
     ·rename_i ns h1;exact oa fa cr DV h1 (Qcc (xQ fa cr DV PR he)) U h
     · cases he
theorem EC (fa:K3 P E call) {id:Nat} {fr iP:Tr} {hp df:dq} {du:Nat} (he:KA P call n ops hi fr hp lo=some (iP,df,du)) {ρ:Env} {S:List (Nat×Value)} {H:List Fact} (h:Rel ρ E fr hp S H)(hf:nO ρ lo hi)
  (next:∀ck S' H',Ext ρ ck lo hi->Rel ck E iP df S' H'->nO ck du hi->lo<=du->WE C n Q [] H' S' .normal):WC P C n Q [] H S (.region id ops true):=by
 unfold KA at he;split at he
 ·rename_i hb;simp only[j']at hb;obtain⟨⟨hm,U⟩,hle⟩:=hb;have hle:=q' hle;split at he
  ·rename_i nd Iq;split at he
   ·rename_i fin PR;cases he
    have hw:ops.size*((hi-lo)/(65536*(ops.size+1)))<=hi-lo:=by
     generalize hi-lo=m
     calc ops.size*(m/(65536*(ops.size+1)))<=(65536*(ops.size+1))*(m/(65536*(ops.size+1))):=F' _ an
      _<=m:=Nat.mul_div_le _ _
    have h1:=xQ (ρ0:=ρ) (C:=C) (Q:=Q) fa U (hi:=hi) an (λck S' H' e1 e2 e3=>next ck S' H' e1 e2 e3 an) PR nd ax;have h2:=Qbr U Iq h1;have h0:ops=ops.toList.toArray:=ax
    rw[h0];refine QK (oB ops) hm (by rw[<-h0];exact U) λa3A=>?_
    have h3:=h2 ρ S H [] ⟨h,Ext.refl _ _ _,λj hj _ g g1 g2=>hf g an ?_,λg g1 g2=>hf g an g2,trivial⟩;· simpa using h3
    ·have:j*((hi-lo)/(65536*(ops.size+1)))+(hi-lo)/(65536*(ops.size+1))<=ops.size*((hi-lo)/(65536*(ops.size+1))):=by rw[<-l!];exact F' _ hj
     omega
   · cases he
  · cases he
 · cases he
end draw
end
end
section
open Go.RowKit
noncomputable section
inductive Ex where
 |normal
 |exit (id:Nat)
 |ret
def Ex.to:Ex->Exit
 | .normal=>.normal
 | .exit id=>.exit id
 | .ret=>.ret
def Cf (body:Tr->dq->Nat->Option (Ex×Tr×dq×Nat)):Nat->Tr->dq->Nat->Option (Ex×Tr×dq×Nat)
 |0,_,_,_=>none
 | k+1,fr,hp,lo=>match body fr hp lo with
   |some (.normal,iP,U,du)=>Cf body k iP U du
   |some (.exit id,iP,U,du)=>some (.exit id,iP,U,du)
   |some (.ret,iP,U,du)=>some (.ret,iP,U,du)
   |none=>none
def z7 (P:Program)(call:AH)(n lf hi:Nat):Code->Tr->dq->Nat->Option (Ex×Tr×dq×Nat)
 | .skip,fr,hp,lo=>some (.normal,fr,hp,lo)
 | .region _ ops false,fr,hp,lo=>match Rv P call n ops hi ops.toList fr hp lo with
   |some (iP,U,du)=>some (.normal,iP,U,du)
   |none=>none
 | .region _ ops true,fr,hp,lo=>match KA P call n ops hi fr hp lo with
   |some (iP,U,du)=>some (.normal,iP,U,du)
   |none=>none
 | .seq a b,fr,hp,lo=>match z7 P call n lf hi a fr hp lo with
   |some (.normal,iP,U,du)=>z7 P call n lf hi b iP U du
   |some (.exit id,iP,U,du)=>some (.exit id,iP,U,du)
   |some (.ret,iP,U,du)=>some (.ret,iP,U,du)
   |none=>none
 | .cond c x y,fr,hp,lo=>match kR fr c with
   |some (.v (.bool true))=>z7 P call n lf hi x fr hp lo
   |some (.v (.bool false))=>z7 P call n lf hi y fr hp lo
   |_=>none
 | .block id b,fr,hp,lo=>match z7 P call n lf hi b fr hp lo with
   |some (.normal,iP,U,du)=>some (.normal,iP,U,du)
   | some (.exit j,iP,U,du)=>match y' j id with
     |true=>some (.normal,iP,U,du)
     |false=>some (.exit j,iP,U,du)
   |some (.ret,iP,U,du)=>some (.ret,iP,U,du)
   |none=>none
 | .loop b,fr,hp,lo=>Cf (λfr hp lo=>z7 P call n lf hi b fr hp lo) lf fr hp lo
 | .exit id,fr,hp,lo=>some (.exit id,fr,hp,lo)
 | .ret,fr,hp,lo=>some (.ret,fr,hp,lo)
 |_,_,_,_=>none
section code
variable {P:Program} {C:Ctx} {n:FD} {E:List Value} {call:AH}
def E5 (P:Program)(C:Ctx)(n:FD)(E:List Value)(hi:Nat)(c:Code)(f:Tr->dq->Nat->Option (Ex×Tr×dq×Nat)):Prop:=
 ∀ fr hp lo ex iP df du,f fr hp lo=some (ex,iP,df,du)->∀(Q:Exit->Act->World->Prop) ρ S H,Rel ρ E fr hp S H->nO ρ lo hi->
   (∀U S' H',Ext ρ U lo hi->Rel U E iP df S' H'->nO U du hi->lo<=du->WE C n Q [] H' S' ex.to)->WC P C n Q [] H S c
theorem Fh {hi:Nat} {b:Code} {body:Tr->dq->Nat->Option (Ex×Tr×dq×Nat)} (hb:E5 P C n E hi b body)(lf:Nat):E5 P C n E hi (.loop b) (Cf body lf):=by
 intro fr hp lo ex iP df du he Q ρ S H h hf next a w gj hw
 refine uF (λm a w=>∃fr1 hp1 lo1 XG S1 H1,Cf body m fr1 hp1 lo1=some (ex,iP,df,du)/\Rel XG E fr1 hp1 S1 H1/\nO XG lo1 hi/\Ext ρ XG lo hi/\lo<=lo1/\gU n S1 a/\Ql C [] H1 w) ?_ lf a w
   ⟨fr,hp,lo,ρ,S,H,he,h,hf,Ext.refl _ _ _,A' _,gj,hw⟩
 rintro m a w ⟨fr1,hp1,lo1,XG,S1,H1,g1,g2,g3,g4,g5,g6,g7⟩;cases m with
 |zero=>cases g1
 | succ m=>
   unfold Cf at g1;split at g1
   ·rename_i Ju jg oC U;refine hb _ _ _ _ _ _ _ U _ XG S1 H1 g2 g3 (λck S' H' e1 e2 e3 e4 a' w' mP jY=>?_) a w g6 g7;exact⟨m,Nat.lt_succ_self m,Ju,jg,oC,ck,S',H',g1,e2,e3,g4.trans e1 g5 (A' _),an,mP,jY⟩
   ·rename_i id Ju jg oC U;cases g1;refine hb _ _ _ _ _ _ _ U _ XG S1 H1 g2 g3 (λck S' H' e1 e2 e3 e4 a' w' mP jY=>?_) a w g6 g7;exact next ck S' H' (g4.trans e1 g5 (A' _)) e2 e3 an a' w' mP jY
   ·rename_i Ju jg oC U;cases g1;refine hb _ _ _ _ _ _ _ U _ XG S1 H1 g2 g3 (λck S' H' e1 e2 e3 e4 a' w' mP jY=>?_) a w g6 g7;exact next ck S' H' (g4.trans e1 g5 (A' _)) e2 e3 an a' w' mP jY
   · cases g1
theorem Ey (fa:K3 P E call) {lf hi:Nat}:∀c:Code,E5 P C n E hi c (z7 P call n lf hi c):=by
 intro c;induction c with
 | skip=>
   intro fr hp lo ex iP df du he Q ρ S H h U next
   unfold z7 at he;cases he;exact QV (next ρ S H (Ext.refl _ _ _) h U (A' _))
 | region id ops draw=>
   intro fr hp lo ex iP df du he Q ρ S H h U next
   cases draw with
   | false=>
     unfold z7 at he;split at he
     ·rename_i Ju jg oC h1;cases he;have h0:ops=ops.toList.toArray:=ax
      rw[h0];refine Qb ?_;rw[<-h0];exact yb fa h1 h U next
     · cases he
   | true=>
     unfold z7 at he;split at he
     ·rename_i Ju jg oC h1;cases he;exact EC fa h1 h U next
     · cases he
 | seq a b iha ihb=>
   intro fr hp lo ex iP df du he Q ρ S H h U next
   unfold z7 at he;refine Q6 ?_;split at he
   · rename_i Ju jg oC h1;exact iha _ _ _ _ _ _ _ h1 _ ρ S H h U λck S' H' e1 e2 e3 e4=>Qw (ihb _ _ _ _ _ _ _ he Q ck S' H' e2 e3 λJ9 Ur H'' f1 f2 f3 f4=>next J9 Ur H'' (e1.trans f1 e4 (A' _)) f2 f3 an)
   · rename_i id Ju jg oC h1;cases he;exact iha _ _ _ _ _ _ _ h1 _ ρ S H h U λck S' H' e1 e2 e3 e4=>Q8 (next ck S' H' e1 e2 e3 e4)
   · rename_i Ju jg oC h1;cases he;exact iha _ _ _ _ _ _ _ h1 _ ρ S H h U λck S' H' e1 e2 e3 e4=>Q5 (next ck S' H' e1 e2 e3 e4)
   · cases he
 | cond c x y ihx ihy=>
   intro fr hp lo ex iP df du he Q ρ S H h U next
   unfold z7 at he;split at he
   · rename_i hc;exact O6 (nN h hc) (ihx _ _ _ _ _ _ _ he Q ρ S H h U next)
   · rename_i hc;exact Ed (nN h hc) (ihy _ _ _ _ _ _ _ he Q ρ S H h U next)
   · cases he
 | block id b ih=>
   intro fr hp lo ex iP df du he Q ρ S H h U next
   unfold z7 at he;refine Qi ?_;split at he
   · rename_i Ju jg oC h1;cases he;exact ih _ _ _ _ _ _ _ h1 _ ρ S H h U λck S' H' e1 e2 e3 e4=>Q7 (next ck S' H' e1 e2 e3 e4)
   · rename_i j Ju jg oC h1;split at he
     ·rename_i hb;cases he;have:=Qs hb;subst this;exact ih _ _ _ _ _ _ _ h1 _ ρ S H h U λck S' H' e1 e2 e3 e4=>Qt (next ck S' H' e1 e2 e3 e4)
     ·rename_i hb;cases he;have:=NT hb;exact ih _ _ _ _ _ _ _ h1 _ ρ S H h U λck S' H' e1 e2 e3 e4=>wT this (next ck S' H' e1 e2 e3 e4)
   · rename_i Ju jg oC h1;cases he;exact ih _ _ _ _ _ _ _ h1 _ ρ S H h U λck S' H' e1 e2 e3 e4=>Qr (next ck S' H' e1 e2 e3 e4)
   · cases he
 | loop b ih=>
   intro fr hp lo ex iP df du he Q ρ S H h U next
   unfold z7 at he;exact Fh ih lf fr hp lo ex iP df du he Q ρ S H h U next
 | exit id=>
   intro fr hp lo ex iP df du he Q ρ S H h U next
   unfold z7 at he;cases he;exact iT (next ρ S H (Ext.refl _ _ _) h U (A' _))
 | ret=>
   intro fr hp lo ex iP df du he Q ρ S H h U next
   unfold z7 at he;cases he;exact Qm (next ρ S H (Ext.refl _ _ _) h U (A' _))
 | _=>
   intro fr hp lo ex iP df du he Q ρ S H h U next
   unfold z7 at he;cases he
end code
mutual
def SV.newN (lo hi:Nat):SV->List Nat->List Nat
 | .ptr g _,acc=>match C' lo g&&J' g hi with
   |true=>g::acc
   |false=>acc
 | .sl g _ _ _ _,acc=>match C' lo g&&J' g hi with
   |true=>g::acc
   |false=>acc
 | .mp g,acc=>match C' lo g&&J' g hi with
   |true=>g::acc
   |false=>acc
 | .fn _ a b,acc=>SV.newNs lo hi a (SV.newNs lo hi b acc)
 | .agg l,acc=>SV.newNs lo hi l acc
 | .tup l,acc=>SV.newNs lo hi l acc
 |_,acc=>acc
def SV.newNs (lo hi:Nat):List SV->List Nat->List Nat
 |[],acc=>acc
 |x::l,acc=>SV.newN lo hi x (SV.newNs lo hi l acc)
end
def SF (lo hi:Nat):List (SV×SV×Nat)->List Nat->List Nat
 |[],acc=>acc
 |(k,v,_)::r,acc=>SV.newN lo hi k (SV.newN lo hi v (SF lo hi r acc))
def HO.newN (lo hi:Nat):HO->List Nat->List Nat
 | .blk cs _,acc=>SV.newNs lo hi cs acc
 | .row cs _ _ _,acc=>SV.newNs lo hi cs acc
 | .ro cs,acc=>SV.newNs lo hi cs acc
 | .mp es _,acc=>SF lo hi es acc
 | .it (some g) _ _ _,acc=>g::acc
 | .it none _ _ _,acc=>acc
def WQ (lo hi:Nat):dq->List Nat->List Nat
 |[],acc=>acc
 | (g,o)::r,acc=>match C' lo g&&J' g hi with
   |true=>WQ lo hi r acc
   |false=>HO.newN lo hi o (WQ lo hi r acc)
def GW (lo hi:Nat)(hp:dq):Nat->List Nat->List Nat->List Nat
 |0,_,seen=>seen
 | f + 1,work,seen=>match work with
   |[]=>seen
   | g ::r=>match jo seen g with
     |true=>GW lo hi hp f r seen
     | false=>match mc hp g with
       |some o=>GW lo hi hp f (HO.newN lo hi o r) (g::seen)
       |none=>GW lo hi hp f r seen
def Cl (lo hi:Nat)(seen:List Nat):dq->dq
 |[]=>[]
 | (g,o)::r=>match C' lo g&&J' g hi&& !jo seen g with
   |true=>Cl lo hi seen r
   |false=>(g,o)::Cl lo hi seen r
def my (lo hi:Nat)(v:SV)(hp0 hp:dq):dq:=match C' (hp0.length+5) hp.length with
 |true=>Cl lo hi (GW lo hi hp 2000 (SV.newN lo hi v (WQ lo hi hp [])) []) hp
 |false=>hp
section my
variable {ρ:Env} {E:List Value} {C:Ctx}
theorem Ql.dropMid {Φ pre post:List Fact} {a:Fact} {w:World} (h:Ql C Φ (pre++a::post) w):Ql C Φ (pre++post) w:=by
 refine h.drop pre.length ax ?_;rw[List.eraseIdx_append_of_length_le (A' _)];simp
theorem uE {lo hi:Nat} {seen:List Nat}:∀{hp:dq} {H:List Fact},jQ ρ E hp H->∃H',jQ ρ E (Cl lo hi seen hp) H'/\∀pre w,Ql C [] (pre++H) w->Ql C [] (pre++H') w
 |[],[],_=>⟨[],trivial,λ_ _ h=>h⟩
 | (g,o)::r,φ::H,U=>by
   obtain⟨H',h1,h2⟩:=uE U.2;unfold Cl;split;· exact⟨H',h1,λpre w h=>h2 pre w h.dropMid⟩
   ·refine⟨φ::H',⟨U.1,h1⟩,λpre w h=>?_⟩;have:=h2 (pre++[φ]) w (cx h);simpa using this
 |[],_::_,U=>U.elim
 |_::_,[],U=>U.elim
theorem vk {lo hi:Nat} {v:SV} {hp0 hp:dq} {H:List Fact} (U:jQ ρ E hp H):∃H',jQ ρ E (my lo hi v hp0 hp) H'/\∀w,Ql C [] H w->Ql C [] H' w:=by
 unfold my;split
 ·obtain⟨H',h1,h2⟩:=uE (C:=C) U;exact⟨H',h1,λw h=>by simpa using h2 [] w (cx h)⟩
 · exact⟨H,U,λ_ h=>h⟩
end my
def tM:Nat->List SV->Tr->Tr
 |_,[],t=>t
 |k,v::l,t=>tM (k+1) l (t.put k v)
def FH (P:Program) (fr:Tr) (hp:dq):List ResultVar->Option (List SV)
 |[]=>some []
 | r ::l=>match(match r with
     | .tmp t=>fr.get t
     | .cell q t=>match fr.get q with
       |  some (.ptr g off)=>match QT P t,gx P t with
          | some sz,some U=>match rl hp g off sz with
            | some cs=>match U with
              |true=>some (.agg cs)
              | false=>match cs with
                |[c]=>some c
                |_=>none
            |none=>none
          |_,_=>none
       |_=>none),FH P fr hp l with
  |some v,some vs=>some (v::vs)
  |_,_=>none
def VP (P:Program) (call:AH) (lf:Nat):AH:=λf args hp lo hi=>match P.funcs[f]? with
 |none=>none
 | some fn=>match fn.body with
   |none=>none
   | some body=>match C' args.length fn.ntmps&&J' fn.ntmps 16000 with
     |false=>none
     | true=>match z7 P call fn.ntmps lf hi body (tM 0 args .nil) hp lo with
       |some (.exit _,_,_,_)=>none
       |  some (_,fr,U,du)=>match FH P fr U fn.results.toList with
          |some [v]=>some (v,my lo hi v hp U,du)
          |some vs=>some (.tup vs,my lo hi (.tup vs) hp U,du)
          |none=>none
       |none=>none
def Kp (P:Program)(U:Nat):Nat->AH
 |0=>λ_ _ _ _ _=>none
 |d+1=>VP P (Kp P U d) U
section a2m
variable {P:Program} {C:Ctx} {n:FD} {E:List Value} {call:AH}
theorem tN {ρ:Env}:∀(args:List SV)(vals:List Value)(k:Nat)(t:Tr)(S:List (Nat×Value)),SV.dens ρ E args=some vals->k+args.length<16001->(∀j v,t.get j=some v->j<k/\∃x,v.den ρ E=some x/\look S j=some x)->
   ∀j v,(tM k args t).get j=some v->∃x,v.den ρ E=some x/\(look S j=some x/\j<k\/k<=j/\vals[j-k]? =some x)
 | [],vals,k,t,S,h,hk,ht,j,v,U=>by
   obtain⟨h1,x,h2,h3⟩:=ht j v U;exact⟨x,h2,.inl ⟨h3,h1⟩⟩
 | a ::l,vals,k,t,S,h,hk,ht,j,v,U=>by
   obtain⟨u,us,rfl,h1,h2⟩:=QI h
   obtain ⟨x,h3,h4⟩:=tN l us (k+1) (t.put k a) ((k,u)::ft k S) h2 (by simp at hk;omega) (λj v U=>by
    unfold Tr.put at U;rw[Tr.get_set 14 _ _ _ (by simp at hk;omega)]at U;split at U;· rename_i e;cases U;subst e;exact⟨an,u,h1,by simp[look]⟩
    ·rename_i de;obtain⟨h5,y,h6,h7⟩:=ht j v U;refine⟨an,y,h6,?_⟩;have:y' k j=false:=by cases hb:y' k j with|false=>rfl|true=>exact absurd (Qs hb).symm de
     simp only[look,this];rw[Qcl de];exact h7) j v U
   refine⟨x,h3,?_⟩;rcases h4 with⟨h4,h5⟩|⟨h4,h5⟩
   ·by_cases e:j=k
    ·subst e;simp[look]at h4;exact .inr ⟨A' _,by simp[h4]⟩
    ·have:y' k j=false:=by cases hb:y' k j with|false=>rfl|true=>exact absurd (Qs hb).symm e
     simp only[look,this]at h4;rw[Qcl e]at h4;exact .inl ⟨h4,an⟩
   · exact .inr ⟨an,by rw[show j-k=(j-(k+1))+1 from by omega];simpa using h5⟩
theorem Co:∀{vals:List Value} {k j:Nat} {x:Value},k<=j->vals[j-k]? =some x->look (Dw k vals) j=some x
 |[],_,_,_,_,h=>by simp at h
 | v ::l,k,j,x,hk,h=>by
   unfold Dw look;cases hb:y' k j with
   |true=>have:=Qs hb;subst this;simpa using h
   | false=>
     have:=NT hb;refine Co an ?_;rw[show j-k=(j-(k+1))+1 from by omega]at h;simpa using h
theorem yi {ρ:Env} {fr:Tr} {hp:dq} {S:List (Nat×Value)} {H:List Fact} (h:Rel ρ E fr hp S H):∀{rs:List ResultVar} {vs:List SV},FH P fr hp rs=some vs->∃xs,SV.dens ρ E vs=some xs/\∀(a:Act) w,gU n S a->Ql C [] H w->(rs.mapM (K6 a.tmps)).run P w=.ok xs w
 |[],vs,he=>by cases he;exact⟨[],rfl,λa w _ _=>ax⟩
 | r :: l,vs,he=>by
   unfold FH at he;split at he
   ·rename_i v vs' h1 h2;cases he;obtain⟨xs,h3,h4⟩:=yi h h2
    have key:∃x,v.den ρ E=some x/\∀(a:Act) w,gU n S a->Ql C [] H w->(K6 a.tmps r).run P w=.ok x w:=by
     split at h1
     ·rename_i t;obtain⟨x,U,h6⟩:=h.fr _ _ h1;exact⟨x,U,λa w hf hw=>kd (C:=C) (Φ:=[]) h6 a w hf hw⟩
     ·rename_i q t;split at h1
      ·rename_i g off hq;split at h1
       ·rename_i sz ag hs ha;split at h1
        ·rename_i cs sQ;obtain⟨b,c,ws,k1,k2,k3,k4⟩:=mQ (C:=C) h.hp sQ;obtain⟨x,U,h6⟩:=h.fr _ _ hq;simp only[SV.den,k1,T',Option.some.injEq]at U;subst U;have hl:ws.length=sz:=by rw[B3 k2,k3]
         have fk:∀u,lY ag ws=some u->∀(a:Act) w,gU n S a->Ql C [] H w->(K6 a.tmps (.cell q t)).run P w=.ok u w:=λu hu a w hf hw=>by
          have:=hf.eval (x:=.tmp q) h6;simp only[Act.eval]at this;simp only[K6,this,Sem.run_bind];simp[asAddr,TT (k4 w hw) hs ha hl hu]
         split at h1
         ·cases h1;exact⟨_,tX k2,fk _ rfl⟩
         ·split at h1
          ·rename_i c1;cases h1;obtain⟨u,us,rfl,k5,k6⟩:=QI k2;cases k6;exact⟨u,k5,fk u rfl⟩
          · cases h1
        · cases h1
       · cases h1
      · cases h1
    obtain⟨x,U,h6⟩:=key;refine⟨x::xs,Eb U h3,λa w hf hw=>?_⟩;rw[List.mapM_cons];simp[h6 a w hf hw,h4 a w hf hw]
   · cases he
theorem yj (hD:n.D=[]) {S:List (Nat×Value)} {fn:Func} {R:Value->List Fact->List Fact->Prop} {v:Value} {H H2:List Fact} (hr:∀a w,gU n S a->Ql C [] H w->(results fn a.tmps).run P w=.ok v w)(hR:R v [] H2)(hs:∀w,Ql C [] H w->Ql C [] H2 w) {e:Exit} (he:e=.ret\/e=.normal):
  WE C n (bodyPost P fn (tD C R)) [] H S e:=by
 intro a w U hw;have h1:bodyPost P fn (tD C R) .ret a w:=⟨U.defers.trans hD,v,hr a w U hw,v,[],H2,rfl,hR,hs w hw⟩
 rcases he with rfl|rfl<;>exact h1
theorem Pw {fn:Func} {ρ U:Env} {lo hi oC du:Nat} {fr:Tr} {hp jg df:dq} {S':List (Nat×Value)} {H':List Fact} {v:SV} {e:Exit} (hr:(match FH P fr jg fn.results.toList with|some [v]=>some (v,my lo hi v hp jg,oC)|some vs=>some (.tup vs,my lo hi (.tup vs) hp jg,oC)|none=>none)=some (v,df,du))
  (e1:Ext ρ U lo hi) (e2:Rel U E fr jg S' H') (e3:nO U oC hi) (e4:lo<=oC) (hx:e=.ret\/e=.normal):
  WE C ⟨fn.ntmps,[]⟩ (bodyPost P fn (tD C λx bo Hr=>bo=[]/\∃U,Ext ρ U lo hi/\v.den U E=some x/\jQ U E df Hr/\nO U du hi/\lo<=du)) [] H' S' e:=by
 have main:∀vs,FH P fr jg fn.results.toList=some vs->∃xs,SV.dens U E vs=some xs/\∀(a:Act) w,gU ⟨fn.ntmps,[]⟩ S' a->Ql C [] H' w->(results fn a.tmps).run P w=.ok (if h:xs.toArray.size=1 then xs.toArray[0]else .tuple xs.toArray) w:=λvs R4=>by
  obtain⟨xs,h1,h2⟩:=yi (P:=P) (C:=C) (n:=⟨fn.ntmps,[]⟩) e2 R4;refine⟨xs,h1,λa w gj hw=>?_⟩;have h3:=h2 a w gj hw
  have h4:(fn.results.mapM (K6 a.tmps)).run P w=.ok xs.toArray w:=by
   have h5:fn.results.mapM (K6 a.tmps)=List.toArray<$>fn.results.toList.mapM (K6 a.tmps):=by rw[Array.mapM_eq_mapM_toList]
   rw[h5];simp only[map_eq_pure_bind];simp[h3]
  rw[Qbs];simp only[Sem.run_bind,h4,Result.andThen_ok];rfl
 split at hr
 ·rename_i v' R4;cases hr;obtain⟨xs,h1,h2⟩:=main _ R4;obtain⟨x,us,rfl,h3,h4⟩:=QI h1;cases h4;obtain⟨H2,s1,s2⟩:=vk (C:=C) (lo:=lo) (hi:=hi) (v:=v) (hp0:=hp) e2.hp;exact yj rfl (λa w gj hw=>by simpa using h2 a w gj hw) ⟨rfl,U,e1,h3,s1,e3,e4⟩ s2 hx
 ·rename_i vs de R4;cases hr;obtain⟨xs,h1,h2⟩:=main _ R4;have hl:=B3 h1
  have Wf:¬xs.length=1:=λe=>by
   rw[hl]at e;obtain⟨y,rfl⟩:=List.length_eq_one_iff.1 e;exact de y rfl
  obtain⟨H2,s1,s2⟩:=vk (C:=C) (lo:=lo) (hi:=hi) (v:=.tup vs) (hp0:=hp) e2.hp
  exact yj rfl (v:=.tuple xs.toArray) (λa w gj hw=>by
   have:=h2 a w gj hw;rw[dif_neg (cx Wf)]at this;exact this) ⟨rfl,U,e1,by simp[SV.den,h1],s1,e3,e4⟩ s2 hx
 · cases hr
theorem Pv (fa:K3 P E call)(lf:Nat):K3 P E (VP P call lf):=by
 intro f args hp lo hi v df du he ρ vals H gY hH hf;unfold VP at he;split at he;· cases he
 ·rename_i fn kS;split at he;· cases he
  ·rename_i body a0I;split at he;· cases he
   ·rename_i hb;simp only[j']at hb;have hle:=hb.1;have h16:=q' hb.2;rw[<-B3 gY]at hle;refine Qp kS a0I rfl hle rfl λC=>?_
    have hlen:=B3 gY;have a0U:=q' hle
    have a2M:Rel ρ E (tM 0 args .nil) hp (Dw 0 vals) H:=⟨λk u hk=>by
     obtain⟨x,h1,h2⟩:=tN args vals 0 .nil [] gY an (λj v hj=>by cases hj) k u hk;rcases h2 with⟨h2,h3⟩|⟨h2,h3⟩
     · omega
     · exact⟨x,h1,Co (t! _) h3⟩,hH⟩
    have fin:∀{ex fr U oC},z7 P call fn.ntmps lf hi body (tM 0 args .nil) hp lo=some (ex,fr,U,oC)->(∀id,ex≠.exit id)->(match FH P fr U fn.results.toList with|some [v]=>some (v,my lo hi v hp U,oC)|some vs=>some (.tup vs,my lo hi (.tup vs) hp U,oC)|none=>none)=some (v,df,du)->
      WC P C ⟨fn.ntmps,[]⟩ (bodyPost P fn (tD C λx bo Hr=>bo=[]/\∃ck,Ext ρ ck lo hi/\v.den ck E=some x/\jQ ck E df Hr/\nO ck du hi/\lo<=du)) [] H (Dw 0 vals) body:=by
     intro ex fr U oC hc hex hr;refine Ey fa body _ _ _ _ _ _ _ hc _ ρ _ H a2M hf λck S' H' e1 e2 e3 e4=>?_
     have hx:ex.to=.ret\/ex.to=.normal:=by
      cases ex with
      |normal=>exact .inr rfl
      |ret=>exact .inl rfl
      |exit id=>exact absurd rfl (hex id)
     exact Pw hr e1 e2 e3 e4 hx
    split at he;· cases he
    ·rename_i ex fr U oC de hc;exact fin hc (λid e=>de id e) he
    · cases he
theorem Bk (E:List Value)(U:Nat):∀d,K3 P E (Kp P U d)
 |0=>λf args hp lo hi v df du he=>by cases he
 |d+1=>Pv (Bk E U d) U
end a2m
end
end
section
open Go Go.RowKit
section
variable {P:Program} {C:Ctx} {n:FD} {Q:Exit->Act->World->Prop} {Φ:List Fact} {H:List Fact} {S S':List (Nat×Value)} {ops:Array Oper} {rest:List Oper} {o:Oper} {d:Nat} {au L:List Nat} {D:List (Nat×Fact)}
variable {x y:Operand}{k:IntKind}{t:TypeId}{s:ByteArray}{z:Int}{v:Value}
def En (P:Program)(n:FD)(S:List (Nat×Value))(o:Oper)(v:Value):Prop:=∀a w,gU n S a->(execOp a.eval o).run P w=.ok (.value v) w
theorem HM (hg:QM ops S o=some true)(hd:o.dst=some d)(hn:J' d n=true)(U:ft d S=S')(h:En P n S o v)(next:WL P C n Q Φ H ((d,v)::S') ops rest):WL P C n Q Φ H S ops (o::rest):=
 HT hg hd hn U (λa w hf _=>h a w hf) next
def Ng (P:Program)(t:Nat):Bool:=match P.underlying t with
 |some .string=>true
 |_=>false
theorem B4 {t:Nat} (h:Ng P t=true):P.underlying t=some .string:=by
 unfold Ng at h;split at h;· rename_i U;exact U
 · cases h
def Ak (P:Program)(t:Nat):Option IntKind:=match P.underlying t with
 |some (.int k)=>some k
 |_=>none
theorem QA {t:Nat} (h:Ak P t=some k):P.underlying t=some (.int k):=by
 unfold Ak at h;split at h;· rename_i U;cases h;exact U
 · cases h
theorem yl (ho:o.op=.call {callee:=.builtin .len,args:=#[x],argTypes:=#[t]})(hx:da S x=some (.string s))(ht:Ng P t=true):En P n S o (.int .i64 ((s.size:Nat):Int)):=
 λa w U=>by simp[execOp,ho,resolve,invoke,builtin,Builtin.len_,U.eval hx,run_underlying (B4 ht),goInt]
def Rk (a b:Int):Int:=if b<a then b else a
theorem WY {ts:Array TypeId} {j:IntKind} {a b:Int} (ho:o.op=.call {callee:=.builtin .min,args:=#[x,y],argTypes:=ts})(hx:da S x=some (.int k a))(hy:da S y=some (.int j b)):En P n S o (.int k (Rk a b)):=
 λc w U=>by simp[execOp,ho,resolve,invoke,builtin,Builtin.min_,Builtin.min2,U.eval hx,U.eval hy,Rk]
theorem MD {b:UInt8} (j:Nat)(ho:o.op=.index t x y)(hx:da S x=some (.string s))(hy:da S y=some (.int k z))(hz:z=(j:Int))(hb:s[j]? =some b)(ht:Ng P t=true):En P n S o (.int .u8 ((b.toNat:Nat):Int)):=by
 subst hz;exactλa w U=>by simp[execOp,ho,U.eval hx,U.eval hy,Instr.index,asIntOf,run_underlying (B4 ht),hb]
theorem np {u:ByteArray} (h:s.size+u.size<=9223372036854775807)(w:World):(do eqGuard .add t x y (.string s) (.string u);binOp .add t (.string s) (.string u):Sem Value).run P w=.ok (.string (s++u)) w:=by
 have U:IntKind.max .i64=9223372036854775807:=bf
 have h2:¬(((s.size+u.size:Nat):Int)>IntKind.max .i64):=by rw[U];omega
 simp only[eqGuard,binOp,Op.stringOp];rw[if_neg h2];rfl
theorem sY {s:TypeId} {k' U:IntKind} (ho:o.op=.convert s t x)(hx:da S x=some (.int k z))(hs:Ak P s=some k')(ht:Ak P t=some U):En P n S o (.int U (U.wrap z)):=λa w hf=>by
 simp[execOp,ho,hf.eval hx,convert,run_underlying (QA hs),run_underlying (QA ht),Conv.intToInt]
theorem A6 (ho:o.op=.unOp .neg t x)(hx:da S x=some (.int k z)):En P n S o (.int k (k.wrap (0-z))):=λa w U=>by
 simp[execOp,ho,U.eval hx,Op.unary,Op.intArith]
def KO (P:Program)(t k:Nat):Option (Nat×Nat):=match P.underlying t with
 |some (.struct U)=>(U[k]?).map λf=>(f.type,f.offset)
 |_=>none
theorem MC {t k u off sz:Nat} {cs:Array Value} {ag:Bool} (ho:o.op=.field t x k)(hx:da S x=some (.agg cs))(hk:KO P t k=some (u,off))(ha:gx P u=some ag)(hs:QT P u=some sz)(hv:(if ag=true then some (.agg (cs.extract off (off+sz)))else cs[off]?)=some v):En P n S o v:=λc w hf=>by
 unfold KO at hk;split at hk
 ·rename_i fs hu;cases U:fs[k]? with
  |none=>rw[U]at hk;cases hk
  | some f=>
    rw[U]at hk;simp only[T',Option.some.injEq,Prod.mk.injEq]at hk;obtain⟨rfl,rfl⟩:=hk
    have hp:(part f.type cs f.offset).run P w=.ok v w:=by
     unfold part;simp only[Sem.run_bind,vo ha,Result.andThen];cases ag with
     | true=>
       simp only[if_true,Sem.run_bind,AD hs,Result.andThen]at hv⊢;cases hv;rfl
     | false=>
       simp only[Bool.false_eq_true,if_false]at hv⊢;rw[hv];rfl
    simp[execOp,ho,hf.eval hx,Instr.field,run_underlying hu,U,asAgg,hp]
 · cases hk
end
end
section
open Go Go.RowKit
variable {w:World}{r clock:Nat}{E:Array MapEntry}
theorem OK {P:Program} (h:w.heap[r]? =some (.map E clock)):(getObj r).run P w=.ok (.map E clock) w:=by simp[getObj,Sem.run,h]
theorem Yj {P:Program} (U:Obj)(h:w.heap[r]? =some (.map E clock)):(setObj r U).run P w=.ok () {w with heap:=w.heap.setIfInBounds r U}:=by simp[setObj,Sem.run,h]
theorem ru {α:Type} {E:Array α} {i:Nat} {e:α} {f:α->α} (h:E.toList[i]? =some e):(E.modify i f).toList=E.toList.set i (f e):=by
 apply List.ext_getElem?;intro q;rw[A!];have bp:=(z'.1 h).1;by_cases U:i=q
 ·subst U;rw[if_pos rfl,if_pos bp];have h2:E[i]? =some e:=by simpa using h
  simp[r!,h2]
 ·rw[if_neg U];simp[r!,U]
structure tv (P:Program) (k:TypeId) (κ:Type) where
 enc:κ->Value
 ok:κ->Prop
 check:∀{x},ok x->∀b w,(Instr.checkKey b 10000 k (enc x)).run P w=.ok () w
 find:∀{x},ok x->∀(es:List MapEntry) (ks:List κ),es.map (·.key)=ks.map enc->(∀y∈ks,ok y)->∀w,∃r,(Instr.findKey k (enc x) es).run P w=.ok r w/\((r=none/\x∉ks)\/∃(i:Nat) (e:MapEntry),r=some (i,e.val)/\es[i]? =some e/\ks[i]? =some x)
 stays:∀{x},ok x->∀w,(Instr.keyThatStays (enc x) (enc x)).run P w=.ok (enc x) w
theorem Qbl {κ:Type} [DecidableEq κ] {d:TypeDesc} {enc:κ->Value} (hs:∀x y,Instr.sameNow d (enc x) (enc y)=some (decide (x=y)))(x:κ):∀(es:List MapEntry)(ks:List κ)(i:Nat),es.map (·.key)=ks.map enc->
   ∃r,Instr.findNow d (enc x) es i=some r/\((r=none/\x∉ks)\/∃(j:Nat) (e:MapEntry),r=some (i+j,e.val)/\es[j]? =some e/\ks[j]? =some x)
 |[],[],i,_=>⟨none,rfl,.inl ⟨rfl,ax⟩⟩
 |[],_::_,_,h=>by cases h
 |_::_,[],_,h=>by cases h
 | e::es,y::ks,i,h=>by
   simp only[R',List.cons.injEq]at h;obtain⟨h1,h2⟩:=h;unfold Instr.findNow;rw[h1,hs];by_cases GN:x=y
   ·subst GN;simp only[decide_true];exact⟨_,rfl,.inr ⟨0,e,rfl,rfl,rfl⟩⟩
   ·obtain⟨r,h3,h4⟩:=Qbl hs x es ks (i+1) h2;simp only[GN,decide_false];refine⟨r,h3,?_⟩;rcases h4 with⟨rfl,h5⟩|⟨j,U,rfl,h6,h7⟩
    · exact .inl ⟨rfl,by simp[GN,h5]⟩
    · exact .inr ⟨j+1,U,by rw[x!,Nat.add_comm 1 j],h6,h7⟩
theorem pV {P:Program} {k:TypeId} {v:Value} {t:TypeDesc} (hk:P.underlying k=some t)(h:match t,v with| .interface _,_=>False| .array _ _,_=>False| .struct _,_=>False|_,_=>True)(b:Bool)(n:Nat)(w:World):(Instr.checkKey b (n+1) k v).run P w=.ok () w:=by
 unfold Instr.checkKey;simp only[Sem.run_bind,run_underlying hk,Result.andThen];cases t<;>first|rfl|exact h.elim|(cases v<;>first|rfl|exact h.elim)
theorem Kn (n:Nat)(k:IntKind)(x:Int):Instr.sameBits n (.int k x) (.int k x)=true:=by unfold Instr.sameBits;simp
theorem Ko (n:Nat)(x:ByteArray):Instr.sameBits n (.string x) (.string x)=true:=by unfold Instr.sameBits;exact(Go.MapKept.bytes_beq x x).2 rfl
theorem vg {P:Program} {v:Value} (h:Instr.sameBits 10000 v v=true)(w:World):(Instr.keyThatStays v v).run P w=.ok v w:=by
 unfold Instr.keyThatStays;rw[if_pos h];rfl
def gM {P:Program} {k:TypeId} {q:IntKind} (hk:P.underlying k=some (.int q)):tv P k Int where
 enc x:=.int q x
 ok _:=True
 check:=λ_ b w=>pV hk trivial b 9999 w
 find:=λ{x} _ es ks h _ w=>by
  obtain⟨r,h1,U⟩:=Qbl (d:=.int q) (enc:=λx=>Value.int q x) (λx y=>by simp[Instr.sameNow];rfl) x es ks 0 h;refine⟨r,?_,?_⟩;· simp[Instr.findKey,run_underlying hk,h1]
  · simpa using U
 stays:=λ_ w=>vg (Kn _ _ _) w
def Ef {P:Program} {k:TypeId} (hk:P.underlying k=some .string):tv P k ByteArray where
 enc x:=.string x
 ok _:=True
 check:=λ_ b w=>pV hk trivial b 9999 w
 find:=λ{x} _ es ks h _ w=>by
  obtain⟨r,h1,U⟩:=Qbl (d:=.string) (enc:=λx=>Value.string x) (λx y=>congrArg some (Bool.eq_iff_iff.2 ((Go.MapKept.bytes_beq x y).trans ax))) x es ks 0 h;refine⟨r,?_,?_⟩;· simp[Instr.findKey,run_underlying hk,h1]
  · simpa using U
 stays:=λ_ w=>vg (Ko _ _) w
section
variable {κ α:Type} [DecidableEq κ]
def iK (x:κ):List (κ×α)->Option α
 |[]=>none
 |y::l=>if y.1=x then some y.2 else iK x l
def kX (x:κ)(a:α):List (κ×α)->List (κ×α)
 |[]=>[(x,a)]
 |y::l=>if y.1=x then(x,a)::l else y::kX x a l
theorem oE {x:κ} {a:α}:∀{l:List (κ×α)} {i:Nat},(l.map (·.1)).Nodup->l[i]? =some (x,a)->iK x l=some a
 |[],i,_,h=>by simp at h
 | y::l,0,_,h=>by
   simp only[V',Option.some.injEq]at h;subst h;simp[iK]
 | y::l,i+1,U,h=>by
   simp only[k!]at h;simp only[R',p!]at U;have de:¬y.1=x:=λe=>U.1 (X'.2 ⟨_,P' h,e.symm⟩)
   unfold iK;rw[if_neg de];exact oE U.2 h
theorem mZ {x:κ}:∀{l:List (κ×α)},x∉l.map (·.1)->iK x l=none
 |[],_=>rfl
 | y::l,h=>by
   simp only[R',B',not_or]at h;unfold iK;rw[if_neg (λe=>h.1 e.symm)];exact mZ h.2
theorem Cp {x:κ} {a:α}:∀{l:List (κ×α)},x∉l.map (·.1)->kX x a l=l++[(x,a)]
 |[],_=>rfl
 | y::l,h=>by
   simp only[R',B',not_or]at h;unfold kX;rw[if_neg (λe=>h.1 e.symm),Cp h.2];rfl
theorem zT {x:κ} {a b:α}:∀{l:List (κ×α)} {i:Nat},(l.map (·.1)).Nodup->l[i]? =some (x,b)->kX x a l=l.set i (x,a)
 |[],i,_,h=>by simp at h
 | y::l,0,_,h=>by
   simp only[V',Option.some.injEq]at h;subst h;simp[kX]
 | y::l,i+1,U,h=>by
   simp only[k!]at h;simp only[R',p!]at U;have de:¬y.1=x:=λe=>U.1 (X'.2 ⟨_,P' h,e.symm⟩)
   unfold kX;rw[if_neg de,zT U.2 h];rfl
end
def kN {κ α:Type} {P:Program} {k:TypeId} (K:tv P k κ)(ag:Bool)(R:fq α)(N F:ep)(b:Nat)(es:List (κ×α))(w:World):Prop:=
 N b/\∃(E:Array MapEntry) (clock:Nat),w.heap[b]? =some (.map E clock)/\E.toList.map (·.key)=es.map (λx=>K.enc x.1)/\
   (∀(i:Nat) (e:MapEntry) (x:κ×α),E.toList[i]? =some e->es[i]? =some x->∃cs,lY ag cs=some e.val/\R.p F w cs x.2)/\
   (es.map (·.1)).Nodup/\(∀x∈es,K.ok x.1)/\(E.toList.map (·.born)).Nodup/\∀e∈E.toList,e.born<clock
theorem kN.good {κ α:Type} {P:Program} {k:TypeId} {K:tv P k κ} {ag:Bool} {R:fq α} {b:Nat} {es:List (κ×α)} {N N' F G:ep} {w U:World} (hN:∀k,N k->N' k)(ha:ia N w U)(hF:∀k,F k->G k)(hb:ia F w U)(h:kN K ag R N F b es w):kN K ag R N' G b es U:=by
 obtain⟨h1,E,clock,h2,h3,h4,h5⟩:=h;refine⟨hN _ h1,E,clock,(ha b h1).trans h2,h3,λi e x hi hx=>?_,h5⟩;obtain⟨cs,q1,q2⟩:=h4 i e x hi hx;exact⟨cs,q1,R.good hF hb q2⟩
def kG {κ α:Type} {P:Program} {k:TypeId} (K:tv P k κ)(ag:Bool)(R:fq α)(b:Nat)(es:List (κ×α)):Fact:=.duo (λN F w=>kN K ag R N F b es w) kN.good
def Eh:fq Value where
 p _ _ cs x:=cs=[x]/\x.oneCell'=true
 good:=λ_ _ h=>h
 one:=λh u hu=>by
  rw[h.1]at hu;simp at hu;subst hu;exact h.2
theorem Jc:qW Eh (λx (_:Unit)=>[x]) (λ_ _=>True) (λ_ _=>[]):=λ_ _ _ _ h=>⟨(),h.1,trivial,λ_ U=>by cases U⟩
section rules
variable {P:Program} {C:Ctx} {n:FD} {Q:Exit->Act->World->Prop} {Φ Φ':List Fact} {H H':List Fact} {S S':List (Nat×Value)} {ops:Array Oper} {rest:List Oper} {o:Oper} {d:Nat}
variable {κ α:Type} [DecidableEq κ] {k:TypeId} {K:tv P k κ} {ag:Bool} {R:fq α} {b:Nat} {es:List (κ×α)}
omit [DecidableEq κ] in
theorem Ql.allocMapE {w:World} (h:Ql C Φ H w)(K:tv P k κ)(ag:Bool)(R:fq α):Ql C Φ (kG K ag R w.heap.size []::H) (w.alloc (.map #[] 0)):=by
 obtain⟨F,N,hi⟩:=h;have U:Below w.heap.size w (w.alloc (.map #[] 0)):=(Below.refl _ _).alloc (A' _) _;refine⟨F,r6 (λk=>k=w.heap.size) N,(hi.grow U).push _ _ ⟨rfl,#[],0,heap_alloc_new w _,rfl,λi e x hi=>by simp at hi,ax,ax,ax,ax⟩ ?_ ?_⟩
 ·rintro k rfl;exact⟨ax,.inl hi.mod.size,λhf=>h! _ (hi.flt _ hf)⟩
 ·rintro i k hl rfl hn;exact h! _ (hi.nlt i _ hl hn).1
variable {t e:Nat}{x y:Operand}{i:κ}{c:Bool}
omit [DecidableEq κ] in
theorem rH (K:tv P k κ)(ag:Bool)(R:fq α)(hg:QM ops S o=some true)(hd:o.dst=some d)(hn:J' d n=true)(U:ft d S=S')(ho:o.op=.makeMap t none)
  (next:∀g,WL P C n Q Φ (kG K ag R g []::H) ((d,.map (some g))::S') ops rest):WL P C n Q Φ H S ops (o::rest):=
 B8 hg hd hn U λa w hf hw=>⟨_,_,(by simp[execOp,ho,run_makeMap]),_,_,hw.allocMapE K ag R,next _⟩
theorem kN.find {N F:ep} {w:World} (h:kN K ag R N F b es w) {x:κ} (hx:K.ok x):∃(E:Array MapEntry)(clock:Nat),w.heap[b]? =some (.map E clock)/\(Instr.checkKey E.isEmpty 10000 k (K.enc x)).run P w=.ok () w/\
  (((Instr.findKey k (K.enc x) E.toList).run P w=.ok none w/\iK x es=none/\x∉es.map (·.1))\/
    ∃(i:Nat) (e:MapEntry) (a:α) (cs:List Value),(Instr.findKey k (K.enc x) E.toList).run P w=.ok (some (i,e.val)) w/\E.toList[i]? =some e/\es[i]? =some (x,a)/\iK x es=some a/\lY ag cs=some e.val/\R.p F w cs a):=by
 obtain⟨_,E,clock,h2,h3,h4,h5,h6,_⟩:=h;refine⟨E,clock,h2,K.check hx _ _,?_⟩;have Ii:E.toList.map (·.key)=(es.map (·.1)).map K.enc:=by rw[h3,List.map_map];rfl
 obtain⟨r,q1,U⟩:=K.find hx E.toList (es.map (·.1)) Ii (λy hy=>by obtain⟨z,hz,rfl⟩:=X'.1 hy;exact h6 z hz) w;rcases U with⟨rfl,U⟩|⟨i,e,rfl,U,q3⟩
 · exact .inl ⟨q1,mZ U,U⟩
 ·right;rw[Z']at q3;cases Ly:es[i]? with
  |none=>rw[Ly]at q3;cases q3
  | some y=>
    rw[Ly]at q3;simp only[T',Option.some.injEq]at q3;obtain⟨y1,y2⟩:=y;simp only at q3;subst q3;obtain⟨cs,p1,p2⟩:=h4 i e _ U Ly;exact⟨i,e,y2,cs,q1,U,Ly,oE h5 Ly,p1,p2⟩
theorem kN.lookNo {N F:ep} {w:World} {t e:TypeId} {z:Value} (c:Bool)(h:kN K ag R N F b es w) {x:κ} (hx:K.ok x)(ht:P.underlying t=some (.map k e))(hz:j1 P e=some z)(hm:iK x es=none):
  (Instr.lookup t (.map (some b)) (K.enc x) c).run P w=.ok (if c then .tuple #[z,.bool false]else z) w:=by
 obtain⟨E,clock,h1,h2,U⟩:=h.find hx;rcases U with⟨U,_,_⟩|⟨i,e',a,cs,_,_,_,U,_⟩
 · simp only[Instr.lookup,Sem.run_bind,run_underlying ht,Result.andThen,OK h1,Sem.run_pure,h2,U,U6 hz w]
 · rw[hm]at U;cases U
theorem kN.lookYes {N F:ep} {w:World} {t e:TypeId} {a:α} (c:Bool)(h:kN K ag R N F b es w) {x:κ} (hx:K.ok x)(ht:P.underlying t=some (.map k e))(hm:iK x es=some a):
  ∃v cs,(Instr.lookup t (.map (some b)) (K.enc x) c).run P w=.ok (if c then .tuple #[v,.bool true]else v) w/\lY ag cs=some v/\R.p F w cs a:=by
 obtain⟨E,clock,h1,h2,U⟩:=h.find hx;rcases U with⟨_,U,_⟩|⟨i,e',a',cs,U,_,_,h4,h5,h6⟩
 · rw[hm]at U;cases U
 ·rw[hm]at h4;cases h4;refine⟨e'.val,cs,?_,h5,h6⟩;simp only[Instr.lookup,Sem.run_bind,run_underlying ht,Result.andThen,OK h1,Sem.run_pure,h2,U]
theorem vI {z v:Value} (j:Nat)(hg:QM ops S o=some true)(hd:o.dst=some d)(hn:J' d n=true)(hS:ft d S=S')(ho:o.op=.lookup t x y c)
  (bj:H[j]? =some (kG K ag R b es)) (hx:da S x=some (.map (some b))) (hy:da S y=some (K.enc i)) (hz:j1 P e=some z) (ht:P.underlying t=some (.map k e)) (hi:K.ok i) (hm:iK i es=none)
  (hv:(if c then .tuple #[z,.bool false]else z)=v) (next:WL P C n Q Φ H ((d,v)::S') ops rest):WL P C n Q Φ H S ops (o::rest):=by
 refine HT hg hd hn hS (λa w U hw=>?_) next
 obtain⟨F,N,fb⟩:=hw;have h0:kN K ag R (N j) F b es w:=fb.owns j _ bj;have:=h0.lookNo c hi ht hz hm;rw[hv]at this;simp[execOp,ho,U.eval hx,U.eval hy,this]
theorem Jd {a:α} {Λ:Type} {cells:α->Λ->List Value} {pure:α->Λ->Prop} {facts:α->Λ->List Fact} {v u:Λ->Value} (op:qW R cells pure facts)(j:Nat)(hg:QM ops S o=some true)(hd:o.dst=some d)(hn:J' d n=true)(hS:ft d S=S')(ho:o.op=.lookup t x y c)
  (bj:H[j]? =some (kG K ag R b es)) (hx:da S x=some (.map (some b))) (hy:da S y=some (K.enc i)) (ht:P.underlying t=some (.map k e)) (hi:K.ok i) (hm:iK i es=some a)
  (hu:∀r,lY ag (cells a r)=some (u r)) (hv:∀r,(if c then .tuple #[u r,.bool true]else u r)=v r) (next:∀r,pure a r->WL P C n Q (facts a r++Φ) H ((d,v r)::S') ops rest):WL P C n Q Φ H S ops (o::rest):=by
 refine B8 hg hd hn hS λac w hf hw=>?_;obtain⟨F,N,fb⟩:=hw;have h0:kN K ag R (N j) F b es w:=fb.owns j _ bj;obtain⟨v0,cs,h1,h2,h3⟩:=h0.lookYes c hi ht hm;obtain⟨r,q1,q2,q3⟩:=op F w cs a h3;subst q1;rw[hu r]at h2;cases h2;rw[hv r]at h1;refine⟨v r,w,?_,facts a r++Φ,H,⟨F,N,{fb with facts:=λφ U=>?_}⟩,next r q2⟩;· simp[execOp,ho,hf.eval hx,hf.eval hy,h1]
 ·rcases U'.1 U with U|U;· exact q3 φ U
  · exact fb.facts φ U
theorem World.set_mod {N:ep} {w:World} {b:Nat} {o o':Obj} (hb:w.heap[b]? =some o)(U:N b):Mod N w {w with heap:=w.heap.setIfInBounds b o'}:=
 ⟨rfl,rfl,rfl,ax,λq _ hn=>by
  have:b≠q:=λe=>hn (e▸U);simp[M',this]⟩
theorem kN.put {N F:ep} {w:World} {t e:TypeId} {x:κ} {u:α} {cs:List Value} {v:Value} (h:kN K ag R N F b es w)(hx:K.ok x)(ht:P.underlying t=some (.map k e))(hv:lY ag cs=some v):
  ∃w',(Instr.mapUpdate t (.map (some b)) (K.enc x) v).run P w=.ok () w'/\Mod N w w'/\(R.p F w' cs u->(∀cs y,R.p F w cs y->R.p F w' cs y)->kN K ag R N F b (kX x u es) w'):=by
 obtain⟨hN,E,clock,U,h3,h4,h5,h6,h7,h8⟩:=id h;obtain⟨E',a2d,g1,g2,g3⟩:=h.find hx;rw[U]at g1;cases g1
 have fk:∀r,(Instr.findKey k (K.enc x) E.toList).run P w=.ok r w->(Instr.mapUpdate t (.map (some b)) (K.enc x) v).run P w=((match r with
   | some (i,_)=>do
     let key <-Instr.keyThatStays (((E[i]?).map (·.key)).getD (K.enc x)) (K.enc x)
     setObj b (.map (E.modify i λe=>{e with key,val:=v}) clock)
   |none=>setObj b (.map (E.push {key:=K.enc x,val:=v,born:=clock}) (clock+1)):Sem Unit)).run P w:=λr hr=>by
  unfold Instr.mapUpdate;simp only[Sem.run_bind,run_underlying ht,Result.andThen,OK U,K.check hx,hr];rcases r with _|⟨_,_⟩<;>rfl
 rcases g3 with⟨q1,q2,q3⟩|⟨i,e',a,vS,q1,q2,q3,q4,q5,q6⟩
 ·refine ⟨_,(fk _ q1).trans (Yj _ U),World.set_mod U hN,λhu hold=>?_⟩;have bp:=(d!.1 U).1;refine⟨hN,E.push {key:=K.enc x,val:=v,born:=clock},clock+1,by simp[M',bp],?_⟩;rw[Cp q3];have hl:E.toList.length=es.length:=by simpa using congrArg List.length h3
  refine⟨by simp[h3],λq e y he hy=>?_,?_,λy hy=>?_,?_,λe he=>?_⟩
  ·simp only[g!]at he;rcases G! q es.length with hq|hq
   · rw[Q' an]at he;rw[Q' hq]at hy;obtain⟨Ku,p1,p2⟩:=h4 q e y he hy;exact⟨Ku,p1,hold _ _ p2⟩
   · rw[I' an,hl]at he;rw[I' hq]at hy
     have:q-es.length=0:=by
      have:=(z'.1 hy).1;simp at this;omega
     rw[this]at he hy;simp at he hy;subst he;subst hy;exact⟨cs,hv,hu⟩
  ·rw[F!];refine Y'.2 ⟨h5,ax,λa ha b' mj e=>?_⟩;simp at mj;subst mj;subst e;exact q3 ha
  ·rcases U'.1 hy with hy|hy;· exact h6 y hy
   · simp at hy;subst hy;exact hx
  ·simp only[g!,F!];refine Y'.2 ⟨h7,ax,λa ha b' mj e=>?_⟩;obtain⟨e0,he0,rfl⟩:=X'.1 ha;simp at mj;have:=h8 e0 he0;omega
  ·simp only[g!]at he;rcases U'.1 he with he|he;· have:=h8 e he;omega
   · simp at he;subst he;simp
 ·have hk:(((E[i]?).map (·.key)).getD (K.enc x))=K.enc x:=by
   have e1:(E.toList.map (·.key))[i]? =some e'.key:=by rw[Z',q2];rfl
   rw[h3,Z',q3]at e1;simp only[T',Option.some.injEq]at e1;have e2:E[i]? =some e':=by simpa using q2
   rw[e2];exact e1.symm
  have bp:=(d!.1 U).1
  refine ⟨_,(fk _ q1).trans (by
   simp only[hk,Sem.run_bind,K.stays hx,Result.andThen];exact Yj _ U),World.set_mod U hN,λhu hold=>?_⟩
  refine⟨hN,E.modify i λe=>{e with key:=K.enc x,val:=v},clock,by simp[M',bp],?_⟩;rw[ru q2,zT h5 q3];have JC:(es.set i (x,u)).map (·.1)=es.map (·.1):=by rw[n!];exact SA (by simp[q3])
  refine⟨?_,λq e y he hy=>?_,by rw[JC];exact h5,λy hy=>?_,?_,λe he=>?_⟩;· rw[n!,n!,h3]
  ·rw[A!]at he hy;by_cases hq:i=q
   · subst hq;rw[if_pos rfl]at he hy;rw[if_pos (z'.1 q2).1]at he;rw[if_pos (z'.1 q3).1]at hy;cases he;cases hy;exact⟨cs,hv,hu⟩
   · rw[if_neg hq]at he hy;obtain⟨Ku,p1,p2⟩:=h4 q e y he hy;exact⟨Ku,p1,hold _ _ p2⟩
  ·rcases e! hy with hy|rfl;· exact h6 y hy
   · exact hx
  ·rw[n!];have:(E.toList.map (·.born)).set i e'.born=E.toList.map (·.born):=SA (by rw[Z',q2];rfl);rw[this];exact h7
  ·rcases e! he with he|rfl;· exact h8 e he
   · exact h8 e' (P' q2)
omit [DecidableEq κ] in
theorem xW {β U:Type} (f:β->U):∀(l:List β)(j:Nat),(l.eraseIdx j).map f=(l.map f).eraseIdx j
 |[],_=>rfl
 |_::_,0=>rfl
 |a::l,j+1=>by simp only[List.eraseIdx_cons_succ,R'];rw[xW f l j]
theorem Jg {t e:Nat} {x y z:Operand} {i:κ} {u:α} {cs:List Value} {v:Value} (j:Nat)(hg:QM ops S o=some true)(hd:o.dst=none)(ho:o.op=.mapUpdate t x y z\/o.op=.insert t x y z)
  (bj:H[j]? =some (kG K ag R b es)) (hx:da S x=some (.map (some b))) (hy:da S y=some (K.enc i)) (hz:da S z=some v) (ht:P.underlying t=some (.map k e)) (hi:K.ok i) (hv:lY ag cs=some v)
  (hr:∀F w,(∀ψ∈Φ,ψ.p F w)->R.p F w cs u) (hH:H.set j (kG K ag R b (kX i u es))=H') (next:WL P C n Q Φ H' S ops rest):WL P C n Q Φ H S ops (o::rest):=by
 refine Dn (Φ':=Φ) hg hd (λa w hf hw=>?_) next
 obtain⟨F,N,U⟩:=hw;have bp:=(z'.1 bj).1;have h0:kN K ag R (N j) F b es w:=U.owns j _ bj;obtain⟨w',r1,r2,r3⟩:=h0.put (u:=u) hi ht hv;refine⟨w',by rcases ho with ho|ho<;>simp[execOp,ho,hf.eval hx,hf.eval hy,hf.eval hz,r1],?_⟩;subst hH;have gH:ia F w w':=λq hq=>r2.block q (U.flt q hq) (λhn=>(U.nlt j q bp hn).2.2 hq);refine⟨F,N,U.set j bp r2 _ (r3 (R.good (λ_ h=>h) gH (hr F w U.facts)) (λ_ _ h=>R.good (λ_ h=>h) gH h))⟩
end rules
end
section
open Go Go.RowKit
section
variable {C:Ctx} {Φ H:List Fact} {F:ep} {N:Nat->ep} {w:World}
theorem iD.shrink (h:iD C Φ H F N w)(k:Nat) {φ1:Fact} (hk:k<H.length)(B:ep)(hB:∀q,B q->N k q)(h1:φ1.op B F w):iD C Φ (H.set k φ1) F (λi=>if i=k then B else N i) w:=by
 have j6:∀i q,(if i=k then B else N i) q->N i q:=λi q U=>by
  by_cases e:i=k;· subst e;rw[if_pos rfl]at U;exact hB q U
  · rw[if_neg e]at U;exact U
 refine{h with owns:=λi ψ hi=>?_,nlt:=λi q hi U=>h.nlt i q (cx hi) (j6 i q U),apart:=λi j q hi hj de U ef=>h.apart i j q (cx hi) (cx hj) de (j6 i q U) (j6 j q ef)};by_cases e:i=k
 ·subst e;rw[o! hk]at hi;cases hi;rw[if_pos rfl];exact h1
 ·rw[v! (Ne.symm e)]at hi;rw[if_neg e];exact h.owns i ψ hi
theorem Ql.split {Λ:Type} (h:Ql C Φ H w)(k:Nat) {φ:Fact} {φ1 φ2:Λ->Fact} (hk:H[k]? =some φ)
  (hs:∀N F,φ.op N F w->∃(r:Λ) (A B:ep),(∀q,A q->N q)/\(∀q,B q->N q/\¬A q)/\(φ1 r).op B F w/\(φ2 r).op A F w):∃r,Ql C Φ (φ2 r::H.set k (φ1 r)) w:=by
 obtain⟨F,N,hi⟩:=h;have bp:=(z'.1 hk).1;obtain⟨r,A,B,hA,hB,h1,h2⟩:=hs (N k) F (hi.owns k φ hk);refine⟨r,F,_,(hi.shrink k bp B (λq U=>(hB q U).1) h1).push (φ2 r) A h2 (λq U=>hi.nlt k q bp (hA q U)) (λi q AP U ef=>?_)⟩;by_cases e:i=k
 ·subst e;simp only[if_true]at ef;exact(hB q ef).2 U
 ·simp only[if_neg e]at ef;exact hi.apart k i q bp (cx AP) (Ne.symm e) (hA q U) ef
theorem Ql.join (h:Ql C Φ H w)(k j:Nat) {φ φ1 φ2:Fact} (de:k≠j)(hk:H[k]? =some φ1)(hj:H[j]? =some φ2)
  (hs:∀A B F,φ1.op A F w->φ2.op B F w->(∀q,A q->¬B q)->φ.op (λq=>A q\/B q) F w):Ql C Φ ((H.set k φ).eraseIdx j) w:=by
 obtain⟨F,N,hi⟩:=h;have ly:=(z'.1 hk).1;have GK:=(z'.1 hj).1;have ku:=hs (N k) (N j) F (hi.owns k φ1 hk) (hi.owns j φ2 hj) (λq=>hi.apart k j q ly GK de);have hlen:((H.set k φ).eraseIdx j).length=H.length-1:=by rw[List.length_eraseIdx_of_lt (cx GK)];simp
 let at':Nat->Nat:=λi=>if i<j then i else i+1
 have zD:∀i,at' i≠j:=λi=>by simp only[at'];split<;>omega
 have bp:∀i,i<((H.set k φ).eraseIdx j).length->at' i<H.length:=λi AP=>by rw[hlen]at AP;simp only[at'];split<;>omega
 have wu:∀i i',at' i=at' i'->i=i':=λi i' e=>by simp only[at']at e;split at e<;>split at e<;>omega
 refine⟨F,λi=>if at' i=k thenλq=>N k q\/N j q else N (at' i),hi.flt,hi.fold,hi.fnew,hi.facts,λi ψ j7=>?_,λi q AP U=>?_,λi i' q AP W9 YB U ef=>?_,hi.mod⟩
 ·have Ix:(H.set k φ)[at' i]? =some ψ:=by
   rw[List.getElem?_eraseIdx]at j7;simp only[at'];split at j7<;>rename_i DU;· rw[if_pos DU];exact j7
   · rw[if_neg DU];exact j7
  by_cases e:at' i=k
  ·simp only[if_pos e];rw[e,o! ly]at Ix;cases Ix;exact ku
  ·simp only[if_neg e];rw[v! (Ne.symm e)]at Ix;exact hi.owns _ ψ Ix
 ·by_cases e:at' i=k
  ·simp only[if_pos e]at U;rcases U with U|U;· exact hi.nlt k q ly U
   · exact hi.nlt j q GK U
  ·simp only[if_neg e]at U;exact hi.nlt _ q (bp i AP) U
 ·by_cases e:at' i=k
  ·have e':at' i'≠k:=λe2=>YB (wu _ _ (e.trans e2.symm));simp only[if_pos e]at U;simp only[if_neg e']at ef;rcases U with U|U;· exact hi.apart k _ q ly (bp i' W9) (Ne.symm e') U ef
   · exact hi.apart j _ q GK (bp i' W9) (Ne.symm (zD i')) U ef
  ·simp only[if_neg e]at U;by_cases e':at' i'=k
   ·simp only[if_pos e']at ef;rcases ef with ef|ef;· exact hi.apart _ k q (bp i AP) ly e U ef
    · exact hi.apart _ j q (bp i AP) GK (zD i) U ef
   ·simp only[if_neg e']at ef;exact hi.apart _ _ q (bp i AP) (bp i' W9) (λq=>YB (wu _ _ q)) U ef
end
end
end Go.Proofs.YtocfkfhdcnjklaaGreatDoor
