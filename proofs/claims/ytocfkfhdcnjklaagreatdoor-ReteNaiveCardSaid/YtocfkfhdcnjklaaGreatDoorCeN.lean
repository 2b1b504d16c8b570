import Derived.Test.YtocfkfhdcnjklaaGreatDoorLight
import Derived.Maps.RangeRun
import Derived.MapKept
open Bool renaming and_eq_true->j',not_eq_true'->v!
open List renaming getElem?_eq_some_iff->q',mem_cons->B',getElem?_append_right->K',range->M',getElem?_append_left->R',getElem?_set_self->a!,append_assoc->b!,mem_of_getElem?->c!,all_eq_true->e!,map_cons->g!,mem_append->h!,getElem?_cons_zero->i!,mem_range->j!,mem_map->k!,nodup_append->l!,getElem?_map->n!,length_take->p!,getElem?_set_ne->q!,mem_or_eq_of_mem_set->u!,nodup_range->x!,not_mem_nil->y!,getElem?_cons_succ->z!,length_drop->A!,map_set->C!,nodup_cons->D!,nil_append->E!,filterMap_append->F!,mem_cons_of_mem->H!,getElem?_of_mem->I!,filterMap_cons->J!,filterMap_map->K!,length_append->L!,getElem?_set->M!,reverse_cons->N!,length_cons->O!,any_eq_true->P!,length_nil->R!,map_append->S!,length_set->T!,drop_zero->U!
open Nat renaming le_refl->y',beq->z',le_of_ble_eq_true->A',mul_le_mul_right->T',blt->W',ble->t!,succ_mul->B!,zero_le->Q!,add_assoc->V!,lt_irrefl->W!,lt_or_ge->X!,sub_zero->Y!
open Array renaming getElem?_setIfInBounds->Q',getElem?_eq_some_iff->d!,eq_empty_of_size_eq_zero->o!,toList_push->w!,getElem?_modify->G!
open Option renaming map_some->r!
namespace Go.Proofs.YtocfkfhdcnjklaaGreatDoor
section
open Go.RowKit
noncomputable section
section
variable {P:da} {C:Ctx} {n:FD} {ρ:Env} {E:aq bc} {fr:Tr} {hp:eI} {S:aq (Nat×bc)} {H:aq Fact}
def LY (P:da)(fr:Tr)(hp:eI)(lo:Nat)(op:Op):bf (bf SV×eI×Nat):=Fc P fr hp lo op
theorem BN (h:Rel ρ E fr hp S H) {lo hi U:Nat} {o:Oper} {r:bf SV} {ew:eI} (hf:nO ρ lo hi)(he:LY P fr hp lo o.op=some (r,ew,U))(DX:U<=hi):
  ∀(a:Act) w,gm n S a->Ql C [] H w->∃nx w',(execOp a.eval o).run P w=.ok nx w'/\xj C ρ E lo hi r ew U nx w':=by
 exact BM h hf he DX
def MV (P:da)(fr:Tr)(hp:eI)(o:Oper):bf (SV×bf Nat):=MX P fr hp o
theorem na (h:Rel ρ E fr hp S H) {o:Oper} {v:SV} {d:bf Nat} (he:MV P fr hp o=some (v,d)):mA P n ρ E hp S H o v d:=by
 exact FH h he
end
end
end
section
open Go.RowKit
noncomputable section
abbrev AL:=Nat->aq SV->eI->Nat->Nat->bf (SV×eI×Nat)
def MI (P:da)(call:AL)(fr:Tr)(hp:eI)(lo hi:Nat)(o:Oper)(y:bw)(xs:Array bw):bf (bf SV×eI×Nat):=match ku fr y,Il fr xs.toList with
 | some (.fn f U fe),some vs=>match dq P f with
   | true=>match call f (U++vs++fe) hp lo hi with
     |some (v,ew,eK)=>some (some v,ew,eK)
     |none=>none
   | false=>match R2 P fr o with
     |some v=>some (some v,hp,lo)
     |none=>none
 |_,_=>none
def tq (P:da)(fr:Tr)(hp:eI)(lo hi:Nat)(op:Op):bf (bf SV×eI×Nat):=match LY P fr hp lo op with
 | some (r,ew,eK)=>match t! eK hi with
   |true=>some (r,ew,eK)
   |false=>none
 |none=>none
def MJ (P:da)(fr:Tr)(hp:eI)(o:Oper):bf SV:=match Hn fr o.op with
 |some v=>some v
 | none=>match MV P fr hp o with
   |some (v,_)=>some v
   |none=>none
def RD:Op->Bool
 | .alloc _| .box _ _| .makeSlice _ _ _| .buildSlice _ _ _| .store _ _ _| .makeMap _ _| .mapUpdate _ _ _ _| .mapEntry _ _ _| .entryStore _ _ _ _| .range _ _| .next _ _| .entry _=>true
 | .call {callee:=.builtin .append,args:=_,argTypes:=_}=>true
 | .call {callee:=.builtin .clear,args:=_,argTypes:=_}=>true
 | .call {callee:=.builtin .delete,args:=_,argTypes:=_}=>true
 |_=>false
def opC (P:da)(call:AL)(fr:Tr)(hp:eI)(lo hi:Nat)(o:Oper):bf (bf SV×eI×Nat):=
 match o.op with
 | .call {callee:=.value y,args:=xs,argTypes:=_}=>MI P call fr hp lo hi o y xs
 | op=>match RD op with
   |true=>tq P fr hp lo hi op
   | false=>match MJ P fr hp o with
     |some v=>some (some v,hp,lo)
     |none=>tq P fr hp lo hi op
def RZ (P:da)(call:AL)(n:Nat)(ops:Array Oper)(o:Oper)(fr:Tr)(hp:eI)(lo hi:Nat):bf (Tr×eI×Nat):=
 match HI ops fr o with
 | some false=>match o.dst with
   | some d=>match W' d n&&W' d 16000 with
     |true=>some (fr.put d (.v undef),hp,lo)
     |false=>none
   |none=>none
 | some true=>match opC P call fr hp lo hi o with
   | some (some v,ew,eK)=>match o.dst with
     | some d=>match W' d n&&W' d 16000 with
       |true=>some (fr.put d v,ew,eK)
       |false=>none
     |none=>some (fr,ew,eK)
   | some (none,ew,eK)=>match o.dst with
     |none=>some (fr,ew,eK)
     |some _=>none
   |none=>none
 |none=>none
def S4 (P:da)(call:AL)(n:Nat)(ops:Array Oper)(hi:Nat):aq Oper->Tr->eI->Nat->bf (Tr×eI×Nat)
 |[],fr,hp,lo=>some (fr,hp,lo)
 | o::rest,fr,hp,lo=>match RZ P call n ops o fr hp lo hi with
   |some (U,ew,eK)=>S4 P call n ops hi rest U ew eK
   |none=>none
def Ko (P:da)(E:aq bc)(call:AL):Prop:=
 ∀ f args hp lo hi v ew eK,call f args hp lo hi=some (v,ew,eK)->∀ρ vals H,SV.dens ρ E args=some vals->ju ρ E hp H->nO ρ lo hi->
   QF P f vals [] H (λx bz Hr=>bz=[]/\∃U,Ext ρ U lo hi/\v.den U E=some x/\ju U E ew Hr/\nO U eK hi/\lo<=eK)
theorem vf:∀{l:aq Nat} {m:Nat},(∀i∈l,i<m)->l.Nodup->fR l m=true
 |[],_,_,_=>rfl
 | i::l,m,h,hn=>by
   simp only[fR,j',v!,List.any_eq_false];have JU:=D!.1 hn;refine⟨⟨Nat.ble_eq_true_of_le (h i bh),λj U hb=>?_⟩,vf (λj U=>h j (by simp[U])) JU.2⟩;exact JU.1 (by rw[Qt hb];exact U)
theorem yp (H:aq Fact):QP H (M' H.length)=H:=by
 unfold QP
 have:∀(A B:aq Fact),(M' B.length).filterMap (λi=>(A++B)[A.length+i]?)=B:=by
  intro A B;induction B generalizing A with
  |nil=>rfl
  | cons b B U=>
    rw[O!,List.range_succ_eq_map,J!];simp only[Nat.add_zero,K' (y' _),Nat.sub_self,i!];rw[K!];have:=U (A++[b]);simp only[b!,List.singleton_append,L!,List.length_singleton]at this
    have e:((λi=>(A++b::B)[A.length+i]?)∘Nat.succ)=λi=>(A++b::B)[A.length+1+i]?:=by
     funext i;simp only[Function.comp,Nat.succ_eq_add_one];rw[show A.length+(i+1)=A.length+1+i from by omega]
    rw[e,this]
 simpa using this [] H
theorem KU {P:da} {n:FD} {S:aq (Nat×bc)} {o:Oper} {f:FuncId} {y:bw} {xs:Array bw} {ts:Array TypeId} {U args:aq bc} {fi fe:Array bc} (ho:o.op=.call {callee:=.value y,args:=xs,argTypes:=ts})(hy:dy S y=some (.func (.func f) fi fe))(hx:um S xs.toList=some U)
  (ja:dq P f=true) (ha:fi.toList++U++fe.toList=args):∀(a:Act) w,gm n S a->(execOp a.eval o).run P w=.ok (.enter f args.toArray) w:=by
 intro a w hf
 have fO:xs.map a.eval=U.toArray:=by
  have:=hf.evalL hx;have h0:xs=xs.toList.toArray:=bh
  rw[<-this,h0,List.map_toArray]
 have h2:(resolve a.eval {callee:=.value y,args:=xs,argTypes:=ts} o.type).run P w=.ok {target:=.fn (.func f) fe,args:=fi++U.toArray} w:=by
  simp[resolve,hf.eval hy,Deferred.ofValue,fO]
 have h3:fi++U.toArray++fe=args.toArray:=by rw[<-ha];simp
 unfold execOp;simp only[ho,Sem.run_bind,h2,Result.andThen_ok];simp[invoke,Pr ja,<-h3]
section run
variable {P:da} {C:Ctx} {n:FD} {Q:Exit->Act->bx->Prop} {E:aq bc} {call:AL} {ops:Array Oper} {rest:aq Oper}
variable {fr:Tr}{hp ew:eI}{lo eK hi:Nat}{o:Oper}{ρ:Env}{S:aq (Nat×bc)}{H:aq Fact}
def Ζ (P:da)(C:Ctx)(n:FD)(Q:Exit->Act->bx->Prop)(E:aq bc)(ops:Array Oper)(rest:aq Oper)(ρ:Env)(lo hi:Nat)(fr:Tr)(hp:eI)(eK:Nat):Prop:=
 ∀U S' H',Ext ρ U lo hi->Rel U E fr hp S' H'->nO U eK hi->lo<=eK->WL P C n Q [] H' S' ops rest
theorem vg (eS:Ko P E call) {r:bf SV} (he:opC P call fr hp lo hi o=some (r,ew,eK)) (h:Rel ρ E fr hp S H)(hf:nO ρ lo hi)
  (hg:QM ops S o=some true)
  (next:∀de H' x,Ext ρ de lo hi->ju de E ew H'->nO de eK hi->lo<=eK->(match r with|some v=>v.den de E=some x|none=>o.dst=none)->(∀a w,gm n S a->Ql C [] H' w->wpList P ops Q rest (a.put o.dst x) w)) (hr:r=none->o.dst=none):
  WL P C n Q [] H S ops (o::rest):=by
 have GX:∀{op:Op},op=o.op->tq P fr hp lo hi op=some (r,ew,eK)->WL P C n Q [] H S ops (o::rest):=by
  intro op kd he;unfold tq at he;subst kd;split at he
  ·rename_i r' jb ou hh;split at he
   ·rename_i hle;cases he;intro a w U hw;obtain⟨nx,w',h1,de,H',e1,e2,e3,e4,e5,e6⟩:=BN (P:=P) h hf hh (A' hle) a w U hw;refine wpList_step λK hK=>?_
    rw[Ef U hg,if_pos rfl];unfold Oper.wp;rw[h1];cases r with
    | some v=>
      obtain⟨x,rfl,h2⟩:=e6;rw[Oper.upon_value];exact hK _ _ (next de H' x e1 e2 e3 e4 h2 a w' U e5)
    | none=>
      obtain rfl:=e6;rw[Oper.upon_skip];exact hK _ _ (next de H' undef e1 e2 e3 e4 (hr rfl) a w' U e5)
   · cases he
  · cases he
 have read:∀{v:SV} {d:bf Nat},mA P n ρ E hp S H o v d->(r,ew,eK)=(some v,hp,lo)->WL P C n Q [] H S ops (o::rest):=by
  rintro v d ⟨x,B,m,h1,h2,_,_,h3⟩ e;cases e;intro a w U hw
  have zF:AZ [] B w:=by
   obtain⟨F,N,eW⟩:=hw;refine⟨⟨F,λφ bs=>by cases bs⟩,λb hb=>?_⟩;rw[<-h2]at hb;obtain⟨i,_,hb⟩:=List.mem_filterMap.1 hb;exact⟨_,_,eW.owns i b hb⟩
  refine wpList_step λK hK=>?_;rw[Ef U hg,if_pos rfl];unfold Oper.wp;rw[h3 a w U zF,Oper.upon_value];exact hK _ _ (next ρ H x (Ext.refl _ _ _) h.hp hf (y' _) h1 a w U hw)
 unfold opC at he;split at he
 ·
  rename_i y xs ts ho;unfold MI at he;split at he
  ·rename_i f fi fe vs hy JZ;split at he
   ·rename_i ja;split at he
    · rename_i v jb ou hc;cases he;obtain⟨u,h1,h2⟩:=sR h hy;obtain⟨us,cs,h6,h3,rfl⟩:=uz h1;obtain⟨ys,h4,h5⟩:=Qdw h JZ;have a15:=eS _ _ _ _ _ _ _ _ hc ρ (us++ys++cs) H (SS (SS h6 h4) h3) h.hp hf;refine u6 (M' H.length) [] hg (KU (args:=us++ys++cs) ho h2 h5 ja bh) (yp H) a15 (λF w _ φ bs=>by cases bs) (vf bh (du x!)) (H':=[]) rfl ?_;rintro x bz Hr ⟨rfl,de,e1,e2,e3,e4,e5⟩ a w U hw;exact next de Hr x e1 e3 e4 e5 e2 a w U (du hw)
    · cases he
   ·split at he
    · rename_i v hv;exact read (xT (P:=P) (n:=n) h hv) (Option.some.inj he).symm
    · cases he
  · cases he
 ·split at he;· exact GX rfl he
  ·split at he
   ·rename_i v hv;unfold MJ at hv;split at hv
    · rename_i v' Rw;cases hv;obtain⟨x,h1,h2⟩:=vm h Rw;exact read (d:=none) ⟨x,[],[],h1,rfl,λ_=>rfl,(λ_ h=>by cases h),λa w hf _=>mY hf h2 w⟩ (Option.some.inj he).symm
    · split at hv
      ·rename_i v' d Rw;cases hv;exact read (na (P:=P) (n:=n) h Rw) (Option.some.inj he).symm
      · cases hv
   · exact GX rfl he
theorem yk (eS:Ko P E call) {ir:Tr} (he:RZ P call n ops o fr hp lo hi=some (ir,ew,eK)) (h:Rel ρ E fr hp S H)(hf:nO ρ lo hi)
  (next:Ζ P C n Q E ops rest ρ lo hi ir ew eK):WL P C n Q [] H S ops (o::rest):=by
 unfold RZ at he;split at he
 ·
  rename_i hw;split at he
  ·rename_i d hd;split at he
   ·rename_i hb;cases he;simp only[j']at hb;have:=A' hb.2;exact O1 (QcB h hw) hd hb.1 rfl (next ρ _ H (Ext.refl _ _ _) (h.put (λ_ _ h=>h) au rfl h.hp) hf (y' _))
   · cases he
  · cases he
 ·rename_i hw;have hg:=QcB h hw;split at he
  ·rename_i v jb ou ho;split at he
   ·rename_i d hd;split at he
    ·rename_i hb;cases he;simp only[j']at hb;have h16:=A' hb.2;refine vg eS ho h hf hg (λde H' x U e2 e3 e4 e5 a w fC jC=>?_) (λe=>by cases e);rw[hd];exact next de _ H' U (h.put U.le au e5 e2) e3 e4 _ w (fC.put (A' hb.1) rfl) jC
    · cases he
   ·rename_i hd;cases he;refine vg eS ho h hf hg (λde H' x U e2 e3 e4 e5 a w fC jC=>?_) (λe=>by cases e);rw[hd];exact next de S H' U (h.mono U.le e2) e3 e4 _ w fC jC
  ·rename_i jb ou ho;split at he
   ·rename_i hd;cases he;refine vg eS ho h hf hg (λde H' x U e2 e3 e4 e5 a w fC jC=>?_) (λ_=>hd);rw[hd];exact next de S H' U (h.mono U.le e2) e3 e4 _ w fC jC
   · cases he
  · cases he
 · cases he
theorem yn (eS:Ko P E call) {hi:Nat}:∀{l:aq Oper} {fr ir:Tr} {hp ew:eI} {lo eK:Nat},S4 P call n ops hi l fr hp lo=some (ir,ew,eK)->∀{ρ:Env} {S:aq (Nat×bc)} {H:aq Fact},Rel ρ E fr hp S H->nO ρ lo hi->
   (∀U S' H',Ext ρ U lo hi->Rel U E ir ew S' H'->nO U eK hi->lo<=eK->WE C n Q [] H' S' .normal)->WL P C n Q [] H S ops l
 | [],fr,ir,hp,ew,lo,eK,he,ρ,S,H,h,hf,next=>by
   cases he;exact Q2 (next ρ S H (Ext.refl _ _ _) h hf (y' _))
 | o::l,fr,ir,hp,ew,lo,eK,he,ρ,S,H,h,hf,next=>by
   unfold S4 at he;split at he
   ·rename_i JR jb ou h1;exact yk eS h1 h hf λU S' H' e1 e2 e3 e4=>yn eS he e2 e3 λJw Vd H'' f1 f2 f3 f4=>next Jw Vd H'' (e1.trans f1 e4 (y' _)) f2 f3 au
   · cases he
end run
end
end
section
open Go.RowKit
noncomputable section
def Value.eqb:bc->bc->Bool
 | .bool a,.bool b=>a==b
 | .int k a,.int U b=>RA k U&&decide (a=b)
 | .string a,.string b=>decide (a=b)
 | .pointer none,.pointer none=>true
 | .slice none a b,.slice none c d=>z' a c&&z' b d
 | .map none,.map none=>true
 | .nilFunc,.nilFunc=>true
 | .nilIface,.nilIface=>true
 | .tuple a,.tuple b=>z' a.size 0&&z' b.size 0
 |_,_=>false
theorem Value.eqb_eq {a b:bc} (h:Value.eqb a b=true):a=b:=by
 unfold Value.eqb at h;split at h;· rw[eq_of_beq h]
 · simp only[j',decide_eq_true_eq]at h;rw[tk h.1,h.2]
 · rw[of_decide_eq_true h]
 · rfl
 · simp only[j']at h;rw[Qt h.1,Qt h.2]
 · rfl
 · rfl
 · rfl
 ·simp only[j']at h;rw[o! (Qt h.1),o! (Qt h.2)]
 · cases h
mutual
def SV.beq:SV->SV->Bool
 | .v a,.v b=>Value.eqb a b
 | .opq i,.opq j=>z' i j
 | .ptr g o,.ptr g' o'=>z' g g'&&z' o o'
 | .sl g o l c w,.sl g' o' l' c' w'=>z' g g'&&z' o o'&&z' l l'&&z' c c'&&(w==w')
 | .mp g,.mp g'=>z' g g'
 | .fn f u l,.fn f' u' l'=>z' f f'&&SV.beqs u u'&&SV.beqs l l'
 | .agg l,.agg l'=>SV.beqs l l'
 | .tup l,.tup l'=>SV.beqs l l'
 |_,_=>false
def SV.beqs:aq SV->aq SV->Bool
 |[],[]=>true
 |x::l,y::m=>SV.beq x y&&SV.beqs l m
 |_,_=>false
end
mutual
theorem SV.beq_eq:∀(a b:SV),SV.beq a b=true->a=b
 | .v a,b,h=>by
   cases b<;>simp only[SV.beq]at h<;>first|(cases h;done)|rw[Value.eqb_eq h]
 | .opq i,b,h=>by
   cases b<;>simp only[SV.beq]at h<;>first|(cases h;done)|rw[Qt h]
 | .ptr g o,b,h=>by
   cases b<;>simp only[SV.beq,j']at h<;>first|(cases h;done)|rw[Qt h.1,Qt h.2]
 | .sl g o l c w,b,h=>by
   cases b<;>simp only[SV.beq,j']at h<;>first|(cases h;done)|(obtain⟨⟨⟨⟨h1,U⟩,h3⟩,h4⟩,h5⟩:=h;rw[Qt h1,Qt U,Qt h3,Qt h4,eq_of_beq h5])
 | .mp g,b,h=>by
   cases b<;>simp only[SV.beq]at h<;>first|(cases h;done)|rw[Qt h]
 | .fn f u l,b,h=>by
   cases b<;>simp only[SV.beq,j']at h<;>first|(cases h;done)|rw[Qt h.1.1,SV.beqs_eq _ _ h.1.2,SV.beqs_eq _ _ h.2]
 | .agg l,b,h=>by
   cases b<;>simp only[SV.beq]at h<;>first|(cases h;done)|rw[SV.beqs_eq _ _ h]
 | .tup l,b,h=>by
   cases b<;>simp only[SV.beq]at h<;>first|(cases h;done)|rw[SV.beqs_eq _ _ h]
theorem SV.beqs_eq:∀(a b:aq SV),SV.beqs a b=true->a=b
 |[],b,h=>by cases b<;>simp only[SV.beqs]at h<;>first|rfl|cases h
 | x::l,b,h=>by
   cases b<;>simp only[SV.beqs,j']at h<;>first|(cases h;done)|rw[SV.beq_eq _ _ h.1,SV.beqs_eq _ _ h.2]
end
def xC:aq (SV×SV×Nat)->aq (SV×SV×Nat)->Bool
 |[],[]=>true
 |(k,v,b)::r,(k',v',U)::s=>SV.beq k k'&&SV.beq v v'&&z' b U&&xC r s
 |_,_=>false
theorem Bv:∀{a b:aq (SV×SV×Nat)},xC a b=true->a=b
 |[],b,h=>by cases b<;>simp only[xC]at h<;>first|rfl|cases h
 | (k,v,n)::r,b,h=>by
   cases b with
   |nil=>simp only[xC]at h;cases h
   | cons y m=>
     obtain⟨U,v',n'⟩:=y;simp only[xC,j']at h;rw[SV.beq_eq _ _ h.1.1.1,SV.beq_eq _ _ h.1.1.2,Qt h.1.2,Bv h.2]
def HO.beq:HO->HO->Bool
 | .blk c t,.blk c' t'=>SV.beqs c c'&&z' t t'
 | .row c n s t,.row c' n' s' t'=>SV.beqs c c'&&z' n n'&&z' s s'&&z' t t'
 | .mp es c,.mp U c'=>xC es U&&z' c c'
 | .it m s l p,.it m' s' l' p'=>decide (m=m')&&z' s s'&&decide (l=l')&&z' p p'
 | .ro c,.ro c'=>SV.beqs c c'
 |_,_=>false
theorem HO.beq_eq {a b:HO} (h:HO.beq a b=true):a=b:=by
 unfold HO.beq at h;split at h;· simp only[j']at h;rw[SV.beqs_eq _ _ h.1,Qt h.2]
 · simp only[j']at h;rw[SV.beqs_eq _ _ h.1.1.1,Qt h.1.1.2,Qt h.1.2,Qt h.2]
 · simp only[j']at h;rw[Bv h.1,Qt h.2]
 · simp only[j',decide_eq_true_eq]at h;rw[h.1.1.1,Qt h.1.1.2,h.1.2,Qt h.2]
 · rw[SV.beqs_eq _ _ h]
 · cases h
def uH:eI->eI->Bool
 |[],[]=>true
 |(g,o)::l,(U,o')::m=>z' g U&&HO.beq o o'&&uH l m
 |_,_=>false
theorem uI:∀{a b:eI},uH a b=true->a=b
 |[],b,h=>by cases b<;>simp only[uH]at h<;>first|rfl|cases h
 | (g,o)::l,b,h=>by
   cases b with
   |nil=>simp only[uH]at h;cases h
   | cons y m=>
     obtain⟨U,o'⟩:=y;simp only[uH,j']at h;rw[Qt h.1.1,HO.beq_eq h.1.2,uI h.2]
def XM:bf SV->bf SV->Bool
 |none,none=>true
 |some a,some b=>SV.beq a b
 |_,_=>false
theorem S5 {a b:bf SV} (h:XM a b=true):a=b:=by
 unfold XM at h;split at h;· rfl
 · rw[SV.beq_eq _ _ h]
 · cases h
def Tr.beq:Tr->Tr->Bool
 | .nil,.nil=>true
 | .node l x r,.node l' U r'=>XM x U&&Tr.beq l l'&&Tr.beq r r'
 |_,_=>false
theorem Tr.beq_eq:∀{a b:Tr},Tr.beq a b=true->a=b
 | .nil,b,h=>by cases b<;>simp only[Tr.beq]at h<;>first|rfl|cases h
 | .node l x r,b,h=>by
   cases b with
   |nil=>simp only[Tr.beq]at h;cases h
   | node U x' r'=>
     simp only[Tr.beq,j']at h;rw[S5 h.1.1,Tr.beq_eq h.1.2,Tr.beq_eq h.2]
structure Nd where
 L:List Nat
 D:List (Nat×Nat×HO)
 fr:Tr
 hp:eI
def a07 (x y:Nat×Nat×HO):Bool:=z' x.1 y.1&&z' x.2.1 y.2.1&&HO.beq x.2.2 y.2.2
def Y4 (a b:aq (Nat×Nat×HO)):Bool:=a.all λx=>b.any λy=>a07 x y
def Nd.same (a b:Nd):Bool:=a.L.all (iQ b.L)&&b.L.all (iQ a.L)&&Y4 a.D b.D&&Y4 b.D a.D&&Tr.beq a.fr b.fr&&uH a.hp b.hp
def IV:Op->Bool
 | .move _| .binOp _ _ _ _ _| .unOp _ _ _| .pick _ _ _| .fieldAddr _ _ _| .load _ _| .indexAddr _ _ _| .extract _ _| .build _ _| .nilCheck _| .makeFunc _ _ _| .index _ _ _| .convert _ _ _| .field _ _ _=>true
 | .call {callee:=.builtin .len,args:=_,argTypes:=_}=>true
 |_=>false
def oq (ops:Array Oper):aq Nat:=(M' ops.size).filter λi=>match ops[i]? with
 | some o=>IV o.op&&(match o.dst with
   | some d=>(M' ops.size).all λj=>z' i j||(match ops[j]? with
     |some U=>!iQ (mZ ops U) d||Ek ops j i
     |none=>false)
   |none=>false)
 |none=>false
def Fv (P:da) (n:Nat) (ops:Array Oper) (ax:aq Nat) (i:Nat) (o:Oper) (U:Nd):bf Nd:=match o.dst with
 |none=>none
 | some d=>match nD ops ax U.L i n d o&&W' d 16000 with
   |false=>none
   | true=>match HI ops U.fr o with
     |some false=>some ⟨i::U.L,U.D,U.fr.put d (.v undef),U.hp⟩
     | some true=>match Hn U.fr o.op with
       |some v=>some ⟨i::U.L,U.D,U.fr.put d v,U.hp⟩
       | none=>match MV P U.fr U.hp o with
         |some (v,none)=>some ⟨i::U.L,U.D,U.fr.put d v,U.hp⟩
         |  some (v,some g)=>match lN U.hp g with
            |some ob=>some ⟨i::U.L,(i,g,ob)::U.D,U.fr.put d v,U.hp⟩
            |none=>none
         |none=>none
     |none=>none
def yo (P:da)(n:Nat)(ops:Array Oper)(ax:aq Nat):aq Nat->Nd->bf Nd
 |[],U=>some U
 | i ::r,U=>match ops[i]? with
   | some o=>match !iQ U.L i&&(o.after.toList.all λe=>!Region.binds .any e||iQ U.L e.on)with
     | true=>match Fv P n ops ax i o U with
       |some DZ=>yo P n ops ax r DZ
       |none=>none
     |false=>yo P n ops ax r U
   |none=>none
def ID (g:Nat)(o:HO):eI->eI
 |[]=>[(g,o)]
 | (U,o')::r=>match t! U g with
   |true=>(g,o)::(U,o')::r
   |false=>(U,o')::ID g o r
def BU:eI->eI
 |[]=>[]
 |(g,o)::r=>ID g o (BU r)
def RN (P:da)(call:AL)(n:Nat)(ops:Array Oper)(ax:aq Nat)(lo w k:Nat)(U:Nd):bf Nd:=match ops[k]? with
 | some o=>match RZ P call n ops o U.fr U.hp (lo+k*w) (lo+k*w+w)with
   | some (ir,hp0,_)=>match BU hp0 with
     | ew=>match U.D.all (λx=>Ek ops k x.1||(match lN ew x.2.1 with|some ob=>HO.beq ob x.2.2|none=>false))with
       |true=>yo P n ops ax ax ⟨k::U.L,U.D,ir,ew⟩
       |false=>none
   |none=>none
 |none=>none
def Hi (P:da)(call:AL)(n:Nat)(ops:Array Oper)(U:aq Nat)(lo w:Nat)(nd:Nd):aq Nat->bf (aq Nd)
 |[]=>some []
 | k::r=>match RN P call n ops U lo w k nd,Hi P call n ops U lo w nd r with
   |some x,some l=>some (x::l)
   |_,_=>none
def GA (ops:Array Oper)(L:aq Nat):Bool:=(M' ops.size).all (iQ L)
def tc (P:da)(call:AL)(n:Nat)(ops:Array Oper)(U:aq Nat)(lo w:Nat):aq Nd->bf (aq Nd)
 |[]=>some []
 | nd::r=>match !GA ops nd.L&&(kL ops U nd.L).all (λk=>!iQ U k)with
   | true=>match Hi P call n ops U lo w nd (kL ops U nd.L),tc P call n ops U lo w r with
     |some l,some m=>some (l++m)
     |_,_=>none
   |false=>none
def a1l (U:Nd)(l:aq Nd):aq Nd:=match l.any (λx=>Nd.same U x)with
 |true=>l
 |false=>U::l
def zv:aq Nd->aq Nd
 |[]=>[]
 |U::r=>a1l U (zv r)
def RH (P:da)(call:AL)(n:Nat)(ops:Array Oper)(ax:aq Nat)(lo w:Nat):Nat->aq Nd->bf Nd
 |0,_=>none
 | f + 1,TY=>match TY with
   |[]=>none
   | U::rest=>match GA ops U.L with
     | true=>match rest.all (λx=>GA ops x.L&&Tr.beq x.fr U.fr&&uH x.hp U.hp)with
       |true=>some U
       |false=>none
     | false=>match tc P call n ops ax lo w (U::rest)with
       |some ns=>RH P call n ops ax lo w f (zv ns)
       |none=>none
def KT (P:da)(call:AL)(n:Nat)(ops:Array Oper)(hi:Nat)(fr:Tr)(hp:eI)(lo:Nat):bf (Tr×eI×Nat):=
 match P.follows .mixedOrders&&j2 ops (oq ops)&&t! lo hi with
 | true=>match yo P n ops (oq ops) (oq ops) ⟨[],[],fr,hp⟩with
   | some U=>match RH P call n ops (oq ops) lo ((hi-lo)/(65536*(ops.size+1))) (ops.size+1) [U]with
     |some fin=>some (fin.fr,fin.hp,lo+ops.size*((hi-lo)/(65536*(ops.size+1))))
     |none=>none
   |none=>none
 |false=>none
end
end
section
open Go.RowKit
noncomputable section
def DD (ρ:Env)(E:aq bc):aq (Nat×Nat×HO)->aq (Nat×Fact)->Prop
 |[],[]=>True
 |(i,g,o)::r,(j,φ)::s=>i=j/\o.isFact ρ E g φ/\DD ρ E r s
 |_,_=>False
section
variable {ρ de:Env} {E:aq bc}
theorem IterM.det {m a b:bf Nat} (h:IterM ρ m a)(k:IterM ρ m b):a=b:=by
 cases m<;>cases a<;>cases b<;>first|rfl|exact h.elim|exact k.elim|(obtain⟨c,hc⟩:=h;obtain⟨d,U⟩:=k;rw[hc]at U;cases U;rfl)
theorem kf.det:∀{l:aq (SV×SV×Nat)} {m m':aq MapEntry},kf ρ E l m->kf ρ E l m'->m=m'
 |[],[],[],_,_=>rfl
 | (k,v,b)::r,⟨ek,ev,eb⟩::s,⟨ek',ev',eb'⟩::s',h,h'=>by
   obtain⟨h1,U,h3,h4⟩:=h;obtain⟨k1,k2,k3,k4⟩:=h';simp only at h1 U h3 k1 k2 k3;rw[h1]at k1;cases k1;rw[U]at k2;cases k2;subst h3;subst k3;rw[kf.det h4 k4]
 |[],_::_,_,h,_=>h.elim
 |[],[],_::_,_,h=>h.elim
 |_::_,[],_,h,_=>h.elim
 |_::_,_::_,[],_,h=>h.elim
theorem HO.isFact_det {g:Nat} {o:HO} {φ ψ:Fact} (h:o.isFact ρ E g φ)(k:o.isFact ρ E g ψ):φ=ψ:=by
 cases o with
 | blk cs ty=>
   obtain⟨b,c,vs,h1,U,rfl⟩:=h;obtain⟨b',c',vs',k1,k2,rfl⟩:=k;rw[h1]at k1;cases k1;rw[U]at k2;cases k2;rfl
 | row cs n sz ty=>
   obtain⟨b,c,vs,h1,U,rfl⟩:=h;obtain⟨b',c',vs',k1,k2,rfl⟩:=k;rw[h1]at k1;cases k1;rw[U]at k2;cases k2;rfl
 | mp es c=>
   obtain⟨b,c1,es1,h1,U,rfl⟩:=h;obtain⟨b',c',PV,k1,k2,rfl⟩:=k;rw[h1]at k1;cases k1;rw[kf.det U k2]
 | it m since seen lp=>
   obtain⟨b,c,bm,h1,U,rfl⟩:=h;obtain⟨b',c',bm',k1,k2,rfl⟩:=k;rw[h1]at k1;cases k1;rw[IterM.det U k2]
 | ro cs=>
   obtain⟨b,c,vs,h1,U,rfl⟩:=h;obtain⟨b',c',vs',k1,k2,rfl⟩:=k;rw[h1]at k1;cases k1;rw[U]at k2;cases k2;rfl
theorem DD.mono (h:ρ.le de):∀{l:aq (Nat×Nat×HO)} {m:aq (Nat×Fact)},DD ρ E l m->DD de E l m
 |[],[],_=>trivial
 |(_,_,_)::_,(_,_)::_,U=>⟨U.1,HO.isFact_mono h U.2.1,DD.mono h U.2.2⟩
 |[],_::_,U=>U.elim
 |_::_,[],U=>U.elim
theorem DD.mem:∀{l:aq (Nat×Nat×HO)} {m:aq (Nat×Fact)},DD ρ E l m->∀x∈m,∃g o,(x.1,g,o)∈l/\o.isFact ρ E g x.2
 |[],[],_,x,hx=>by cases hx
 | (i,g,o)::r,(j,φ)::s,U,x,hx=>by
   rcases B'.1 hx with rfl|hx;· obtain⟨rfl,h1,_⟩:=U;exact⟨g,o,bh,h1⟩
   ·obtain⟨g',o',h1,h2⟩:=DD.mem U.2.2 x hx;exact⟨g',o',by simp[h1],h2⟩
 |[],_::_,U,_,_=>U.elim
 |_::_,[],U,_,_=>U.elim
theorem DD.mem':∀{l:aq (Nat×Nat×HO)} {m:aq (Nat×Fact)},DD ρ E l m->∀i g o,(i,g,o)∈l->∃φ,(i,φ)∈m/\o.isFact ρ E g φ
 |[],[],_,_,_,_,U=>by cases U
 | (i,g,o)::r,(j,φ)::s,hd,i',g',o',U=>by
   rcases B'.1 U with U|U;· cases U;obtain⟨rfl,h1,_⟩:=hd;exact⟨φ,bh,h1⟩
   ·obtain⟨ψ,h1,h2⟩:=DD.mem' hd.2.2 i' g' o' U;exact⟨ψ,by simp[h1],h2⟩
 |[],_::_,hd,_,_,_,_=>hd.elim
 |_::_,[],hd,_,_,_,_=>hd.elim
theorem DD.ex {l:aq (Nat×Nat×HO)} (U:∀i g o,(i,g,o)∈l->∃φ,HO.isFact ρ E g o φ):∃m,DD ρ E l m:=by
 induction l with
 |nil=>exact⟨[],trivial⟩
 | cons x r ih=>
   obtain⟨i,g,o⟩:=x;obtain⟨φ,h1⟩:=U i g o bh;obtain⟨m,h2⟩:=ih λi' g' o' h=>U i' g' o' (by simp[h]);exact⟨(i,φ)::m,rfl,h1,h2⟩
theorem vz {a b:aq (Nat×Nat×HO)} (h:Y4 a b=true):∀x∈a,x∈b:=λx U=>by
 have:=e!.1 h x U;obtain⟨y,hy,h1⟩:=P!.1 this;simp only[a07,j']at h1
 have e:x=y:=by
  obtain⟨x1,x2,x3⟩:=x;obtain⟨y1,y2,y3⟩:=y;simp only at h1;rw[Qt h1.1.1,Qt h1.1.2,HO.beq_eq h1.2]
 rw[e];exact hy
end
theorem Cz (A B D:aq Fact):(M' B.length).filterMap (λi=>(A++B++D)[A.length+i]?)=B:=by
 have h:(M' B.length).filterMap (λi=>(A++B++D)[A.length+i]?)=(M' B.length).filterMap (λi=>B[i]?):=by
  have : ∀l:aq Nat,(∀i∈l,i<B.length)->l.filterMap (λi=>(A++B++D)[A.length+i]?)=l.filterMap (λi=>B[i]?):=by
   intro l;induction l with
   |nil=>intro _;rfl
   | cons i l ih=>
     intro h;have h1:(A++B++D)[A.length+i]? =B[i]?:=by
         have:=h i bh;rw[b!,K' au,Nat.add_sub_cancel_left,R' this]
     simp only[J!,h1,ih (λj U=>h j (by simp[U]))]
  exact this _ (λi hi=>j!.1 hi)
 rw[h];exact yp B
theorem Ql.swapAdj {C:Ctx} {Φ pre post:aq Fact} {a b:Fact} {w:bx} (h:Ql C Φ (pre++a::b::post) w):Ql C Φ (pre++b::a::post) w:=by
 have hl:(pre++a::b::post).length=pre.length+post.length+2:=by simp;omega
 have:=h.pick (M' pre.length++[pre.length+1,pre.length]++(M' post.length).map (·+(pre.length+2))) (vf (λi hi=>by
  rw[hl];simp only[h!,j!,B',y!,or_false,k!]at hi;rcases hi with(hi|hi|hi)|⟨j,hj,rfl⟩<;>omega) (by
  rw[l!,l!];refine⟨⟨x!,bh,?_⟩,?_,?_⟩
  ·intro x U y hy;simp only[j!,B',y!,or_false]at U hy;omega
  · exact List.Pairwise.map _ (λx y K0=>au) x!
  ·intro x U y hy;simp only[h!,j!,B',y!,or_false,k!]at U hy;obtain⟨j,hj,rfl⟩:=hy;omega))
 have e:QP (pre++a::b::post) (M' pre.length++[pre.length+1,pre.length]++(M' post.length).map (·+(pre.length+2)))=pre++b::a::post:=by
  unfold QP;rw[F!,F!,K!];have h1:=Cz [] pre (a::b::post);have h2:=Cz (pre++[a,b]) post [];simp only[E!,R!,Nat.zero_add]at h1;simp only[List.append_nil,L!,O!,R!,b!,List.cons_append,E!]at h2;rw[h1]
  have h3:((λi=>(pre++a::b::post)[i]?)∘(·+(pre.length+2)))=λi=>(pre++a::b::post)[pre.length+(0+1+1)+i]?:=by
   funext i;simp only[Function.comp];rw[show i+(pre.length+2)=pre.length+(0+1+1)+i from by omega]
  rw[h3,h2];simp
 rw[e]at this;exact this
theorem xV {ρ:Env} {E:aq bc} {C:Ctx} {g:Nat} {o:HO} {φ:Fact} (hf:o.isFact ρ E g φ):∀{hp:eI} {H:aq Fact},ju ρ E hp H->∃H',ju ρ E (ID g o hp) H'/\∀pre w,Ql C [] (pre++φ::H) w->Ql C [] (pre++H') w
 |[],[],_=>⟨[φ],⟨hf,trivial⟩,λ_ _ h=>h⟩
 | (g',o')::r,ψ::H,U=>by
   unfold ID;split;· exact⟨φ::ψ::H,⟨hf,U⟩,λ_ _ h=>h⟩
   ·obtain⟨H',h1,h2⟩:=xV (C:=C) hf U.2;refine⟨ψ::H',⟨U.1,h1⟩,λpre w h=>?_⟩;have:=h2 (pre++[ψ]) w (du h.swapAdj);simpa using this
 |[],_::_,U=>U.elim
 |_::_,[],U=>U.elim
theorem uM {ρ:Env} {E:aq bc} {C:Ctx}:∀{hp:eI} {H:aq Fact},ju ρ E hp H->∃H',ju ρ E (BU hp) H'/\∀pre w,Ql C [] (pre++H) w->Ql C [] (pre++H') w
 |[],[],_=>⟨[],trivial,λ_ _ h=>h⟩
 | (g,o)::r,φ::H,U=>by
   obtain⟨H1,h1,h2⟩:=uM (C:=C) U.2;obtain⟨H2,h3,h4⟩:=xV (C:=C) U.1 h1;refine⟨H2,h3,λpre w h=>h4 pre w ?_⟩;have:=h2 (pre++[φ]) w (du h);simpa using this
 |[],_::_,U=>U.elim
 |_::_,[],U=>U.elim
section draw
variable {P:da} {C:Ctx} {n:FD} {Q:Exit->Act->bx->Prop} {E:aq bc} {call:AL} {ops:Array Oper} {ax:aq Nat} {lo hi w:Nat}
theorem O4 {L L1:aq Nat} {D D1:aq (Nat×Fact)} {Φ H:aq Fact} {S:aq (Nat×bc)} (h:WX P C n Q ops ax L1 D1 Φ H S)(hL:∀i,i∈L↔i∈L1)(hD:∀x,x∈D↔x∈D1):WX P C n Q ops ax L D Φ H S:=by
 intro listed a av w U;refine h listed a av w ⟨U.frm,U.asize,U.adef,U.holds,U.lsize,λi hi=>(hL i).1 (U.sub i hi),λi hi=>U.inL i ((hL i).2 hi),λx hx=>U.agree x λi o hi=>hx i o ((hL i).1 hi),?_,λx hx=>U.deps x ((hD x).2 hx)⟩;intro i hi hu;obtain⟨o,d',v,K2,B,h1,h2,h3,h4,h5,h6,h7,h8,h9⟩:=(U.owed i ((hL i).2 hi) hu).ex;exact⟨o,d',v,K2,B,h1,h2,h3,h4,h5,λe he hb=>(hL _).1 (h6 e he hb),h7,λb hb=>(hD _).1 (h8 b hb),h9⟩
structure NdR (ρ0:Env) (E:List Value) (ops:Array Oper) (lo hi w:Nat) (ρ:Env) (nd:Nd) (S:List (Nat×Value)) (H:List Fact) (D:List (Nat×Fact)):Prop where
 rel:Rel ρ E nd.fr nd.hp S H
 ext:Ext ρ0 ρ lo hi
 free:∀j,j<ops.size->j∉nd.L->nO ρ (lo+j*w) (lo+j*w+w)
 rest:nO ρ (lo+ops.size*w) hi
 dd:DD ρ E nd.D D
def pW (P:da)(C:Ctx)(n:FD)(Q:Exit->Act->bx->Prop)(ρ0:Env)(E:aq bc)(ops:Array Oper)(ax:aq Nat)(lo hi w:Nat)(U:Nd):Prop:=
 ∀ρ S H D,NdR ρ0 E ops lo hi w ρ U S H D->WX P C n Q ops ax U.L D [] H S
variable {ρ0:Env}
theorem Cm (dh:j2 ops ax=true) {i:Nat} {o:Oper} {nd DZ:Nd} (ho:ops[i]? =some o)(he:Fv P n ops ax i o nd=some DZ)(hw:pW P C n Q ρ0 E ops ax lo hi w DZ):pW P C n Q ρ0 E ops ax lo hi w nd:=by
 intro ρ S H D U;unfold Fv at he;split at he;· cases he
 ·rename_i d hd;split at he;· cases he
  ·rename_i hb;simp only[j']at hb;have h16:=A' hb.2;have gK:∀j,j<ops.size->j∉i::nd.L->nO ρ (lo+j*w) (lo+j*w+w):=λj hj hn=>U.free j hj λhm=>hn (H! _ hm)
   split at he
   ·rename_i uO;cases he;exact O6 dh i ho hd hb.1 rfl (QcB U.rel uO) (hw ρ _ H D ⟨U.rel.put (λ_ _ h=>h) au rfl U.rel.hp,U.ext,gK,U.rest,U.dd⟩)
   ·rename_i uO;have hg:=QcB U.rel uO;split at he
    ·rename_i v hv;cases he;obtain⟨x,h1,h2⟩:=vm U.rel hv;exact HS dh i ho hd hb.1 rfl hg h2 (hw ρ _ H D ⟨U.rel.put (λ_ _ h=>h) au h1 U.rel.hp,U.ext,gK,U.rest,U.dd⟩)
    ·split at he
     ·rename_i v hv;cases he;obtain⟨x,B,m,h1,h2,h3,_,h4⟩:=na (P:=P) (n:=n) U.rel hv;have hB:=h3 rfl;subst hB;exact Ow dh i [] m ho hd hb.1 rfl h2 hg h4 (hw ρ _ H D ⟨U.rel.put (λ_ _ h=>h) au h1 U.rel.hp,U.ext,gK,U.rest,U.dd⟩)
     ·rename_i v g hv;split at he
      ·rename_i ob hob;cases he;obtain⟨x,B,m,h1,h2,_,h3,h4⟩:=na (P:=P) (n:=n) U.rel hv;obtain⟨ob',φ,h5,h6,rfl⟩:=h3 g rfl;rw[hob]at h5;cases h5;exact Ow dh i [φ] m ho hd hb.1 rfl h2 hg h4 (hw ρ _ H ((i,φ)::D) ⟨U.rel.put (λ_ _ h=>h) au h1 U.rel.hp,U.ext,gK,U.rest,⟨rfl,h6,U.dd⟩⟩)
      · cases he
     · cases he
   · cases he
theorem Qcd (dh:j2 ops ax=true):∀{l:aq Nat} {nd U:Nd},yo P n ops ax l nd=some U->pW P C n Q ρ0 E ops ax lo hi w U->pW P C n Q ρ0 E ops ax lo hi w nd
 |[],nd,U,he,hw=>by cases he;exact hw
 | i ::r,nd,U,he,hw=>by
   unfold yo at he;split at he
   ·rename_i o ho;split at he
    ·split at he
     ·rename_i nd2 h2;exact Cm dh ho h2 (Qcd dh he hw)
     · cases he
    · exact Qcd dh he hw
   · cases he
theorem J1 (eS:Ko P E call)(dh:j2 ops ax=true)(DX:lo+ops.size*w<=hi) {k:Nat} {nd DZ:Nd} (hk:k<ops.size)(hkL:k∉nd.L)(he:RN P call n ops ax lo w k nd=some DZ)(hw:pW P C n Q ρ0 E ops ax lo hi w DZ):
  ∀ρ S H D,NdR ρ0 E ops lo hi w ρ nd S H D->∀o,ops[k]? =some o->WL P C n (QX P C n Q ops ax nd.L D [] k) [] H S ops [o]:=by
 intro ρ S H D U o ho;unfold RN at he;rw[ho]at he;simp only at he;split at he
 ·rename_i ir ew eK h1;split at he
  ·rename_i hD;have ZV:=Qcd dh he hw;refine yk eS h1 U.rel (U.free k hk hkL) λde S' H' e1 e2 e3 e4=>Q2 λa w' hf jC=>?_
   obtain⟨H2,d1,d2⟩:=uM (C:=C) e2.hp;have e2':=e2.mono (λ_ _ h=>h) d1;have a1c:=d2 [] w' (du jC);simp only[E!]at a1c;have hkw:k*w+w<=ops.size*w:=by rw[<-B!];exact T' _ hk
   refine⟨[],H2,S',hf,a1c,(λφ bs=>by cases bs),λx hx hp=>?_,ZV de S' H2 D ⟨e2',U.ext.trans e1 au au,λj hj hn g g1 g2=>?_,λg g1 g2=>?_,U.dd.mono e1.le⟩⟩
   ·obtain⟨g,ob,h2,h3⟩:=U.dd.mem x hx;have h4:=e!.1 hD _ h2;simp only[hp,Bool.false_or]at h4;split at h4
    ·rename_i ob' h5;obtain⟨q,ψ,h6,h7,_,_⟩:=Pd d1 h5;rw[HO.beq_eq h4]at h7;rw[HO.isFact_det (HO.isFact_mono e1.le h3) h7];exact c! h6
    · cases h4
   ·have BR:j≠k:=λe=>hn (by rw[e];simp);have hj0:=U.free j hj (λhm=>hn (H! _ hm)) g g1 g2;refine e1.out g hj0 ?_;rcases X! j k with cj|pN
    ·have:j*w+w<=k*w:=by rw[<-B!];exact T' _ cj
     omega
    ·have:k*w+w<=j*w:=by rw[<-B!];exact T' _ au
     omega
   · exact e1.out g (U.rest g g1 g2) au
  · cases he
 · cases he
theorem uY:∀{l:aq Nat} {U:Nd} {ns:aq Nd},Hi P call n ops ax lo w U l=some ns->∀k∈l,∃DZ∈ns,RN P call n ops ax lo w k U=some DZ
 |[],_,_,_,k,hk=>by cases hk
 | j::r,U,ns,he,k,hk=>by
   unfold Hi at he;split at he
   ·rename_i x l h1 h2;cases he;rcases B'.1 hk with rfl|hk;· exact⟨x,bh,h1⟩
    ·obtain⟨y,h3,h4⟩:=uY h2 k hk;exact⟨y,by simp[h3],h4⟩
   · cases he
theorem o9 (eS:Ko P E call)(dh:j2 ops ax=true)(DX:lo+ops.size*w<=hi):∀{TY ns:aq Nd},tc P call n ops ax lo w TY=some ns->(∀U∈ns,pW P C n Q ρ0 E ops ax lo hi w U)->∀U∈TY,pW P C n Q ρ0 E ops ax lo hi w U
 |[],_,_,_,U,h=>by cases h
 | x ::r,ns,he,hw,U,h=>by
   unfold tc at he;split at he
   ·rename_i hb;split at he
    ·rename_i l m h1 h2;cases he;rcases B'.1 h with rfl|h
     ·intro ρ S H D hr;simp only[j',v!]at hb;refine tG dh (kL ops ax U.L) rfl hb.2 hb.1 λk hk o ho=>?_
      obtain⟨DZ,h3,h4⟩:=uY h1 k hk;have eO:=List.mem_filter.1 hk
      have hkL:k∉U.L:=λhm=>by
       have:=eO.2;simp only[j',v!]at this;rw[JE.2 hm]at this;cases this.1
      exact J1 eS dh DX (j!.1 eO.1) hkL h4 (hw DZ (by simp[h3])) ρ S H D hr o ho
     · exact o9 eS dh DX h2 (λU hn=>hw U (by simp[hn])) U h
    · cases he
   · cases he
theorem Jf {a b:Nd} (h:Nd.same a b=true)(hw:pW P C n Q ρ0 E ops ax lo hi w b):pW P C n Q ρ0 E ops ax lo hi w a:=by
 intro ρ S H D hr;simp only[Nd.same,j']at h;obtain⟨⟨⟨⟨⟨h1,h2⟩,h3⟩,h4⟩,h5⟩,h6⟩:=h;have l1:∀i,i∈a.L↔i∈b.L:=λi=>⟨λhi=>JE.1 (e!.1 h1 i hi),λhi=>JE.1 (e!.1 h2 i hi)⟩
 obtain ⟨D1,U⟩:∃m,DD ρ E b.D m:=DD.ex λi g o hm=>by
  obtain⟨φ,_,bs⟩:=hr.dd.mem' i g o (vz h4 _ hm);exact⟨φ,bs⟩
 refine O4 (hw ρ S H D1 ⟨by rw[<-Tr.beq_eq h5,<-uI h6];exact hr.rel,hr.ext,λj hj hn=>hr.free j hj λhm=>hn ((l1 j).1 hm),hr.rest,U⟩) l1 λx=>⟨λhx=>?_,λhx=>?_⟩
 ·obtain⟨g,o,k1,k2⟩:=hr.dd.mem x hx;obtain⟨φ,k3,k4⟩:=U.mem' _ _ _ (vz h3 _ k1);rw[<-HO.isFact_det k2 k4]at k3;exact k3
 ·obtain⟨g,o,k1,k2⟩:=U.mem x hx;obtain⟨φ,k3,k4⟩:=hr.dd.mem' _ _ _ (vz h4 _ k1);rw[<-HO.isFact_det k2 k4]at k3;exact k3
theorem QcX:∀{l:aq Nd},(∀U∈zv l,pW P C n Q ρ0 E ops ax lo hi w U)->∀U∈l,pW P C n Q ρ0 E ops ax lo hi w U
 |[],_,U,h=>by cases h
 | x::r,hw,U,h=>by
   unfold zv a1l at hw;split at hw
   ·rename_i hb;rcases B'.1 h with rfl|h
    ·obtain⟨y,hy,h1⟩:=P!.1 hb;exact Jf h1 (hw y hy)
    · exact QcX hw U h
   ·rcases B'.1 h with rfl|h;· exact hw U bh
    · exact QcX (λy hy=>hw y (by simp[hy])) U h
theorem ya (eS:Ko P E call)(dh:j2 ops ax=true)(DX:lo+ops.size*w<=hi) {fin:Nd} (Rk:∀de S' H',Ext ρ0 de lo hi->Rel de E fin.fr fin.hp S' H'->nO de (lo+ops.size*w) hi->WE C n Q [] H' S' .normal):
   ∀{f:Nat} {TY:aq Nd},RH P call n ops ax lo w f TY=some fin->∀U∈TY,pW P C n Q ρ0 E ops ax lo hi w U
 |0,_,he,_,_=>by cases he
 | f + 1,TY,he,U,h=>by
   unfold RH at he;split at he;· cases h
   ·rename_i x rest;split at he
    ·rename_i eZ;split at he
     ·rename_i hb;obtain rfl:x=fin:=Option.some.inj he
      have key:∀y,GA ops y.L=true->y.fr=x.fr->y.hp=x.hp->pW P C n Q ρ0 E ops ax lo hi w y:=λy h1 h2 h3 ρ S H D hr=>
       Qz dh h1 (Rk ρ S H hr.ext (by rw[<-h2,<-h3];exact hr.rel) hr.rest)
      rcases B'.1 h with rfl|h;· exact key _ eZ rfl rfl
      ·have:=e!.1 hb U h;simp only[j']at this;exact key U this.1.1 (Tr.beq_eq this.1.2) (uI this.2)
     · cases he
    ·split at he
     ·rename_i ns h1;exact o9 eS dh DX h1 (QcX (ya eS dh DX Rk he)) U h
     · cases he
theorem EG (eS:Ko P E call) {id:Nat} {fr ir:Tr} {hp ew:eI} {eK:Nat} (he:KT P call n ops hi fr hp lo=some (ir,ew,eK)) {ρ:Env} {S:aq (Nat×bc)} {H:aq Fact} (h:Rel ρ E fr hp S H)(hf:nO ρ lo hi)
  (next:∀de S' H',Ext ρ de lo hi->Rel de E ir ew S' H'->nO de eK hi->lo<=eK->WE C n Q [] H' S' .normal):WC P C n Q [] H S (.region id ops true):=by
 unfold KT at he;split at he
 ·rename_i hb;simp only[j']at hb;obtain⟨⟨hm,U⟩,hle⟩:=hb;have hle:=A' hle;split at he
  ·rename_i nd IG;split at he
   ·rename_i fin Rk;cases he
    have hw:ops.size*((hi-lo)/(65536*(ops.size+1)))<=hi-lo:=by
     generalize hi-lo=m
     calc ops.size*(m/(65536*(ops.size+1)))<=(65536*(ops.size+1))*(m/(65536*(ops.size+1))):=T' _ au
      _<=m:=Nat.mul_div_le _ _
    have h1:=ya (ρ0:=ρ) (C:=C) (Q:=Q) eS U (hi:=hi) au (λde S' H' e1 e2 e3=>next de S' H' e1 e2 e3 au) Rk nd bh;have h2:=Qcd U IG h1;have h0:ops=ops.toList.toArray:=bh
    rw[h0];refine QE (oq ops) hm (by rw[<-h0];exact U) λa3Q=>?_
    have h3:=h2 ρ S H [] ⟨h,Ext.refl _ _ _,λj hj _ g g1 g2=>hf g au ?_,λg g1 g2=>hf g au g2,trivial⟩;· simpa using h3
    ·have:j*((hi-lo)/(65536*(ops.size+1)))+(hi-lo)/(65536*(ops.size+1))<=ops.size*((hi-lo)/(65536*(ops.size+1))):=by rw[<-B!];exact T' _ hj
     omega
   · cases he
  · cases he
 · cases he
end draw
end
end
section
open Go.RowKit
noncomputable section
inductive Ex where
 |normal
 |exit (id:Nat)
 |ret
def Ex.to:Ex->Exit
 | .normal=>.normal
 | .exit id=>.exit id
 | .ret=>.ret
def Cd (body:Tr->eI->Nat->bf (Ex×Tr×eI×Nat)):Nat->Tr->eI->Nat->bf (Ex×Tr×eI×Nat)
 |0,_,_,_=>none
 | k+1,fr,hp,lo=>match body fr hp lo with
   |some (.normal,ir,ew,U)=>Cd body k ir ew U
   |some (.exit id,ir,ew,U)=>some (.exit id,ir,ew,U)
   |some (.ret,ir,ew,U)=>some (.ret,ir,ew,U)
   |none=>none
def zf (P:da)(call:AL)(n lf hi:Nat):Code->Tr->eI->Nat->bf (Ex×Tr×eI×Nat)
 | .skip,fr,hp,lo=>some (.normal,fr,hp,lo)
 | .region _ ops false,fr,hp,lo=>match S4 P call n ops hi ops.toList fr hp lo with
   |some (ir,ew,U)=>some (.normal,ir,ew,U)
   |none=>none
 | .region _ ops true,fr,hp,lo=>match KT P call n ops hi fr hp lo with
   |some (ir,ew,U)=>some (.normal,ir,ew,U)
   |none=>none
 | .seq a b,fr,hp,lo=>match zf P call n lf hi a fr hp lo with
   |some (.normal,ir,ew,U)=>zf P call n lf hi b ir ew U
   |some (.exit id,ir,ew,U)=>some (.exit id,ir,ew,U)
   |some (.ret,ir,ew,U)=>some (.ret,ir,ew,U)
   |none=>none
 | .cond c x y,fr,hp,lo=>match ku fr c with
   |some (.v (.bool true))=>zf P call n lf hi x fr hp lo
   |some (.v (.bool false))=>zf P call n lf hi y fr hp lo
   |_=>none
 | .block id b,fr,hp,lo=>match zf P call n lf hi b fr hp lo with
   |some (.normal,ir,ew,U)=>some (.normal,ir,ew,U)
   | some (.exit j,ir,ew,U)=>match z' j id with
     |true=>some (.normal,ir,ew,U)
     |false=>some (.exit j,ir,ew,U)
   |some (.ret,ir,ew,U)=>some (.ret,ir,ew,U)
   |none=>none
 | .loop b,fr,hp,lo=>Cd (λfr hp lo=>zf P call n lf hi b fr hp lo) lf fr hp lo
 | .exit id,fr,hp,lo=>some (.exit id,fr,hp,lo)
 | .ret,fr,hp,lo=>some (.ret,fr,hp,lo)
 |_,_,_,_=>none
section code
variable {P:da} {C:Ctx} {n:FD} {E:aq bc} {call:AL}
def E7 (P:da)(C:Ctx)(n:FD)(E:aq bc)(hi:Nat)(c:Code)(f:Tr->eI->Nat->bf (Ex×Tr×eI×Nat)):Prop:=
 ∀ fr hp lo ex ir ew eK,f fr hp lo=some (ex,ir,ew,eK)->∀(Q:Exit->Act->bx->Prop) ρ S H,Rel ρ E fr hp S H->nO ρ lo hi->
   (∀U S' H',Ext ρ U lo hi->Rel U E ir ew S' H'->nO U eK hi->lo<=eK->WE C n Q [] H' S' ex.to)->WC P C n Q [] H S c
theorem Fq {hi:Nat} {b:Code} {body:Tr->eI->Nat->bf (Ex×Tr×eI×Nat)} (hb:E7 P C n E hi b body)(lf:Nat):E7 P C n E hi (.loop b) (Cd body lf):=by
 intro fr hp lo ex ir ew eK he Q ρ S H h hf next a w fC hw
 refine uW (λm a w=>∃fr1 TP lo1 YJ S1 H1,Cd body m fr1 TP lo1=some (ex,ir,ew,eK)/\Rel YJ E fr1 TP S1 H1/\nO YJ lo1 hi/\Ext ρ YJ lo hi/\lo<=lo1/\gm n S1 a/\Ql C [] H1 w) ?_ lf a w
   ⟨fr,hp,lo,ρ,S,H,he,h,hf,Ext.refl _ _ _,y' _,fC,hw⟩
 rintro m a w ⟨fr1,TP,lo1,YJ,S1,H1,g1,g2,g3,g4,g5,g6,g7⟩;cases m with
 |zero=>cases g1
 | succ m=>
   unfold Cd at g1;split at g1
   ·rename_i JR jb ou U;refine hb _ _ _ _ _ _ _ U _ YJ S1 H1 g2 g3 (λde S' H' e1 e2 e3 e4 a' w' mM jC=>?_) a w g6 g7;exact⟨m,Nat.lt_succ_self m,JR,jb,ou,de,S',H',g1,e2,e3,g4.trans e1 g5 (y' _),au,mM,jC⟩
   ·rename_i id JR jb ou U;cases g1;refine hb _ _ _ _ _ _ _ U _ YJ S1 H1 g2 g3 (λde S' H' e1 e2 e3 e4 a' w' mM jC=>?_) a w g6 g7;exact next de S' H' (g4.trans e1 g5 (y' _)) e2 e3 au a' w' mM jC
   ·rename_i JR jb ou U;cases g1;refine hb _ _ _ _ _ _ _ U _ YJ S1 H1 g2 g3 (λde S' H' e1 e2 e3 e4 a' w' mM jC=>?_) a w g6 g7;exact next de S' H' (g4.trans e1 g5 (y' _)) e2 e3 au a' w' mM jC
   · cases g1
theorem ED (eS:Ko P E call) {lf hi:Nat}:∀c:Code,E7 P C n E hi c (zf P call n lf hi c):=by
 intro c;induction c with
 | skip=>
   intro fr hp lo ex ir ew eK he Q ρ S H h U next
   unfold zf at he;cases he;exact QY (next ρ S H (Ext.refl _ _ _) h U (y' _))
 | region id ops draw=>
   intro fr hp lo ex ir ew eK he Q ρ S H h U next
   cases draw with
   | false=>
     unfold zf at he;split at he
     ·rename_i JR jb ou h1;cases he;have h0:ops=ops.toList.toArray:=bh
      rw[h0];refine Qa ?_;rw[<-h0];exact yn eS h1 h U next
     · cases he
   | true=>
     unfold zf at he;split at he
     ·rename_i JR jb ou h1;cases he;exact EG eS h1 h U next
     · cases he
 | seq a b iha ihb=>
   intro fr hp lo ex ir ew eK he Q ρ S H h U next
   unfold zf at he;refine Q5 ?_;split at he
   · rename_i JR jb ou h1;exact iha _ _ _ _ _ _ _ h1 _ ρ S H h U λde S' H' e1 e2 e3 e4=>Qy (ihb _ _ _ _ _ _ _ he Q de S' H' e2 e3 λJw Vd H'' f1 f2 f3 f4=>next Jw Vd H'' (e1.trans f1 e4 (y' _)) f2 f3 au)
   · rename_i id JR jb ou h1;cases he;exact iha _ _ _ _ _ _ _ h1 _ ρ S H h U λde S' H' e1 e2 e3 e4=>Q7 (next de S' H' e1 e2 e3 e4)
   · rename_i JR jb ou h1;cases he;exact iha _ _ _ _ _ _ _ h1 _ ρ S H h U λde S' H' e1 e2 e3 e4=>Q4 (next de S' H' e1 e2 e3 e4)
   · cases he
 | cond c x y ihx ihy=>
   intro fr hp lo ex ir ew eK he Q ρ S H h U next
   unfold zf at he;split at he
   · rename_i hc;exact Kj (nM h hc) (ihx _ _ _ _ _ _ _ he Q ρ S H h U next)
   · rename_i hc;exact DG (nM h hc) (ihy _ _ _ _ _ _ _ he Q ρ S H h U next)
   · cases he
 | block id b ih=>
   intro fr hp lo ex ir ew eK he Q ρ S H h U next
   unfold zf at he;refine Qk ?_;split at he
   · rename_i JR jb ou h1;cases he;exact ih _ _ _ _ _ _ _ h1 _ ρ S H h U λde S' H' e1 e2 e3 e4=>Q6 (next de S' H' e1 e2 e3 e4)
   · rename_i j JR jb ou h1;split at he
     ·rename_i hb;cases he;have:=Qt hb;subst this;exact ih _ _ _ _ _ _ _ h1 _ ρ S H h U λde S' H' e1 e2 e3 e4=>Qv (next de S' H' e1 e2 e3 e4)
     ·rename_i hb;cases he;have:=Of hb;exact ih _ _ _ _ _ _ _ h1 _ ρ S H h U λde S' H' e1 e2 e3 e4=>xe this (next de S' H' e1 e2 e3 e4)
   · rename_i JR jb ou h1;cases he;exact ih _ _ _ _ _ _ _ h1 _ ρ S H h U λde S' H' e1 e2 e3 e4=>Qr (next de S' H' e1 e2 e3 e4)
   · cases he
 | loop b ih=>
   intro fr hp lo ex ir ew eK he Q ρ S H h U next
   unfold zf at he;exact Fq ih lf fr hp lo ex ir ew eK he Q ρ S H h U next
 | exit id=>
   intro fr hp lo ex ir ew eK he Q ρ S H h U next
   unfold zf at he;cases he;exact gW (next ρ S H (Ext.refl _ _ _) h U (y' _))
 | ret=>
   intro fr hp lo ex ir ew eK he Q ρ S H h U next
   unfold zf at he;cases he;exact Qn (next ρ S H (Ext.refl _ _ _) h U (y' _))
 | _=>
   intro fr hp lo ex ir ew eK he Q ρ S H h U next
   unfold zf at he;cases he
end code
mutual
def SV.newN (lo hi:Nat):SV->aq Nat->aq Nat
 | .ptr g _,acc=>match t! lo g&&W' g hi with
   |true=>g::acc
   |false=>acc
 | .sl g _ _ _ _,acc=>match t! lo g&&W' g hi with
   |true=>g::acc
   |false=>acc
 | .mp g,acc=>match t! lo g&&W' g hi with
   |true=>g::acc
   |false=>acc
 | .fn _ a b,acc=>SV.newNs lo hi a (SV.newNs lo hi b acc)
 | .agg l,acc=>SV.newNs lo hi l acc
 | .tup l,acc=>SV.newNs lo hi l acc
 |_,acc=>acc
def SV.newNs (lo hi:Nat):aq SV->aq Nat->aq Nat
 |[],acc=>acc
 |x::l,acc=>SV.newN lo hi x (SV.newNs lo hi l acc)
end
def Tq (lo hi:Nat):aq (SV×SV×Nat)->aq Nat->aq Nat
 |[],acc=>acc
 |(k,v,_)::r,acc=>SV.newN lo hi k (SV.newN lo hi v (Tq lo hi r acc))
def HO.newN (lo hi:Nat):HO->aq Nat->aq Nat
 | .blk cs _,acc=>SV.newNs lo hi cs acc
 | .row cs _ _ _,acc=>SV.newNs lo hi cs acc
 | .ro cs,acc=>SV.newNs lo hi cs acc
 | .mp es _,acc=>Tq lo hi es acc
 | .it (some g) _ _ _,acc=>g::acc
 | .it none _ _ _,acc=>acc
def XK (lo hi:Nat):eI->aq Nat->aq Nat
 |[],acc=>acc
 | (g,o)::r,acc=>match t! lo g&&W' g hi with
   |true=>XK lo hi r acc
   |false=>HO.newN lo hi o (XK lo hi r acc)
def Hg (lo hi:Nat)(hp:eI):Nat->aq Nat->aq Nat->aq Nat
 |0,_,seen=>seen
 | f + 1,work,seen=>match work with
   |[]=>seen
   | g ::r=>match iQ seen g with
     |true=>Hg lo hi hp f r seen
     | false=>match lN hp g with
       |some o=>Hg lo hi hp f (HO.newN lo hi o r) (g::seen)
       |none=>Hg lo hi hp f r seen
def Cj (lo hi:Nat)(seen:aq Nat):eI->eI
 |[]=>[]
 | (g,o)::r=>match t! lo g&&W' g hi&& !iQ seen g with
   |true=>Cj lo hi seen r
   |false=>(g,o)::Cj lo hi seen r
def mh (lo hi:Nat)(v:SV)(hp0 hp:eI):eI:=match t! (hp0.length+5) hp.length with
 |true=>Cj lo hi (Hg lo hi hp 2000 (SV.newN lo hi v (XK lo hi hp [])) []) hp
 |false=>hp
section mh
variable {ρ:Env} {E:aq bc} {C:Ctx}
theorem Ql.dropMid {Φ pre post:aq Fact} {a:Fact} {w:bx} (h:Ql C Φ (pre++a::post) w):Ql C Φ (pre++post) w:=by
 refine h.drop pre.length bh ?_;rw[List.eraseIdx_append_of_length_le (y' _)];simp
theorem uU {lo hi:Nat} {seen:aq Nat}:∀{hp:eI} {H:aq Fact},ju ρ E hp H->∃H',ju ρ E (Cj lo hi seen hp) H'/\∀pre w,Ql C [] (pre++H) w->Ql C [] (pre++H') w
 |[],[],_=>⟨[],trivial,λ_ _ h=>h⟩
 | (g,o)::r,φ::H,U=>by
   obtain⟨H',h1,h2⟩:=uU U.2;unfold Cj;split;· exact⟨H',h1,λpre w h=>h2 pre w h.dropMid⟩
   ·refine⟨φ::H',⟨U.1,h1⟩,λpre w h=>?_⟩;have:=h2 (pre++[φ]) w (du h);simpa using this
 |[],_::_,U=>U.elim
 |_::_,[],U=>U.elim
theorem vA {lo hi:Nat} {v:SV} {hp0 hp:eI} {H:aq Fact} (U:ju ρ E hp H):∃H',ju ρ E (mh lo hi v hp0 hp) H'/\∀w,Ql C [] H w->Ql C [] H' w:=by
 unfold mh;split
 ·obtain⟨H',h1,h2⟩:=uU (C:=C) U;exact⟨H',h1,λw h=>by simpa using h2 [] w (du h)⟩
 · exact⟨H,U,λ_ h=>h⟩
end mh
def tY:Nat->aq SV->Tr->Tr
 |_,[],t=>t
 |k,v::l,t=>tY (k+1) l (t.put k v)
def FI (P:da) (fr:Tr) (hp:eI):aq ResultVar->bf (aq SV)
 |[]=>some []
 | r ::l=>match(match r with
     | .tmp t=>fr.get t
     | .cell q t=>match fr.get q with
       |  some (.ptr g off)=>match QV P t,fJ P t with
          | some sz,some U=>match rD hp g off sz with
            | some cs=>match U with
              |true=>some (.agg cs)
              | false=>match cs with
                |[c]=>some c
                |_=>none
            |none=>none
          |_,_=>none
       |_=>none),FI P fr hp l with
  |some v,some vs=>some (v::vs)
  |_,_=>none
def WD (P:da) (call:AL) (lf:Nat):AL:=λf args hp lo hi=>match P.funcs[f]? with
 |none=>none
 | some fn=>match fn.body with
   |none=>none
   | some body=>match t! args.length fn.ntmps&&W' fn.ntmps 16000 with
     |false=>none
     | true=>match zf P call fn.ntmps lf hi body (tY 0 args .nil) hp lo with
       |some (.exit _,_,_,_)=>none
       |  some (_,fr,U,eK)=>match FI P fr U fn.results.toList with
          |some [v]=>some (v,mh lo hi v hp U,eK)
          |some vs=>some (.tup vs,mh lo hi (.tup vs) hp U,eK)
          |none=>none
       |none=>none
def KI (P:da)(U:Nat):Nat->AL
 |0=>λ_ _ _ _ _=>none
 |d+1=>WD P (KI P U d) U
section a2r
variable {P:da} {C:Ctx} {n:FD} {E:aq bc} {call:AL}
theorem tZ {ρ:Env}:∀(args:aq SV)(vals:aq bc)(k:Nat)(t:Tr)(S:aq (Nat×bc)),SV.dens ρ E args=some vals->k+args.length<16001->(∀j v,t.get j=some v->j<k/\∃x,v.den ρ E=some x/\look S j=some x)->
   ∀j v,(tY k args t).get j=some v->∃x,v.den ρ E=some x/\(look S j=some x/\j<k\/k<=j/\vals[j-k]? =some x)
 | [],vals,k,t,S,h,hk,ht,j,v,U=>by
   obtain⟨h1,x,h2,h3⟩:=ht j v U;exact⟨x,h2,.inl ⟨h3,h1⟩⟩
 | a ::l,vals,k,t,S,h,hk,ht,j,v,U=>by
   obtain⟨u,us,rfl,h1,h2⟩:=QL h
   obtain ⟨x,h3,h4⟩:=tZ l us (k+1) (t.put k a) ((k,u)::fk k S) h2 (by simp at hk;omega) (λj v U=>by
    unfold Tr.put at U;rw[Tr.get_set 14 _ _ _ (by simp at hk;omega)]at U;split at U;· rename_i e;cases U;subst e;exact⟨au,u,h1,by simp[look]⟩
    ·rename_i ep;obtain⟨h5,y,h6,h7⟩:=ht j v U;refine⟨au,y,h6,?_⟩;have:z' k j=false:=by cases hb:z' k j with|false=>rfl|true=>exact absurd (Qt hb).symm ep
     simp only[look,this];rw[Qd6 ep];exact h7) j v U
   refine⟨x,h3,?_⟩;rcases h4 with⟨h4,h5⟩|⟨h4,h5⟩
   ·by_cases e:j=k
    ·subst e;simp[look]at h4;exact .inr ⟨y' _,by simp[h4]⟩
    ·have:z' k j=false:=by cases hb:z' k j with|false=>rfl|true=>exact absurd (Qt hb).symm e
     simp only[look,this]at h4;rw[Qd6 e]at h4;exact .inl ⟨h4,au⟩
   · exact .inr ⟨au,by rw[show j-k=(j-(k+1))+1 from by omega];simpa using h5⟩
theorem Cn:∀{vals:aq bc} {k j:Nat} {x:bc},k<=j->vals[j-k]? =some x->look (xh k vals) j=some x
 |[],_,_,_,_,h=>by simp at h
 | v ::l,k,j,x,hk,h=>by
   unfold xh look;cases hb:z' k j with
   |true=>have:=Qt hb;subst this;simpa using h
   | false=>
     have:=Of hb;refine Cn au ?_;rw[show j-k=(j-(k+1))+1 from by omega]at h;simpa using h
theorem yt {ρ:Env} {fr:Tr} {hp:eI} {S:aq (Nat×bc)} {H:aq Fact} (h:Rel ρ E fr hp S H):∀{rs:aq ResultVar} {vs:aq SV},FI P fr hp rs=some vs->∃xs,SV.dens ρ E vs=some xs/\∀(a:Act) w,gm n S a->Ql C [] H w->(rs.mapM (Kl a.tmps)).run P w=.ok xs w
 |[],vs,he=>by cases he;exact⟨[],rfl,λa w _ _=>bh⟩
 | r :: l,vs,he=>by
   unfold FI at he;split at he
   ·rename_i v vs' h1 h2;cases he;obtain⟨xs,h3,h4⟩:=yt h h2
    have key:∃x,v.den ρ E=some x/\∀(a:Act) w,gm n S a->Ql C [] H w->(Kl a.tmps r).run P w=.ok x w:=by
     split at h1
     ·rename_i t;obtain⟨x,U,h6⟩:=h.fr _ _ h1;exact⟨x,U,λa w hf hw=>jt (C:=C) (Φ:=[]) h6 a w hf hw⟩
     ·rename_i q t;split at h1
      ·rename_i g off hq;split at h1
       ·rename_i sz ag hs ha;split at h1
        ·rename_i cs th;obtain⟨b,c,ws,k1,k2,k3,k4⟩:=mN (C:=C) h.hp th;obtain⟨x,U,h6⟩:=h.fr _ _ hq;simp only[SV.den,k1,r!,Option.some.injEq]at U;subst U;have hl:ws.length=sz:=by rw[B6 k2,k3]
         have eX:∀u,lK ag ws=some u->∀(a:Act) w,gm n S a->Ql C [] H w->(Kl a.tmps (.cell q t)).run P w=.ok u w:=λu hu a w hf hw=>by
          have:=hf.eval (x:=.tmp q) h6;simp only[Act.eval]at this;simp only[Kl,this,Sem.run_bind];simp[asAddr,Ux (k4 w hw) hs ha hl hu]
         split at h1
         ·cases h1;exact⟨_,ug k2,eX _ rfl⟩
         ·split at h1
          ·rename_i c1;cases h1;obtain⟨u,us,rfl,k5,k6⟩:=QL k2;cases k6;exact⟨u,k5,eX u rfl⟩
          · cases h1
        · cases h1
       · cases h1
      · cases h1
    obtain⟨x,U,h6⟩:=key;refine⟨x::xs,Ee U h3,λa w hf hw=>?_⟩;rw[List.mapM_cons];simp[h6 a w hf hw,h4 a w hf hw]
   · cases he
theorem yu (hD:n.D=[]) {S:aq (Nat×bc)} {fn:Func} {R:bc->aq Fact->aq Fact->Prop} {v:bc} {H H2:aq Fact} (hr:∀a w,gm n S a->Ql C [] H w->(results fn a.tmps).run P w=.ok v w)(hR:R v [] H2)(hs:∀w,Ql C [] H w->Ql C [] H2 w) {e:Exit} (he:e=.ret\/e=.normal):
  WE C n (bodyPost P fn (sf C R)) [] H S e:=by
 intro a w U hw;have h1:bodyPost P fn (sf C R) .ret a w:=⟨U.defers.trans hD,v,hr a w U hw,v,[],H2,rfl,hR,hs w hw⟩
 rcases he with rfl|rfl<;>exact h1
theorem PZ {fn:Func} {ρ U:Env} {lo hi ou eK:Nat} {fr:Tr} {hp jb ew:eI} {S':aq (Nat×bc)} {H':aq Fact} {v:SV} {e:Exit} (hr:(match FI P fr jb fn.results.toList with|some [v]=>some (v,mh lo hi v hp jb,ou)|some vs=>some (.tup vs,mh lo hi (.tup vs) hp jb,ou)|none=>none)=some (v,ew,eK))
  (e1:Ext ρ U lo hi) (e2:Rel U E fr jb S' H') (e3:nO U ou hi) (e4:lo<=ou) (hx:e=.ret\/e=.normal):
  WE C ⟨fn.ntmps,[]⟩ (bodyPost P fn (sf C λx bz Hr=>bz=[]/\∃U,Ext ρ U lo hi/\v.den U E=some x/\ju U E ew Hr/\nO U eK hi/\lo<=eK)) [] H' S' e:=by
 have main:∀vs,FI P fr jb fn.results.toList=some vs->∃xs,SV.dens U E vs=some xs/\∀(a:Act) w,gm ⟨fn.ntmps,[]⟩ S' a->Ql C [] H' w->(results fn a.tmps).run P w=.ok (if h:xs.toArray.size=1 then xs.toArray[0]else .tuple xs.toArray) w:=λvs Rx=>by
  obtain⟨xs,h1,h2⟩:=yt (P:=P) (C:=C) (n:=⟨fn.ntmps,[]⟩) e2 Rx;refine⟨xs,h1,λa w fC hw=>?_⟩;have h3:=h2 a w fC hw
  have h4:(fn.results.mapM (Kl a.tmps)).run P w=.ok xs.toArray w:=by
   have h5:fn.results.mapM (Kl a.tmps)=List.toArray<$>fn.results.toList.mapM (Kl a.tmps):=by rw[Array.mapM_eq_mapM_toList]
   rw[h5];simp only[map_eq_pure_bind];simp[h3]
  rw[Qce];simp only[Sem.run_bind,h4,Result.andThen_ok];rfl
 split at hr
 ·rename_i v' Rx;cases hr;obtain⟨xs,h1,h2⟩:=main _ Rx;obtain⟨x,us,rfl,h3,h4⟩:=QL h1;cases h4;obtain⟨H2,s1,s2⟩:=vA (C:=C) (lo:=lo) (hi:=hi) (v:=v) (hp0:=hp) e2.hp;exact yu rfl (λa w fC hw=>by simpa using h2 a w fC hw) ⟨rfl,U,e1,h3,s1,e3,e4⟩ s2 hx
 ·rename_i vs ep Rx;cases hr;obtain⟨xs,h1,h2⟩:=main _ Rx;have hl:=B6 h1
  have Xb:¬xs.length=1:=λe=>by
   rw[hl]at e;obtain⟨y,rfl⟩:=List.length_eq_one_iff.1 e;exact ep y rfl
  obtain⟨H2,s1,s2⟩:=vA (C:=C) (lo:=lo) (hi:=hi) (v:=.tup vs) (hp0:=hp) e2.hp
  exact yu rfl (v:=.tuple xs.toArray) (λa w fC hw=>by
   have:=h2 a w fC hw;rw[dif_neg (du Xb)]at this;exact this) ⟨rfl,U,e1,by simp[SV.den,h1],s1,e3,e4⟩ s2 hx
 · cases hr
theorem PY (eS:Ko P E call)(lf:Nat):Ko P E (WD P call lf):=by
 intro f args hp lo hi v ew eK he ρ vals H fO hH hf;unfold WD at he;split at he;· cases he
 ·rename_i fn ja;split at he;· cases he
  ·rename_i body a0C;split at he;· cases he
   ·rename_i hb;simp only[j']at hb;have hle:=hb.1;have h16:=A' hb.2;rw[<-B6 fO]at hle;refine Qm ja a0C rfl hle rfl λC=>?_
    have hlen:=B6 fO;have a0R:=A' hle
    have a3c:Rel ρ E (tY 0 args .nil) hp (xh 0 vals) H:=⟨λk u hk=>by
     obtain⟨x,h1,h2⟩:=tZ args vals 0 .nil [] fO au (λj v hj=>by cases hj) k u hk;rcases h2 with⟨h2,h3⟩|⟨h2,h3⟩
     · omega
     · exact⟨x,h1,Cn (Q! _) h3⟩,hH⟩
    have fin:∀{ex fr U ou},zf P call fn.ntmps lf hi body (tY 0 args .nil) hp lo=some (ex,fr,U,ou)->(∀id,ex≠.exit id)->(match FI P fr U fn.results.toList with|some [v]=>some (v,mh lo hi v hp U,ou)|some vs=>some (.tup vs,mh lo hi (.tup vs) hp U,ou)|none=>none)=some (v,ew,eK)->
      WC P C ⟨fn.ntmps,[]⟩ (bodyPost P fn (sf C λx bz Hr=>bz=[]/\∃de,Ext ρ de lo hi/\v.den de E=some x/\ju de E ew Hr/\nO de eK hi/\lo<=eK)) [] H (xh 0 vals) body:=by
     intro ex fr U ou hc hex hr;refine ED eS body _ _ _ _ _ _ _ hc _ ρ _ H a3c hf λde S' H' e1 e2 e3 e4=>?_
     have hx:ex.to=.ret\/ex.to=.normal:=by
      cases ex with
      |normal=>exact .inr rfl
      |ret=>exact .inl rfl
      |exit id=>exact absurd rfl (hex id)
     exact PZ hr e1 e2 e3 e4 hx
    split at he;· cases he
    ·rename_i ex fr U ou ep hc;exact fin hc (λid e=>ep id e) he
    · cases he
theorem Bk (E:aq bc)(U:Nat):∀d,Ko P E (KI P U d)
 |0=>λf args hp lo hi v ew eK he=>by cases he
 |d+1=>PY (Bk E U d) U
end a2r
end
end
section
open Go Go.RowKit
section
variable {P:da} {C:Ctx} {n:FD} {Q:Exit->Act->bx->Prop} {Φ:aq Fact} {H:aq Fact} {S S':aq (Nat×bc)} {ops:Array Oper} {rest:aq Oper} {o:Oper} {d:Nat} {ax L:aq Nat} {D:aq (Nat×Fact)}
variable {x y:bw}{k:IntKind}{t:TypeId}{s:cq}{z:Int}{v:bc}
def Ep (P:da)(n:FD)(S:aq (Nat×bc))(o:Oper)(v:bc):Prop:=∀a w,gm n S a->(execOp a.eval o).run P w=.ok (.value v) w
theorem I4 (hg:QM ops S o=some true)(hd:o.dst=some d)(hn:W' d n=true)(U:fk d S=S')(h:Ep P n S o v)(next:WL P C n Q Φ H ((d,v)::S') ops rest):WL P C n Q Φ H S ops (o::rest):=
 JQ hg hd hn U (λa w hf _=>h a w hf) next
def NH (P:da)(t:Nat):Bool:=match P.underlying t with
 |some .string=>true
 |_=>false
theorem Gi {t:Nat} (h:NH P t=true):P.underlying t=some .string:=by
 unfold NH at h;split at h;· rename_i U;exact U
 · cases h
def Ap (P:da)(t:Nat):bf IntKind:=match P.underlying t with
 |some (.int k)=>some k
 |_=>none
theorem ie {t:Nat} (h:Ap P t=some k):P.underlying t=some (.int k):=by
 unfold Ap at h;split at h;· rename_i U;cases h;exact U
 · cases h
theorem yw (ho:o.op=.call {callee:=.builtin .len,args:=#[x],argTypes:=#[t]})(hx:dy S x=some (.string s))(ht:NH P t=true):Ep P n S o (.int .i64 ((s.size:Nat):Int)):=
 λa w U=>by simp[execOp,ho,resolve,invoke,builtin,Builtin.len_,U.eval hx,run_underlying (Gi ht),goInt]
def RO (a b:Int):Int:=if b<a then b else a
theorem XW {ts:Array TypeId} {j:IntKind} {a b:Int} (ho:o.op=.call {callee:=.builtin .min,args:=#[x,y],argTypes:=ts})(hx:dy S x=some (.int k a))(hy:dy S y=some (.int j b)):Ep P n S o (.int k (RO a b)):=
 λc w U=>by simp[execOp,ho,resolve,invoke,builtin,Builtin.min_,Builtin.min2,U.eval hx,U.eval hy,RO]
theorem N1 {b:UInt8} (j:Nat)(ho:o.op=.index t x y)(hx:dy S x=some (.string s))(hy:dy S y=some (.int k z))(hz:z=(j:Int))(hb:s[j]? =some b)(ht:NH P t=true):Ep P n S o (.int .u8 ((b.toNat:Nat):Int)):=by
 subst hz;exactλa w U=>by simp[execOp,ho,U.eval hx,U.eval hy,Instr.index,asIntOf,run_underlying (Gi ht),hb]
theorem nh {u:cq} (h:s.size+u.size<=9223372036854775807)(w:bx):(do eqGuard .add t x y (.string s) (.string u);binOp .add t (.string s) (.string u):Sem bc).run P w=.ok (.string (s++u)) w:=by
 have U:IntKind.max .i64=9223372036854775807:=bp
 have h2:¬(((s.size+u.size:Nat):Int)>IntKind.max .i64):=by rw[U];omega
 simp only[eqGuard,binOp,Op.stringOp];rw[if_neg h2];rfl
theorem tt {s:TypeId} {k' U:IntKind} (ho:o.op=.convert s t x)(hx:dy S x=some (.int k z))(hs:Ap P s=some k')(ht:Ap P t=some U):Ep P n S o (.int U (U.wrap z)):=λa w hf=>by
 simp[execOp,ho,hf.eval hx,convert,run_underlying (ie hs),run_underlying (ie ht),Conv.intToInt]
theorem Ab (ho:o.op=.unOp .neg t x)(hx:dy S x=some (.int k z)):Ep P n S o (.int k (k.wrap (0-z))):=λa w U=>by
 simp[execOp,ho,U.eval hx,Op.unary,Op.intArith]
def L9 (P:da)(t k:Nat):bf (Nat×Nat):=match P.underlying t with
 |some (.struct U)=>(U[k]?).map λf=>(f.type,f.offset)
 |_=>none
theorem MZ {t k u off sz:Nat} {cs:Array bc} {ag:Bool} (ho:o.op=.field t x k)(hx:dy S x=some (.agg cs))(hk:L9 P t k=some (u,off))(ha:fJ P u=some ag)(hs:QV P u=some sz)(hv:(if ag=true then some (.agg (cs.extract off (off+sz)))else cs[off]?)=some v):Ep P n S o v:=λc w hf=>by
 unfold L9 at hk;split at hk
 ·rename_i fs hu;cases U:fs[k]? with
  |none=>rw[U]at hk;cases hk
  | some f=>
    rw[U]at hk;simp only[r!,Option.some.injEq,Prod.mk.injEq]at hk;obtain⟨rfl,rfl⟩:=hk
    have hp:(part f.type cs f.offset).run P w=.ok v w:=by
     unfold part;simp only[Sem.run_bind,vD ha,Result.andThen];cases ag with
     | true=>
       simp only[if_true,Sem.run_bind,w7 hs,Result.andThen]at hv⊢;cases hv;rfl
     | false=>
       simp only[Bool.false_eq_true,if_false]at hv⊢;rw[hv];rfl
    simp[execOp,ho,hf.eval hx,Instr.field,run_underlying hu,U,asAgg,hp]
 · cases hk
end
end
section
open Go Go.RowKit
variable {w:bx}{r clock:Nat}{E:Array MapEntry}
theorem Pb {P:da} (h:w.heap[r]? =some (.map E clock)):(getObj r).run P w=.ok (.map E clock) w:=by simp[getObj,Sem.run,h]
theorem Zr {P:da} (U:Obj)(h:w.heap[r]? =some (.map E clock)):(setObj r U).run P w=.ok () {w with heap:=w.heap.setIfInBounds r U}:=by simp[setObj,Sem.run,h]
theorem rG {α:Type} {E:Array α} {i:Nat} {e:α} {f:α->α} (h:E.toList[i]? =some e):(E.modify i f).toList=E.toList.set i (f e):=by
 apply List.ext_getElem?;intro q;rw[M!];have cj:=(q'.1 h).1;by_cases U:i=q
 ·subst U;rw[if_pos rfl,if_pos cj];have h2:E[i]? =some e:=by simpa using h
  simp[h2]
 ·rw[if_neg U];simp[U]
structure tM (P:Program) (k:TypeId) (κ:Type) where
 enc:κ->Value
 ok:κ->Prop
 check:∀{x},ok x->∀b w,(Instr.checkKey b 10000 k (enc x)).run P w=.ok () w
 find:∀{x},ok x->∀(es:List MapEntry) (ks:List κ),es.map (·.key)=ks.map enc->(∀y∈ks,ok y)->∀w,∃r,(Instr.findKey k (enc x) es).run P w=.ok r w/\((r=none/\x∉ks)\/∃(i:Nat) (e:MapEntry),r=some (i,e.val)/\es[i]? =some e/\ks[i]? =some x)
 stays:∀{x},ok x->∀w,(Instr.keyThatStays (enc x) (enc x)).run P w=.ok (enc x) w
theorem Qc8 {κ:Type} [DecidableEq κ] {d:TypeDesc} {enc:κ->bc} (hs:∀x y,Instr.sameNow d (enc x) (enc y)=some (decide (x=y)))(x:κ):∀(es:aq MapEntry)(ks:aq κ)(i:Nat),es.map (·.key)=ks.map enc->
   ∃r,Instr.findNow d (enc x) es i=some r/\((r=none/\x∉ks)\/∃(j:Nat) (e:MapEntry),r=some (i+j,e.val)/\es[j]? =some e/\ks[j]? =some x)
 |[],[],i,_=>⟨none,rfl,.inl ⟨rfl,bh⟩⟩
 |[],_::_,_,h=>by cases h
 |_::_,[],_,h=>by cases h
 | e::es,y::ks,i,h=>by
   simp only[g!,List.cons.injEq]at h;obtain⟨h1,h2⟩:=h;unfold Instr.findNow;rw[h1,hs];by_cases K0:x=y
   ·subst K0;simp only[decide_true];exact⟨_,rfl,.inr ⟨0,e,rfl,rfl,rfl⟩⟩
   ·obtain⟨r,h3,h4⟩:=Qc8 hs x es ks (i+1) h2;simp only[K0,decide_false];refine⟨r,h3,?_⟩;rcases h4 with⟨rfl,h5⟩|⟨j,U,rfl,h6,h7⟩
    · exact .inl ⟨rfl,by simp[K0,h5]⟩
    · exact .inr ⟨j+1,U,by rw[V!,Nat.add_comm 1 j],h6,h7⟩
theorem pY {P:da} {k:TypeId} {v:bc} {t:TypeDesc} (hk:P.underlying k=some t)(h:match t,v with| .interface _,_=>False| .array _ _,_=>False| .struct _,_=>False|_,_=>True)(b:Bool)(n:Nat)(w:bx):(Instr.checkKey b (n+1) k v).run P w=.ok () w:=by
 unfold Instr.checkKey;simp only[Sem.run_bind,run_underlying hk,Result.andThen];cases t<;>first|rfl|exact h.elim|(cases v<;>first|rfl|exact h.elim)
theorem KF (n:Nat)(k:IntKind)(x:Int):Instr.sameBits n (.int k x) (.int k x)=true:=by unfold Instr.sameBits;simp
theorem KG (n:Nat)(x:cq):Instr.sameBits n (.string x) (.string x)=true:=by unfold Instr.sameBits;exact(Go.MapKept.bytes_beq x x).2 rfl
theorem vx {P:da} {v:bc} (h:Instr.sameBits 10000 v v=true)(w:bx):(Instr.keyThatStays v v).run P w=.ok v w:=by
 unfold Instr.keyThatStays;rw[if_pos h];rfl
def iH {P:da} {k:TypeId} {q:IntKind} (hk:P.underlying k=some (.int q)):tM P k Int where
 enc x:=.int q x
 ok _:=True
 check:=λ_ b w=>pY hk trivial b 9999 w
 find:=λ{x} _ es ks h _ w=>by
  obtain⟨r,h1,U⟩:=Qc8 (d:=.int q) (enc:=λx=>Value.int q x) (λx y=>by simp[Instr.sameNow];rfl) x es ks 0 h;refine⟨r,?_,?_⟩;· simp[Instr.findKey,run_underlying hk,h1]
  · simpa using U
 stays:=λ_ w=>vx (KF _ _ _) w
def JJ {P:da} {k:TypeId} (hk:P.underlying k=some .string):tM P k cq where
 enc x:=.string x
 ok _:=True
 check:=λ_ b w=>pY hk trivial b 9999 w
 find:=λ{x} _ es ks h _ w=>by
  obtain⟨r,h1,U⟩:=Qc8 (d:=.string) (enc:=λx=>Value.string x) (λx y=>congrArg some (Bool.eq_iff_iff.2 ((Go.MapKept.bytes_beq x y).trans bh))) x es ks 0 h;refine⟨r,?_,?_⟩;· simp[Instr.findKey,run_underlying hk,h1]
  · simpa using U
 stays:=λ_ w=>vx (KG _ _) w
section
variable {κ α:Type} [DecidableEq κ]
def ib (x:κ):aq (κ×α)->bf α
 |[]=>none
 |y::l=>if y.1=x then some y.2 else ib x l
def kG (x:κ)(a:α):aq (κ×α)->aq (κ×α)
 |[]=>[(x,a)]
 |y::l=>if y.1=x then(x,a)::l else y::kG x a l
theorem ow {x:κ} {a:α}:∀{l:aq (κ×α)} {i:Nat},(l.map (·.1)).Nodup->l[i]? =some (x,a)->ib x l=some a
 |[],i,_,h=>by simp at h
 | y::l,0,_,h=>by
   simp only[i!,Option.some.injEq]at h;subst h;simp[ib]
 | y::l,i+1,U,h=>by
   simp only[z!]at h;simp only[g!,D!]at U;have ep:¬y.1=x:=λe=>U.1 (k!.2 ⟨_,c! h,e.symm⟩)
   unfold ib;rw[if_neg ep];exact ow U.2 h
theorem mW {x:κ}:∀{l:aq (κ×α)},x∉l.map (·.1)->ib x l=none
 |[],_=>rfl
 | y::l,h=>by
   simp only[g!,B',not_or]at h;unfold ib;rw[if_neg (λe=>h.1 e.symm)];exact mW h.2
theorem Co {x:κ} {a:α}:∀{l:aq (κ×α)},x∉l.map (·.1)->kG x a l=l++[(x,a)]
 |[],_=>rfl
 | y::l,h=>by
   simp only[g!,B',not_or]at h;unfold kG;rw[if_neg (λe=>h.1 e.symm),Co h.2];rfl
theorem zS {x:κ} {a b:α}:∀{l:aq (κ×α)} {i:Nat},(l.map (·.1)).Nodup->l[i]? =some (x,b)->kG x a l=l.set i (x,a)
 |[],i,_,h=>by simp at h
 | y::l,0,_,h=>by
   simp only[i!,Option.some.injEq]at h;subst h;simp[kG]
 | y::l,i+1,U,h=>by
   simp only[z!]at h;simp only[g!,D!]at U;have ep:¬y.1=x:=λe=>U.1 (k!.2 ⟨_,c! h,e.symm⟩)
   unfold kG;rw[if_neg ep,zS U.2 h];rfl
end
def kl {κ α:Type} {P:da} {k:TypeId} (K:tM P k κ)(ag:Bool)(R:fc α)(N F:eL)(b:Nat)(es:aq (κ×α))(w:bx):Prop:=
 N b/\∃(E:Array MapEntry) (clock:Nat),w.heap[b]? =some (.map E clock)/\E.toList.map (·.key)=es.map (λx=>K.enc x.1)/\
   (∀(i:Nat) (e:MapEntry) (x:κ×α),E.toList[i]? =some e->es[i]? =some x->∃cs,lK ag cs=some e.val/\R.p F w cs x.2)/\
   (es.map (·.1)).Nodup/\(∀x∈es,K.ok x.1)/\(E.toList.map (·.born)).Nodup/\∀e∈E.toList,e.born<clock
theorem kl.good {κ α:Type} {P:da} {k:TypeId} {K:tM P k κ} {ag:Bool} {R:fc α} {b:Nat} {es:aq (κ×α)} {N N' F G:eL} {w U:bx} (hN:∀k,N k->N' k)(ha:fX N w U)(hF:∀k,F k->G k)(hb:fX F w U)(h:kl K ag R N F b es w):kl K ag R N' G b es U:=by
 obtain⟨h1,E,clock,h2,h3,h4,h5⟩:=h;refine⟨hN _ h1,E,clock,(ha b h1).trans h2,h3,λi e x hi hx=>?_,h5⟩;obtain⟨cs,q1,q2⟩:=h4 i e x hi hx;exact⟨cs,q1,R.good hF hb q2⟩
def jU {κ α:Type} {P:da} {k:TypeId} (K:tM P k κ)(ag:Bool)(R:fc α)(b:Nat)(es:aq (κ×α)):Fact:=.duo (λN F w=>kl K ag R N F b es w) kl.good
def Ej:fc bc where
 p _ _ cs x:=cs=[x]/\x.oneCell'=true
 good:=λ_ _ h=>h
 one:=λh u hu=>by
  rw[h.1]at hu;simp at hu;subst hu;exact h.2
theorem JB:ra Ej (λx (_:Unit)=>[x]) (λ_ _=>True) (λ_ _=>[]):=λ_ _ _ _ h=>⟨(),h.1,trivial,λ_ U=>by cases U⟩
section rules
variable {P:da} {C:Ctx} {n:FD} {Q:Exit->Act->bx->Prop} {Φ Φ':aq Fact} {H H':aq Fact} {S S':aq (Nat×bc)} {ops:Array Oper} {rest:aq Oper} {o:Oper} {d:Nat}
variable {κ α:Type} [DecidableEq κ] {k:TypeId} {K:tM P k κ} {ag:Bool} {R:fc α} {b:Nat} {es:aq (κ×α)}
variable {t e:Nat}{x y:bw}{i:κ}{v:bc}{c:Bool}
omit [DecidableEq κ] in
theorem Ql.allocMapE {w:bx} (h:Ql C Φ H w)(K:tM P k κ)(ag:Bool)(R:fc α):Ql C Φ (jU K ag R w.heap.size []::H) (w.alloc (.map #[] 0)):=by
 obtain⟨F,N,hi⟩:=h;have U:Below w.heap.size w (w.alloc (.map #[] 0)):=(Below.refl _ _).alloc (y' _) _;refine⟨F,uc (λk=>k=w.heap.size) N,(hi.grow U).push _ _ ⟨rfl,#[],0,heap_alloc_new w _,rfl,λi e x hi=>by simp at hi,bh,bh,bh,bh⟩ ?_ ?_⟩
 ·rintro k rfl;exact⟨bh,.inl hi.mod.size,λhf=>W! _ (hi.flt _ hf)⟩
 ·rintro i k hl rfl hn;exact W! _ (hi.nlt i _ hl hn).1
omit [DecidableEq κ] in
theorem rS (K:tM P k κ)(ag:Bool)(R:fc α)(hg:QM ops S o=some true)(hd:o.dst=some d)(hn:W' d n=true)(U:fk d S=S')(ho:o.op=.makeMap t none)
  (next:∀g,WL P C n Q Φ (jU K ag R g []::H) ((d,.map (some g))::S') ops rest):WL P C n Q Φ H S ops (o::rest):=
 xl hg hd hn U λa w hf hw=>⟨_,_,(by simp[execOp,ho,run_makeMap]),_,_,hw.allocMapE K ag R,next _⟩
theorem kl.find {N F:eL} {w:bx} (h:kl K ag R N F b es w) {x:κ} (hx:K.ok x):∃(E:Array MapEntry)(clock:Nat),w.heap[b]? =some (.map E clock)/\(Instr.checkKey E.isEmpty 10000 k (K.enc x)).run P w=.ok () w/\
  (((Instr.findKey k (K.enc x) E.toList).run P w=.ok none w/\ib x es=none/\x∉es.map (·.1))\/
    ∃(i:Nat) (e:MapEntry) (a:α) (cs:aq bc),(Instr.findKey k (K.enc x) E.toList).run P w=.ok (some (i,e.val)) w/\E.toList[i]? =some e/\es[i]? =some (x,a)/\ib x es=some a/\lK ag cs=some e.val/\R.p F w cs a):=by
 obtain⟨_,E,clock,h2,h3,h4,h5,h6,_⟩:=h;refine⟨E,clock,h2,K.check hx _ _,?_⟩;have LM:E.toList.map (·.key)=(es.map (·.1)).map K.enc:=by rw[h3,List.map_map];rfl
 obtain⟨r,q1,U⟩:=K.find hx E.toList (es.map (·.1)) LM (λy hy=>by obtain⟨z,hz,rfl⟩:=k!.1 hy;exact h6 z hz) w;rcases U with⟨rfl,U⟩|⟨i,e,rfl,U,q3⟩
 · exact .inl ⟨q1,mW U,U⟩
 ·right;rw[n!]at q3;cases M0:es[i]? with
  |none=>rw[M0]at q3;cases q3
  | some y=>
    rw[M0]at q3;simp only[r!,Option.some.injEq]at q3;obtain⟨y1,y2⟩:=y;simp only at q3;subst q3;obtain⟨cs,p1,p2⟩:=h4 i e _ U M0;exact⟨i,e,y2,cs,q1,U,M0,ow h5 M0,p1,p2⟩
theorem kl.lookNo {N F:eL} {w:bx} {t e:TypeId} {z:bc} (c:Bool)(h:kl K ag R N F b es w) {x:κ} (hx:K.ok x)(ht:P.underlying t=some (.map k e))(hz:iL P e=some z)(hm:ib x es=none):
  (Instr.lookup t (.map (some b)) (K.enc x) c).run P w=.ok (if c then .tuple #[z,.bool false]else z) w:=by
 obtain⟨E,clock,h1,h2,U⟩:=h.find hx;rcases U with⟨U,_,_⟩|⟨i,e',a,cs,_,_,_,U,_⟩
 · simp only[Instr.lookup,Sem.run_bind,run_underlying ht,Result.andThen,Pb h1,Sem.run_pure,h2,U,Zt hz w]
 · rw[hm]at U;cases U
theorem kl.lookYes {N F:eL} {w:bx} {t e:TypeId} {a:α} (c:Bool)(h:kl K ag R N F b es w) {x:κ} (hx:K.ok x)(ht:P.underlying t=some (.map k e))(hm:ib x es=some a):
  ∃v cs,(Instr.lookup t (.map (some b)) (K.enc x) c).run P w=.ok (if c then .tuple #[v,.bool true]else v) w/\lK ag cs=some v/\R.p F w cs a:=by
 obtain⟨E,clock,h1,h2,U⟩:=h.find hx;rcases U with⟨_,U,_⟩|⟨i,e',a',cs,U,_,_,h4,h5,h6⟩
 · rw[hm]at U;cases U
 ·rw[hm]at h4;cases h4;refine⟨e'.val,cs,?_,h5,h6⟩;simp only[Instr.lookup,Sem.run_bind,run_underlying ht,Result.andThen,Pb h1,Sem.run_pure,h2,U]
theorem vX {z:bc} (j:Nat)(hg:QM ops S o=some true)(hd:o.dst=some d)(hn:W' d n=true)(hS:fk d S=S')(ho:o.op=.lookup t x y c)
  (bs:H[j]? =some (jU K ag R b es)) (hx:dy S x=some (.map (some b))) (hy:dy S y=some (K.enc i)) (hz:iL P e=some z) (ht:P.underlying t=some (.map k e)) (hi:K.ok i) (hm:ib i es=none)
  (hv:(if c then .tuple #[z,.bool false]else z)=v) (next:WL P C n Q Φ H ((d,v)::S') ops rest):WL P C n Q Φ H S ops (o::rest):=by
 refine JQ hg hd hn hS (λa w U hw=>?_) next
 obtain⟨F,N,eW⟩:=hw;have h0:kl K ag R (N j) F b es w:=eW.owns j _ bs;have:=h0.lookNo c hi ht hz hm;rw[hv]at this;simp[execOp,ho,U.eval hx,U.eval hy,this]
theorem Jz {a:α} {Λ:Type} {cells:α->Λ->aq bc} {pure:α->Λ->Prop} {facts:α->Λ->aq Fact} {v u:Λ->bc} (op:ra R cells pure facts)(j:Nat)(hg:QM ops S o=some true)(hd:o.dst=some d)(hn:W' d n=true)(hS:fk d S=S')(ho:o.op=.lookup t x y c)
  (bs:H[j]? =some (jU K ag R b es)) (hx:dy S x=some (.map (some b))) (hy:dy S y=some (K.enc i)) (ht:P.underlying t=some (.map k e)) (hi:K.ok i) (hm:ib i es=some a)
  (hu:∀r,lK ag (cells a r)=some (u r)) (hv:∀r,(if c then .tuple #[u r,.bool true]else u r)=v r) (next:∀r,pure a r->WL P C n Q (facts a r++Φ) H ((d,v r)::S') ops rest):WL P C n Q Φ H S ops (o::rest):=by
 refine xl hg hd hn hS λac w hf hw=>?_;obtain⟨F,N,eW⟩:=hw;have h0:kl K ag R (N j) F b es w:=eW.owns j _ bs;obtain⟨v0,cs,h1,h2,h3⟩:=h0.lookYes c hi ht hm;obtain⟨r,q1,q2,q3⟩:=op F w cs a h3;subst q1;rw[hu r]at h2;cases h2;rw[hv r]at h1;refine⟨v r,w,?_,facts a r++Φ,H,⟨F,N,{eW with facts:=λφ U=>?_}⟩,next r q2⟩;· simp[execOp,ho,hf.eval hx,hf.eval hy,h1]
 ·rcases h!.1 U with U|U;· exact q3 φ U
  · exact eW.facts φ U
theorem World.set_mod {N:eL} {w:bx} {b:Nat} {o o':Obj} (_:w.heap[b]? =some o)(U:N b):Mod N w {w with heap:=w.heap.setIfInBounds b o'}:=
 ⟨rfl,rfl,rfl,bh,λq _ hn=>by
  have:b≠q:=λe=>hn (e▸U);simp[this]⟩
theorem kl.put {N F:eL} {w:bx} {t e:TypeId} {x:κ} {u:α} {cs:aq bc} {v:bc} (h:kl K ag R N F b es w)(hx:K.ok x)(ht:P.underlying t=some (.map k e))(hv:lK ag cs=some v):
  ∃w',(Instr.mapUpdate t (.map (some b)) (K.enc x) v).run P w=.ok () w'/\Mod N w w'/\(R.p F w' cs u->(∀cs y,R.p F w cs y->R.p F w' cs y)->kl K ag R N F b (kG x u es) w'):=by
 obtain⟨hN,E,clock,U,h3,h4,h5,h6,h7,h8⟩:=id h;obtain⟨E',a2g,g1,g2,g3⟩:=h.find hx;rw[U]at g1;cases g1
 have eX:∀r,(Instr.findKey k (K.enc x) E.toList).run P w=.ok r w->(Instr.mapUpdate t (.map (some b)) (K.enc x) v).run P w=((match r with
   | some (i,_)=>do
     let key <-Instr.keyThatStays (((E[i]?).map (·.key)).getD (K.enc x)) (K.enc x)
     setObj b (.map (E.modify i λe=>{e with key,val:=v}) clock)
   |none=>setObj b (.map (E.push {key:=K.enc x,val:=v,born:=clock}) (clock+1)):Sem Unit)).run P w:=λr hr=>by
  unfold Instr.mapUpdate;simp only[Sem.run_bind,run_underlying ht,Result.andThen,Pb U,K.check hx,hr];rcases r with _|⟨_,_⟩<;>rfl
 rcases g3 with⟨q1,q2,q3⟩|⟨i,e',a,wh,q1,q2,q3,q4,q5,q6⟩
 ·refine ⟨_,(eX _ q1).trans (Zr _ U),World.set_mod U hN,λhu hold=>?_⟩;have cj:=(d!.1 U).1;refine⟨hN,E.push {key:=K.enc x,val:=v,born:=clock},clock+1,by simp[cj],?_⟩;rw[Co q3];have hl:E.toList.length=es.length:=by simpa using congrArg List.length h3
  refine⟨by simp[h3],λq e y he hy=>?_,?_,λy hy=>?_,?_,λe he=>?_⟩
  ·simp only[w!]at he;rcases X! q es.length with hq|hq
   · rw[R' au]at he;rw[R' hq]at hy;obtain⟨KN,p1,p2⟩:=h4 q e y he hy;exact⟨KN,p1,hold _ _ p2⟩
   · rw[K' au,hl]at he;rw[K' hq]at hy
     have:q-es.length=0:=by
      have:=(q'.1 hy).1;simp at this;omega
     rw[this]at he hy;simp at he hy;subst he;subst hy;exact⟨cs,hv,hu⟩
  ·rw[S!];refine l!.2 ⟨h5,bh,λa ha b' lU e=>?_⟩;simp at lU;subst lU;subst e;exact q3 ha
  ·rcases h!.1 hy with hy|hy;· exact h6 y hy
   · simp at hy;subst hy;exact hx
  ·simp only[w!,S!];refine l!.2 ⟨h7,bh,λa ha b' lU e=>?_⟩;obtain⟨e0,he0,rfl⟩:=k!.1 ha;simp at lU;have:=h8 e0 he0;omega
  ·simp only[w!]at he;rcases h!.1 he with he|he;· have:=h8 e he;omega
   · simp at he;subst he;simp
 ·have hk:(((E[i]?).map (·.key)).getD (K.enc x))=K.enc x:=by
   have e1:(E.toList.map (·.key))[i]? =some e'.key:=by rw[n!,q2];rfl
   rw[h3,n!,q3]at e1;simp only[r!,Option.some.injEq]at e1;have e2:E[i]? =some e':=by simpa using q2
   rw[e2];exact e1.symm
  have cj:=(d!.1 U).1
  refine ⟨_,(eX _ q1).trans (by
   simp only[hk,Sem.run_bind,K.stays hx,Result.andThen];exact Zr _ U),World.set_mod U hN,λhu hold=>?_⟩
  refine⟨hN,E.modify i λe=>{e with key:=K.enc x,val:=v},clock,by simp[cj],?_⟩;rw[rG q2,zS h5 q3];have JZ:(es.set i (x,u)).map (·.1)=es.map (·.1):=by rw[C!];exact T8 (by simp[q3])
  refine⟨?_,λq e y he hy=>?_,by rw[JZ];exact h5,λy hy=>?_,?_,λe he=>?_⟩;· rw[C!,C!,h3]
  ·rw[M!]at he hy;by_cases hq:i=q
   · subst hq;rw[if_pos rfl]at he hy;rw[if_pos (q'.1 q2).1]at he;rw[if_pos (q'.1 q3).1]at hy;cases he;cases hy;exact⟨cs,hv,hu⟩
   · rw[if_neg hq]at he hy;obtain⟨KN,p1,p2⟩:=h4 q e y he hy;exact⟨KN,p1,hold _ _ p2⟩
  ·rcases u! hy with hy|rfl;· exact h6 y hy
   · exact hx
  ·rw[C!];have:(E.toList.map (·.born)).set i e'.born=E.toList.map (·.born):=T8 (by rw[n!,q2];rfl);rw[this];exact h7
  ·rcases u! he with he|rfl;· exact h8 e he
   · exact h8 e' (c! q2)
omit [DecidableEq κ] in
theorem yf {β U:Type} (f:β->U):∀(l:aq β)(j:Nat),(l.eraseIdx j).map f=(l.map f).eraseIdx j
 |[],_=>rfl
 |_::_,0=>rfl
 |a::l,j+1=>by simp only[List.eraseIdx_cons_succ,g!];rw[yf f l j]
theorem JD {z:bw} {u:α} {cs:aq bc} (j:Nat)(hg:QM ops S o=some true)(hd:o.dst=none)(ho:o.op=.mapUpdate t x y z\/o.op=.insert t x y z)
  (bs:H[j]? =some (jU K ag R b es)) (hx:dy S x=some (.map (some b))) (hy:dy S y=some (K.enc i)) (hz:dy S z=some v) (ht:P.underlying t=some (.map k e)) (hi:K.ok i) (hv:lK ag cs=some v)
  (hr:∀F w,(∀ψ∈Φ,ψ.p F w)->R.p F w cs u) (hH:H.set j (jU K ag R b (kG i u es))=H') (next:WL P C n Q Φ H' S ops rest):WL P C n Q Φ H S ops (o::rest):=by
 refine HM (Φ':=Φ) hg hd (λa w hf hw=>?_) next
 obtain⟨F,N,U⟩:=hw;have cj:=(q'.1 bs).1;have h0:kl K ag R (N j) F b es w:=U.owns j _ bs;obtain⟨w',r1,r2,r3⟩:=h0.put (u:=u) hi ht hv;refine⟨w',by rcases ho with ho|ho<;>simp[execOp,ho,hf.eval hx,hf.eval hy,hf.eval hz,r1],?_⟩;subst hH;have gQ:fX F w w':=λq hq=>r2.block q (U.flt q hq) (λhn=>(U.nlt j q cj hn).2.2 hq);refine⟨F,N,U.set j cj r2 _ (r3 (R.good (λ_ h=>h) gQ (hr F w U.facts)) (λ_ _ h=>R.good (λ_ h=>h) gQ h))⟩
end rules
end
section
open Go Go.RowKit
section
variable {C:Ctx} {Φ H:aq Fact} {F:eL} {N:Nat->eL} {w:bx}
theorem gX.shrink (h:gX C Φ H F N w)(k:Nat) {φ1:Fact} (hk:k<H.length)(B:eL)(hB:∀q,B q->N k q)(h1:φ1.op B F w):gX C Φ (H.set k φ1) F (λi=>if i=k then B else N i) w:=by
 have iY:∀i q,(if i=k then B else N i) q->N i q:=λi q U=>by
  by_cases e:i=k;· subst e;rw[if_pos rfl]at U;exact hB q U
  · rw[if_neg e]at U;exact U
 refine{h with owns:=λi ψ hi=>?_,nlt:=λi q hi U=>h.nlt i q (du hi) (iY i q U),apart:=λi j q hi hj ep U eR=>h.apart i j q (du hi) (du hj) ep (iY i q U) (iY j q eR)};by_cases e:i=k
 ·subst e;rw[a! hk]at hi;cases hi;rw[if_pos rfl];exact h1
 ·rw[q! (Ne.symm e)]at hi;rw[if_neg e];exact h.owns i ψ hi
theorem Ql.split {Λ:Type} (h:Ql C Φ H w)(k:Nat) {φ:Fact} {φ1 φ2:Λ->Fact} (hk:H[k]? =some φ)
  (hs:∀N F,φ.op N F w->∃(r:Λ) (A B:eL),(∀q,A q->N q)/\(∀q,B q->N q/\¬A q)/\(φ1 r).op B F w/\(φ2 r).op A F w):∃r,Ql C Φ (φ2 r::H.set k (φ1 r)) w:=by
 obtain⟨F,N,hi⟩:=h;have cj:=(q'.1 hk).1;obtain⟨r,A,B,hA,hB,h1,h2⟩:=hs (N k) F (hi.owns k φ hk);refine⟨r,F,_,(hi.shrink k cj B (λq U=>(hB q U).1) h1).push (φ2 r) A h2 (λq U=>hi.nlt k q cj (hA q U)) (λi q AR U eR=>?_)⟩;by_cases e:i=k
 ·subst e;simp only[if_true]at eR;exact(hB q eR).2 U
 ·simp only[if_neg e]at eR;exact hi.apart k i q cj (du AR) (Ne.symm e) (hA q U) eR
theorem Ql.join (h:Ql C Φ H w)(k j:Nat) {φ φ1 φ2:Fact} (ep:k≠j)(hk:H[k]? =some φ1)(hj:H[j]? =some φ2)
  (hs:∀A B F,φ1.op A F w->φ2.op B F w->(∀q,A q->¬B q)->φ.op (λq=>A q\/B q) F w):Ql C Φ ((H.set k φ).eraseIdx j) w:=by
 obtain⟨F,N,hi⟩:=h;have kZ:=(q'.1 hk).1;have GY:=(q'.1 hj).1;have kd:=hs (N k) (N j) F (hi.owns k φ1 hk) (hi.owns j φ2 hj) (λq=>hi.apart k j q kZ GY ep);have hlen:((H.set k φ).eraseIdx j).length=H.length-1:=by rw[List.length_eraseIdx_of_lt (du GY)];simp
 let at':Nat->Nat:=λi=>if i<j then i else i+1
 have GV:∀i,at' i≠j:=λi=>by simp only[at'];split<;>omega
 have cj:∀i,i<((H.set k φ).eraseIdx j).length->at' i<H.length:=λi AR=>by rw[hlen]at AR;simp only[at'];split<;>omega
 have wL:∀i i',at' i=at' i'->i=i':=λi i' e=>by simp only[at']at e;split at e<;>split at e<;>omega
 refine⟨F,λi=>if at' i=k thenλq=>N k q\/N j q else N (at' i),hi.flt,hi.fold,hi.fnew,hi.facts,λi ψ iO=>?_,λi q AR U=>?_,λi i' q AR X6 ZP U eR=>?_,hi.mod⟩
 ·have IQ:(H.set k φ)[at' i]? =some ψ:=by
   rw[List.getElem?_eraseIdx]at iO;simp only[at'];split at iO<;>rename_i DW;· rw[if_pos DW];exact iO
   · rw[if_neg DW];exact iO
  by_cases e:at' i=k
  ·simp only[if_pos e];rw[e,a! kZ]at IQ;cases IQ;exact kd
  ·simp only[if_neg e];rw[q! (Ne.symm e)]at IQ;exact hi.owns _ ψ IQ
 ·by_cases e:at' i=k
  ·simp only[if_pos e]at U;rcases U with U|U;· exact hi.nlt k q kZ U
   · exact hi.nlt j q GY U
  ·simp only[if_neg e]at U;exact hi.nlt _ q (cj i AR) U
 ·by_cases e:at' i=k
  ·have e':at' i'≠k:=λe2=>ZP (wL _ _ (e.trans e2.symm));simp only[if_pos e]at U;simp only[if_neg e']at eR;rcases U with U|U;· exact hi.apart k _ q kZ (cj i' X6) (Ne.symm e') U eR
   · exact hi.apart j _ q GY (cj i' X6) (Ne.symm (GV i')) U eR
  ·simp only[if_neg e]at U;by_cases e':at' i'=k
   ·simp only[if_pos e']at eR;rcases eR with eR|eR;· exact hi.apart _ k q (cj i AR) kZ e U eR
    · exact hi.apart _ j q (cj i AR) GY (GV i) U eR
   ·simp only[if_neg e']at eR;exact hi.apart _ _ q (cj i AR) (cj i' X6) (λq=>ZP (wL _ _ q)) U eR
end
end
section
open Go Go.RowKit
theorem tu {α:Type} {sz c i h:Nat} {R:fc α} {p p':bf Addr} {l:aq α} {F:eL} {w:bx} (hs:(Fact.sli sz R p c l).p F w)(hi:i<=h)(hl:h<=l.length)(hp:i<h->∀b o,p=some ⟨b,o,none⟩->p'=some ⟨b,o+i*sz,none⟩):(Fact.sli sz R p' (c-i) ((l.take h).drop i)).p F w:=by
 obtain⟨p0,n0,c0,xs,U,e2,h1,h2,h3,h4⟩:=XZ h hs;cases U;refine⟨p',_,c-i,xs.drop (i*sz),rfl,rfl,by simp only[A!,p!]at h1⊢;omega,au,h3.drop i,λh0=>?_⟩;simp only[A!,p!]at h0;obtain⟨b,o,e3,h5,h6⟩:=h4 (by simp only[p!];omega);refine⟨b,o+i*sz,hp au b o e3,h5,λj u hu=>?_⟩;rw[List.getElem?_drop]at hu;have:=h6 (i*sz+j) u hu;rw[V!];exact this
section
variable {P:da} {C:Ctx} {n:FD} {Q:Exit->Act->bx->Prop} {Φ:aq Fact} {H:aq Fact} {S S':aq (Nat×bc)} {ops:Array Oper} {rest:aq Oper} {o:Oper} {d:Nat}
variable {sz c i t e:Nat}{α:Type}{x y:bw}{R:fc α}{p:bf Addr}{l:aq α}{z:Int}
theorem zr {b o:Nat} (U:i<c):(if c=i then(some ⟨b,o,none⟩:bf Addr)else(some ⟨b,o,none⟩:bf Addr).map (·.add (i*sz)))=some ⟨b,o+i*sz,none⟩:=by
 rw[if_neg au];simp[z6]
theorem Oo {h:Nat} (k:Nat)(hg:QM ops S o=some true)(hd:o.dst=some d)(hn:W' d n=true)(hS:fk d S=S')(ho:o.op=.slice t x none (some y) none)
  (hx:dy S x=some (.slice p l.length c)) (hk:Φ[k]? =some (.sli sz R p c l)) (hy:dy S y=some (.int .i64 z)) (hz:z=(h:Int)) (ht:gG P t=some e) (hs:QV P e=some sz) (U:h<=l.length)
  (next:∀p',WL P C n Q (.sli sz R p' c (l.take h)::Φ) H ((d,.slice p' (l.take h).length c)::S') ops rest):WL P C n Q Φ H S ops (o::rest):=by
 subst hz;refine xl hg hd hn hS λa w hf hw=>?_
 obtain⟨F,N,hi⟩:=hw;have h1:=hi.facts _ (gv hk);have LV:=Ah h1;have h2:=tu (i:=0) (h:=h) (p':=if c=0 then p else p.map (·.add (0*sz))) h1 (Q! _) U (λcj b o e=>by subst e;exact zr au);simp only[U!,Y!]at h2;refine⟨.slice (if c=0 then p else p.map (·.add (0*sz))) (l.take h).length c,w,?_,_,H,Ql.fact (φ:=.sli sz R (if c=0 then p else p.map (·.add (0*sz))) c (l.take h)) ⟨F,N,hi⟩ (λF' WK=>?_),next _⟩
 ·have e1:(l.take h).length=h:=by simp only[p!];omega
  rw[e1];simp[execOp,ho,hf.eval hx,hf.eval hy,Instr.sliceAt,Instr.slice,run_underlying (r5 ht),Instr.sliceBounds,Instr.sliceBound,asIntOf,Nat.le_trans U LV.1,w7 hs]
 ·have h3:=tu (i:=0) (h:=h) (p':=if c=0 then p else p.map (·.add (0*sz))) (WK _ (gv hk)) (Q! _) U (λcj b o e=>by subst e;exact zr au);simp only[U!,Y!]at h3;exact h3
theorem SX (k:Nat)(hg:QM ops S o=some true)(hd:o.dst=some d)(hn:W' d n=true)(hS:fk d S=S')(ho:o.op=.slice t x (some y) none none)
  (hx:dy S x=some (.slice p l.length c)) (hk:Φ[k]? =some (.sli sz R p c l)) (hy:dy S y=some (.int .i64 z)) (hz:z=(i:Int)) (ht:gG P t=some e) (hs:QV P e=some sz) (hh:i<=l.length)
  (next:∀p',WL P C n Q (.sli sz R p' (c-i) (l.drop i)::Φ) H ((d,.slice p' (l.drop i).length (c-i))::S') ops rest):WL P C n Q Φ H S ops (o::rest):=by
 subst hz;refine xl hg hd hn hS λa w hf hw=>?_
 obtain⟨F,N,hi⟩:=hw;have h1:=hi.facts _ (gv hk);have LV:=Ah h1;refine⟨.slice (if c=i then p else p.map (·.add (i*sz))) (l.drop i).length (c-i),w,?_,_,H,Ql.fact (φ:=.sli sz R (if c=i then p else p.map (·.add (i*sz))) (c-i) (l.drop i)) ⟨F,N,hi⟩ (λF' WK=>?_),next _⟩
 ·rw[A!];simp[execOp,ho,hf.eval hx,hf.eval hy,Instr.sliceAt,Instr.slice,run_underlying (r5 ht),Instr.sliceBounds,Instr.sliceBound,asIntOf,hh,w7 hs]
 ·have U:=tu (i:=i) (h:=l.length) (p':=if c=i then p else p.map (·.add (i*sz))) (WK _ (gv hk)) hh (y' _) (λcj b o e=>by subst e;exact zr au);rw[List.take_length]at U;exact U
end
end
section
open Go Go.RowKit
structure Er (α Λ:Type) where
 C:α->Λ->List Value
 G:α->Λ->List Fact
 one:∀x r,∀u∈C x r,u.oneCell'=true
def Er.pair {α Λ:Type} (T:Er α Λ):fc (α×Λ):=⟨λ_ _ cs z=>cs=T.C z.1 z.2,λ_ _ h=>h,λh u hu=>T.one _ _ u (h▸hu)⟩
def jB:aq Fact->eL->eL->bx->Prop
 |[],_,_,_=>True
 |φ::l,N,F,w=>∃A B:eL,(∀q,A q->N q)/\(∀q,B q->N q/\¬A q)/\φ.op A F w/\jB l B F w
theorem jB.good:∀{l:aq Fact} {N N' F G:eL} {w w':bx},(∀k,N k->N' k)->fX N w w'->(∀k,F k->G k)->fX F w w'->jB l N F w->jB l N' G w'
 |[],_,_,_,_,_,_,_,_,_,_,_=>trivial
 | φ::l,N,_,F,_,w,_,hN,ha,hF,hb,⟨A,B,h1,h2,h3,h4⟩=>
   ⟨A,B,λq U=>hN q (h1 q U),λq U=>⟨hN q (h2 q U).1,(h2 q U).2⟩,φ.opgood (λ_ h=>h) (λq U=>ha q (h1 q U)) hF hb h3,jB.good (λ_ h=>h) (λq U=>ha q (h2 q U).1) hF hb h4⟩
def jr (l:aq Fact):Fact:=.duo (λN F w=>jB l N F w) jB.good
def Γ {α Λ:Type} (T:Er α Λ)(zs:aq (α×Λ))(o:bf Nat)(N F:eL)(w:bx):Prop:=
 ∃U:Nat->eL,(∀i q,U i q->N q)/\(∀i j q,i≠j->U i q->¬U j q)/\∀i z,zs[i]? =some z->o≠some i->jB (T.G z.1 z.2) (U i) F w
section
variable {α Λ:Type} {T:Er α Λ} {zs:aq (α×Λ)} {o:bf Nat}
theorem Γ.good {N N' F G:eL} {w w':bx} (hN:∀k,N k->N' k)(ha:fX N w w')(hF:∀k,F k->G k)(hb:fX F w w')(h:Γ T zs o N F w):Γ T zs o N' G w':=by
 obtain⟨Ns,h1,h2,h3⟩:=h;exact⟨Ns,λi q U=>hN q (h1 i q U),h2,λi z hz ho=>(h3 i z hz ho).good (λ_ h=>h) (λq U=>ha q (h1 i q U)) hF hb⟩
def gZ (T:Er α Λ)(zs:aq (α×Λ))(o:bf Nat):Fact:=.duo (λN F w=>Γ T zs o N F w) Γ.good
def tT (T:Er α Λ)(e sz:Nat)(v:bc)(xs:aq α)(N F:eL)(w:bx):Prop:=
 ∃(zs:aq (α×Λ)) (A B:eL),zs.map (·.1)=xs/\(∀q,A q->N q)/\(∀q,B q->N q/\¬A q)/\(Fact.own e sz T.pair v zs).op A F w/\(gZ T zs none).op B F w
theorem tT.good {e sz:Nat} {v:bc} {xs:aq α} {N N' F G:eL} {w w':bx} (hN:∀k,N k->N' k)(ha:fX N w w')(hF:∀k,F k->G k)(hb:fX F w w')(h:tT T e sz v xs N F w):tT T e sz v xs N' G w':=by
 obtain⟨zs,A,B,h0,h1,h2,h3,h4⟩:=h;exact⟨zs,A,B,h0,λq U=>hN q (h1 q U),λq U=>⟨hN q (h2 q U).1,(h2 q U).2⟩,Fact.opgood _ (λ_ h=>h) (λq U=>ha q (h1 q U)) hF hb h3,Fact.opgood _ (λ_ h=>h) (λq U=>ha q (h2 q U).1) hF hb h4⟩
def gT (T:Er α Λ)(e sz:Nat)(v:bc)(xs:aq α):Fact:=.duo (λN F w=>tT T e sz v xs N F w) tT.good
end
section
variable {C:Ctx} {Φ:aq Fact} {w:bx}
theorem Ql.stars:∀{l H:aq Fact},Ql C Φ (jr l::H) w->Ql C Φ (l.reverse++H) w
 |[],H,h=>h.drop 0 bh rfl
 | φ::l,H,h=>by
   have h1:∃_:Unit,Ql C Φ (jr l::(jr (φ::l)::H).set 0 φ) w:=h.split (φ1:=λ_=>φ) (φ2:=λ_=>jr l) 0 rfl (λN F ⟨A,B,h1,h2,h3,h4⟩=>⟨(),B,A,λq U=>(h2 q U).1,λq U=>⟨h1 q U,λhb=>(h2 q hb).2 U⟩,h3,h4⟩);obtain⟨_,h1⟩:=h1;have h3:=Ql.stars (H:=φ::H) h1;rw[N!,b!];exact h3
theorem Ql.starsUp:∀{l H:aq Fact},Ql C Φ (l.reverse++H) w->Ql C Φ (jr l::H) w
 |[],H,⟨F,N,hi⟩=>⟨F,_,hi.push (jr []) (λ_=>False) trivial (λk hk=>hk.elim) (λ_ k _ hk=>hk.elim)⟩
 | φ::l,H,h=>by
   rw[N!,b!]at h;have h1:=Ql.starsUp (H:=φ::H) h;exact h1.join (φ:=jr (φ::l)) 0 1 bp rfl rfl (λA B F ha hb hd=>⟨B,A,λq U=>.inr U,λq U=>⟨.inl U,hd q U⟩,hb,ha⟩)
variable {H:aq Fact} {α Λ:Type} {T:Er α Λ} {zs:aq (α×Λ)} {x:α} {r:Λ}
theorem Ql.bagPush (h:Ql C Φ ((T.G x r).reverse++H) w)(j:Nat)(hj:H[j]? =some (gZ T zs none)):Ql C Φ (H.set j (gZ T (zs++[(x,r)]) none)) w:=by
 have h1:=h.starsUp;refine h1.join (φ:=gZ T (zs++[(x,r)]) none) (φ1:=gZ T zs none) (φ2:=jr (T.G x r)) (j+1) 0 au (du hj) rfl ?_
 ·intro A B F ha hb hd;obtain⟨Ns,a1,a2,a3⟩:=ha
  exact ⟨λk q=>(k=zs.length/\B q)\/(k<zs.length/\Ns k q),λk q U=>U.elim (λU=>.inr U.2) (λU=>.inl (a1 k q U.2)),
   fun k k' q ep U eR=>by
    rcases U with U|U<;>rcases eR with eR|eR;· exact ep (U.1.trans eR.1.symm)
    · exact hd q (a1 k' q eR.2) U.2
    · exact hd q (a1 k q U.2) eR.2
    · exact a2 k k' q ep U.2 eR.2,
   fun k z hk _=>by
    by_cases e:k<zs.length
    ·rw[R' e]at hk;exact(a3 k z hk bh).good (λq U=>.inr ⟨e,U⟩) (fX.refl _ _) (λ_ h=>h) (fX.refl _ _)
    ·have kZ:k=zs.length:=by
      have:=(q'.1 hk).1;simp at this;omega
     subst kZ;rw[K' (y' _)]at hk;simp at hk;subst hk;exact jB.good (λq U=>.inl ⟨rfl,U⟩) (fX.refl _ _) (λ_ h=>h) (fX.refl _ _) hb⟩
theorem Ql.bagNil (T:Er α Λ)(h:Ql C Φ H w):Ql C Φ (gZ T [] none::H) w:=by
 obtain⟨F,N,hi⟩:=h;exact⟨F,_,hi.push (gZ T [] none) (λ_=>False) ⟨λ_ _=>False,λ_ _ h=>h,λ_ _ _ _ h=>h.elim,λi z U=>by simp at U⟩ (λk hk=>hk.elim) (λ_ k _ hk=>hk.elim)⟩
theorem Ql.as_ {φ φ':Fact} (h:Ql C Φ H w)(k:Nat)(hk:H[k]? =some φ)(hs:∀N F,φ.op N F w->φ'.op N F w):Ql C Φ (H.set k φ') w:=by
 obtain⟨F,N,hi⟩:=h;have U:=(q'.1 hk).1;exact⟨F,N,hi.set k U (Mod.refl _ _) φ' (hs _ _ (hi.owns k φ hk))⟩
theorem Ql.treeOut {e sz:Nat} {v:bc} {xs:aq α} (h:Ql C Φ H w)(j:Nat)(hj:H[j]? =some (gT T e sz v xs)):∃zs:aq (α×Λ),zs.map (·.1)=xs/\Ql C Φ (gZ T zs none::H.set j (.own e sz T.pair v zs)) w:=by
 obtain ⟨r,h1⟩:=h.split (Λ:={zs:aq (α×Λ)//zs.map (·.1)=xs}) (φ1:=λr=>.own e sz T.pair v r.1) (φ2:=λr=>gZ T r.1 none) j hj (λN F ⟨zs,A,B,h0,h1,h2,h3,h4⟩=>
  ⟨⟨zs,h0⟩,B,A,λq U=>(h2 q U).1,λq U=>⟨h1 q U,λhn=>(h2 q hn).2 U⟩,h3,h4⟩)
 exact⟨r.1,r.2,h1⟩
theorem Ql.treeIn {e sz:Nat} {v:bc} {xs:aq α} (h:Ql C Φ H w)(j k:Nat)(ep:z' j k=false)(hj:H[j]? =some (.own e sz T.pair v zs))(hk:H[k]? =some (gZ T zs none))(hx:zs.map (·.1)=xs):Ql C Φ ((H.set j (gT T e sz v xs)).eraseIdx k) w:=
 h.join (φ:=gT T e sz v xs) j k (λe=>by rw[e,Nat.beq_refl]at ep;cases ep) hj hk (λA B F ha hb hd=>⟨zs,A,B,hx,λq U=>.inl U,λq U=>⟨.inr U,λhn=>hd q hn U⟩,ha,hb⟩)
theorem NS {e sz:Nat} {v:bc} {xs:aq α} {R:fc α} (hR:∀x r N F w,jB (T.G x r) N F w->R.p (λq=>N q\/F q) w (T.C x r) x) {N F:eL} (h:tT T e sz v xs N F w):(Fact.own e sz R v xs).op N (λq=>N q\/F q) w:=by
 obtain⟨zs,A,B,h0,h1,h2,⟨h3,h4⟩,Ns,h5,h6,h7⟩:=h;subst h0;refine⟨λk hk=>h1 k (h3 k hk),?_⟩;obtain⟨U,ho,hc⟩:=h4;refine⟨U,by simpa using ho,?_⟩
 have go:∀(zs:aq (α×Λ)) (U:aq bc),(∀z∈zs,∃M:eL,(∀q,M q->N q)/\jB (T.G z.1 z.2) M F w)->fD sz (T.pair.p F w) U zs->fD sz (R.p (λq=>N q\/F q) w) U (zs.map (·.1)):=by
  intro zs;induction zs with
  |nil=>intro U _ h;exact h
  | cons z zs ih=>
    intro U hM hc;obtain⟨cs,rest,e1,e2,e3,e4⟩:=hc;obtain⟨M,m1,m2⟩:=hM z bh;refine⟨cs,rest,e1,e2,?_,ih rest (λy hy=>hM y (by simp[hy])) e4⟩;have e3:cs=T.C z.1 z.2:=e3;rw[e3];exact R.good (λq hq=>hq.elim (λhq=>.inl (m1 q hq)) .inr) (fX.refl _ _) (hR _ _ _ _ _ m2)
 refine go zs U (λz hz=>?_) hc;obtain⟨i,hi⟩:=I! hz;exact⟨Ns i,λq hq=>(h2 q (h5 i q hq)).1,h7 i z hi bh⟩
theorem Ql.letgo {e sz:Nat} {v:bc} {xs:aq α} {R:fc α} (hR:∀x r N F w,jB (T.G x r) N F w->R.p (λq=>N q\/F q) w (T.C x r) x)(h:Ql C Φ H w)(j:Nat)(hj:H[j]? =some (gT T e sz v xs)):Ql C Φ (H.set j (.own e sz R v xs)) w:=by
 obtain⟨F,N,hi⟩:=h;have cj:=(q'.1 hj).1;obtain⟨zs,A,B,h0,h1,h2,h3,h4⟩:tT T e sz v xs (N j) F w:=hi.owns j _ hj
 have fU:(Fact.own e sz R v xs).op A (λq=>B q\/F q) w:=by
  subst h0;obtain⟨h5,ys,ho,hc⟩:=h3;obtain⟨Ns,h6,h7,h8⟩:=h4;refine⟨h5,ys,by simpa using ho,?_⟩
  have go:∀(zs:aq (α×Λ)) (ys:aq bc),(∀z∈zs,∃M:eL,(∀q,M q->B q)/\jB (T.G z.1 z.2) M F w)->fD sz (T.pair.p F w) ys zs->fD sz (R.p (λq=>B q\/F q) w) ys (zs.map (·.1)):=by
   intro zs;induction zs with
   |nil=>intro ys _ h;exact h
   | cons z zs ih=>
     intro ys hM hc;obtain⟨cs,rest,e1,e2,e3,e4⟩:=hc;obtain⟨M,m1,m2⟩:=hM z bh;refine⟨cs,rest,e1,e2,?_,ih rest (λy hy=>hM y (by simp[hy])) e4⟩;have e3:cs=T.C z.1 z.2:=e3;rw[e3];exact R.good (λq U=>U.elim (λU=>.inl (m1 q U)) .inr) (fX.refl _ _) (hR _ _ _ _ _ m2)
  refine go zs ys (λz hz=>?_) hc;obtain⟨i,hi⟩:=I! hz;exact⟨Ns i,h6 i,h8 i z hi bh⟩
 have hF:∀q,F q->(B q\/F q):=λ_ h=>.inr h;refine⟨λq=>B q\/F q,λi=>if i=j then A else N i,λk hk=>?_,λk hk=>.inr (hi.fold k hk),λk hk=>?_,λφ bs=>φ.good hF (fX.refl _ _) (hi.facts φ bs),λi φ bs=>?_,λi k iW hk=>?_,λi i' k iW X5 ep hk eO=>?_,hi.mod⟩
 ·rcases hk with hk|hk;· exact(hi.nlt j k cj (h2 k hk).1).1
  · exact hi.flt k hk
 ·rcases hk with hk|hk;· exact .inr (hi.nlt j k cj (h2 k hk).1).2.1
  · exact hi.fnew k hk
 ·by_cases e:i=j
  ·subst e;rw[a! cj]at bs;cases bs;simpa using fU
  ·rw[q! (Ne.symm e)]at bs;simp only[if_neg e];exact φ.opgood (λ_ h=>h) (fX.refl _ _) hF (fX.refl _ _) (hi.owns i φ bs)
 ·rw[T!]at iW;by_cases e:i=j
  ·simp only[if_pos e]at hk;have hn:=hi.nlt j k cj (h1 k hk);exact⟨hn.1,hn.2.1,λU=>U.elim (λU=>(h2 k U).2 hk) hn.2.2⟩
  ·simp only[if_neg e]at hk;have hn:=hi.nlt i k iW hk;exact⟨hn.1,hn.2.1,λU=>U.elim (λU=>hi.apart i j k iW cj e hk (h2 k U).1) hn.2.2⟩
 ·rw[T!]at iW X5;by_cases e:i=j<;>by_cases e':i'=j;· exact ep (e.trans e'.symm)
  ·simp only[if_pos e]at hk;simp only[if_neg e']at eO;exact hi.apart j i' k cj X5 (Ne.symm e') (h1 k hk) eO
  ·simp only[if_neg e]at hk;simp only[if_pos e']at eO;exact hi.apart i j k iW cj e hk (h1 k eO)
  ·simp only[if_neg e]at hk;simp only[if_neg e']at eO;exact hi.apart i i' k iW X5 ep hk eO
theorem Ql.treeLen {e sz m c:Nat} {p:bf Addr} {xs:aq α} (h:Ql C Φ H w)(j:Nat)(U:H[j]? =some (gT T e sz (.slice p m c) xs)):m=xs.length/\(0<xs.length->∃g,p=some ⟨g,0,none⟩):=by
 obtain⟨zs,h0,h1⟩:=h.treeOut j U;have cj:=(q'.1 U).1;have h2:=V2 h1 (k:=j+1) (e:=e) (sz:=sz) (R:=T.pair) (p:=p) (m:=m) (cp:=c) (l:=zs) (by simp[a! cj]);have h3:zs.length=xs.length:=by rw[<-h0];simp
 rw[<-h3];exact h2
end
section
variable {α Λ:Type} {T:Er α Λ} {R:fc α} {e sz m c:Nat} {p:bf Addr} {xs:aq α} {A F G:eL} {w:bx}
theorem ML (h:(Fact.own e sz R (.slice p m c) xs).op A F w)(U:∀q,A q->G q)(hF:∀q,F q->G q):(Fact.sli sz R p c xs).p G w:=mu (Fact.opgood _ U (fX.refl _ _) hF (fX.refl _ _) h)
theorem NT (hR:∀x r N F w,jB (T.G x r) N F w->R.p (λq=>N q\/F q) w (T.C x r) x) {v:bc} (h:(gT T e sz v xs).op A F w)(U:∀q,A q->G q)(hF:∀q,F q->G q):(Fact.own e sz R v xs).p G w:=Fact.opgood _ U (fX.refl _ _) (λq hq=>hq.elim (U q) (hF q)) (fX.refl _ _) (NS hR h)
theorem NU (hR:∀x r N F w,jB (T.G x r) N F w->R.p (λq=>N q\/F q) w (T.C x r) x)(h:(gT T e sz (.slice p m c) xs).op A F w)(U:∀q,A q->G q)(hF:∀q,F q->G q):(Fact.sli sz R p c xs).p G w:=mu (NT hR h U hF)
theorem RU:(Fact.own e sz R (.slice none 0 0) []).op (λ_=>False) F w:=⟨λk hk=>(by cases hk),mx.nil⟩
theorem Mx:(gT T e sz (.slice none 0 0) []).op (λ_=>False) F w:=⟨[],λ_=>False,λ_=>False,rfl,λ_ h=>h,λ_ h=>h.elim,RU,λ_ _=>False,λ_ _ h=>h,λ_ _ _ _ h=>h.elim,λi z U=>by simp at U⟩
theorem Cy {zs U:aq (α×Λ)} {us:aq α} (hz:zs.map (·.1)=xs)(hy:U.map (·.1)=us):(zs++U).map (·.1)=xs++us:=by subst hz;subst hy;simp
theorem Zw {zs:aq (α×Λ)} (U:zs.map (·.1)=xs):zs.length=xs.length:=by subst U;simp
end
section
variable {C:Ctx} {Φ H:aq Fact} {w:bx} {α Λ:Type} {T:Er α Λ} {zs:aq (α×Λ)} {e sz:Nat} {v:bc}
theorem Ql.treeNil (T:Er α Λ)(e sz:Nat)(h:Ql C Φ H w):Ql C Φ (gT T e sz (.slice none 0 0) []::H) w:=by
 obtain⟨F,N,hi⟩:=h;exact⟨F,_,hi.push (gT T e sz (.slice none 0 0) []) (λ_=>False) Mx (λk hk=>hk.elim) (λ_ k _ hk=>hk.elim)⟩
end
section rules
variable {P:da} {C:Ctx} {n:FD} {Q:Exit->Act->bx->Prop} {Φ Φ':aq Fact} {H H':aq Fact} {S S':aq (Nat×bc)} {ops:Array Oper} {rest:aq Oper} {o:Oper} {d:Nat} {c:Code} {e:Exit}
theorem gp (H':aq Fact)(hs:∀w,Ql C Φ H w->Ql C Φ H' w)(next:WL P C n Q Φ H' S ops rest):WL P C n Q Φ H S ops rest:=λa w U hw=>next a w U (hs w hw)
theorem a1Z (H':aq Fact)(hs:∀w,Ql C Φ H w->Ql C Φ H' w)(next:WC P C n Q Φ H' S c):WC P C n Q Φ H S c:=λa w U hw=>next a w U (hs w hw)
theorem Uf (H':aq Fact)(hs:∀w,Ql C Φ H w->Ql C Φ H' w)(next:WE C n Q Φ H' S e):WE C n Q Φ H S e:=λa w U hw=>next a w U (hs w hw)
variable {α Λ:Type} {T:Er α Λ} {et sz:Nat} {v:bc} {xs:aq α}
theorem vY (j:Nat)(hj:H[j]? =some (gT T et sz v xs))(next:∀zs,zs.map (·.1)=xs->WL P C n Q Φ (gZ T zs none::H.set j (.own et sz T.pair v zs)) S ops rest):WL P C n Q Φ H S ops rest:=λa w hf hw=>by
 obtain⟨zs,U,h1⟩:=hw.treeOut j hj;exact next zs U a w hf h1
theorem nw {p:bf Addr} {m cp:Nat} (j:Nat)(U:H[j]? =some (gT T et sz (.slice p m cp) xs))(next:m=xs.length->(0<xs.length->∃g,p=some ⟨g,0,none⟩)->WL P C n Q Φ H S ops rest):WL P C n Q Φ H S ops rest:=λa w hf hw=>next (hw.treeLen j U).1 (hw.treeLen j U).2 a w hf hw
end rules
end
section
open Go Go.RowKit
section rules
variable {P:da} {C:Ctx} {n:FD} {Q:Exit->Act->bx->Prop} {Φ Φ':aq Fact} {H H':aq Fact} {S S':aq (Nat×bc)} {ops:Array Oper} {rest:aq Oper} {o:Oper} {d:Nat}
variable {κ α:Type} [DecidableEq κ] {k:TypeId} {K:tM P k κ} {ag:Bool} {R:fc α} {b g:Nat} {es:aq (κ×α)}
theorem N8 {w:bx} {b:Nat} {o:Obj} (h:w.heap[b]? =some o):{w with heap:=w.heap.setIfInBounds b o}=w:=by
 have:w.heap.setIfInBounds b o=w.heap:=by
  apply Array.ext_getElem?;intro q;rw[Q'];split
  ·rename_i e;subst e;split;· exact h.symm
   ·rename_i U;exact absurd (d!.1 h).1 U
  · rfl
 rw[this]
theorem Mz {β:Type} {l:aq β} (h:l.Nodup) {i j:Nat} {a:β} (hi:l[i]? =some a)(hj:l[j]? =some a):i=j:=by
 obtain⟨h1,U⟩:=q'.1 hi;obtain⟨h3,h4⟩:=q'.1 hj;exact(List.getElem_inj h).1 (U.trans h4.symm)
end rules
end
section
open Go Go.RowKit
abbrev WM (R:Type):=(R->Prop)->Prop
section
variable {A B R S:Type}
variable {Q:R->Prop}{k:A->WM R}{x y:WM R}{c:Prop}{o:bf A}{b:Bool}{f:(S->WM R)->S->WM R}
def fq (r:R):WM R:=λQ=>Q r
def KP:WM R:=λ_=>False
def fu (m:WM A)(k:A->WM R):WM R:=λQ=>m (λa=>k a Q)
def QA (o:bf A)(k:A->WM R):WM R:=λQ=>∃a,o=some a/\k a Q
def fN (c:Prop)(k:WM R):WM R:=λQ=>c/\k Q
def lM (k:A->WM R):WM R:=λQ=>∀a,k a Q
def j4 (x:A)(k:A->WM R):WM R:=λQ=>∀y,y=x->k y Q
def Vi (c:Prop)(k:WM R):WM R:=λQ=>c->k Q
theorem Vj {k:WM R} (h:Vi c k Q)(U:c):k Q:=h U
def fZ (b:Bool)(x y:WM R):WM R:=λQ=>(b=true->x Q)/\(b=false->y Q)
def A6 (o:bf A)(x:WM R)(k:A->WM R):WM R:=λQ=>(o=none->x Q)/\(∀a,o=some a->k a Q)
def lA (f:A->WM R)(g:(A->WM R)->WM R):WM R:=g f
def jR (f:(S->WM R)->S->WM R):Nat->S->WM R
 |0,_,_=>False
 |n+1,s,Q=>f (jR f n) s Q
theorem gH {m:WM A} (h:fu m k Q):m (λa=>k a Q):=h
theorem JF (h:QA o k Q):∃a,o=some a/\k a Q:=h
theorem xR {k:WM R} (h:fN c k Q):c/\k Q:=h
theorem wo (h:lM k Q)(a:A):k a Q:=h a
theorem il (h:fZ b x y Q)(e:b=true):x Q:=h.1 e
theorem ig (h:fZ b x y Q)(e:b=false):y Q:=h.2 e
theorem qx (h:A6 o x k Q):(o=none/\x Q)\/∃a,o=some a/\k a Q:=by
 cases o with
 |none=>exact .inl ⟨rfl,h.1 rfl⟩
 |some a=>exact .inr ⟨a,rfl,h.2 a rfl⟩
theorem tm {n:Nat} {s:S} (h:jR f n s Q):∃m U,n=m+1/\U=jR f m/\f U s Q:=by
 cases n with
 |zero=>exact h.elim
 |succ m=>exact⟨m,_,rfl,rfl,h⟩
theorem z7 (I:S->Prop)(μ:S->Nat)
   (h:∀s ag,I s->(∀s',I s'->μ s'<μ s->ag s' Q)->f ag s Q):∀N s,I s->μ s<N->jR f N s Q:=by
 intro N;induction N with
 |zero=>intro s _ U;exact absurd U (Nat.not_lt_zero _)
 | succ n ih=>
   intro s hs U;exact h s _ hs λs' H3 hl=>ih s' H3 (Nat.lt_of_lt_of_le hl (Nat.le_of_lt_succ U))
end
end
end Go.Proofs.YtocfkfhdcnjklaaGreatDoor
