import Derived.Test.YtocfkfhdcnjklaaGreatDoorCeV
import Derived.Maps.RangeRun
import Derived.MapKept
import Derived.LaidEql
namespace Go.Proofs.YtocfkfhdcnjklaaGreatDoor
section
open Go.RowKit
noncomputable section
inductive Ex where
 |normal
 |exit (id:Nat)
 |ret
def Ex.to:Ex->Exit
 | .normal=>.normal
 | .exit id=>.exit id
 | .ret=>.ret
def As (body:Tr->di->Nat->Option (Ex×Tr×di×Nat)):Nat->Tr->di->Nat->Option (Ex×Tr×di×Nat)
 |0,_,_,_=>none
 | k+1,fr,hp,lo=>match body fr hp lo with
   |some (.normal,gp,U,dv)=>As body k gp U dv
   |some (.exit id,gp,U,dv)=>some (.exit id,gp,U,dv)
   |some (.ret,gp,U,dv)=>some (.ret,gp,U,dv)
   |none=>none
def xd (P:Program)(call:yQ)(n lf hi:Nat):Code->Tr->di->Nat->Option (Ex×Tr×di×Nat)
 | .skip,fr,hp,lo=>some (.normal,fr,hp,lo)
 | .region _ ops false,fr,hp,lo=>match Oh P call n ops hi ops.toList fr hp lo with
   |some (gp,U,dv)=>some (.normal,gp,U,dv)
   |none=>none
 | .region _ ops true,fr,hp,lo=>match IL P call n ops hi fr hp lo with
   |some (gp,U,dv)=>some (.normal,gp,U,dv)
   |none=>none
 | .seq a b,fr,hp,lo=>match xd P call n lf hi a fr hp lo with
   |some (.normal,gp,U,dv)=>xd P call n lf hi b gp U dv
   |some (.exit id,gp,U,dv)=>some (.exit id,gp,U,dv)
   |some (.ret,gp,U,dv)=>some (.ret,gp,U,dv)
   |none=>none
 | .cond c x y,fr,hp,lo=>match jm fr c with
   |some (.v (.bool true))=>xd P call n lf hi x fr hp lo
   |some (.v (.bool false))=>xd P call n lf hi y fr hp lo
   |_=>none
 | .block id b,fr,hp,lo=>match xd P call n lf hi b fr hp lo with
   |some (.normal,gp,U,dv)=>some (.normal,gp,U,dv)
   | some (.exit j,gp,U,dv)=>match Nat.beq j id with
     |true=>some (.normal,gp,U,dv)
     |false=>some (.exit j,gp,U,dv)
   |some (.ret,gp,U,dv)=>some (.ret,gp,U,dv)
   |none=>none
 | .loop b,fr,hp,lo=>As (λfr hp lo=>xd P call n lf hi b fr hp lo) lf fr hp lo
 | .exit id,fr,hp,lo=>some (.exit id,fr,hp,lo)
 | .ret,fr,hp,lo=>some (.ret,fr,hp,lo)
 |_,_,_,_=>none
section code
variable {P:Program} {C:Ctx} {n:FD} {E:List Value} {call:yQ}
def Cp (P:Program)(C:Ctx)(n:FD)(E:List Value)(hi:Nat)(c:Code)(f:Tr->di->Nat->Option (Ex×Tr×di×Nat)):Prop:=
 ∀ fr hp lo ex gp dc dv,f fr hp lo=some (ex,gp,dc,dv)->∀(Q:Exit->Act->World->Prop) ρ S H,Rel ρ E fr hp S H->mg ρ lo hi->
   (∀U S' H',Ext ρ U lo hi->Rel U E gp dc S' H'->mg U dv hi->lo<=dv->WE C n Q [] H' S' ex.to)->WC P C n Q [] H S c
theorem Du {hi:Nat} {b:Code} {body:Tr->di->Nat->Option (Ex×Tr×di×Nat)} (hb:Cp P C n E hi b body)(lf:Nat):Cp P C n E hi (.loop b) (As body lf):=by
 intro fr hp lo ex gp dc dv he Q ρ S H h hf next a w eP hw
 refine tf (λm a w=>∃fr1 Zf U Vs S1 H1,As body m fr1 Zf U=some (ex,gp,dc,dv)/\Rel Vs E fr1 Zf S1 H1/\mg Vs U hi/\Ext ρ Vs lo hi/\lo<=U/\fq n S1 a/\Qj C [] H1 w) ?_ lf a w
   ⟨fr,hp,lo,ρ,S,H,he,h,hf,Ext.refl _ _ _,Nat.le_refl _,eP,hw⟩
 rintro m a w ⟨fr1,Zf,U,Vs,S1,H1,g1,g2,g3,g4,g5,g6,g7⟩;cases m with
 |zero=>cases g1
 | succ m=>
   unfold As at g1;split at g1
   ·rename_i HH gY mV YO;refine hb _ _ _ _ _ _ _ YO _ Vs S1 H1 g2 g3 (λca S' H' e1 e2 e3 e4 a' w' lh iO=>?_) a w g6 g7;exact⟨m,Nat.lt_succ_self m,HH,gY,mV,ca,S',H',g1,e2,e3,g4.trans e1 g5 (Nat.le_refl _),an,lh,iO⟩
   ·rename_i id HH gY mV YO;cases g1;refine hb _ _ _ _ _ _ _ YO _ Vs S1 H1 g2 g3 (λca S' H' e1 e2 e3 e4 a' w' lh iO=>?_) a w g6 g7;exact next ca S' H' (g4.trans e1 g5 (Nat.le_refl _)) e2 e3 an a' w' lh iO
   ·rename_i HH gY mV YO;cases g1;refine hb _ _ _ _ _ _ _ YO _ Vs S1 H1 g2 g3 (λca S' H' e1 e2 e3 e4 a' w' lh iO=>?_) a w g6 g7;exact next ca S' H' (g4.trans e1 g5 (Nat.le_refl _)) e2 e3 an a' w' lh iO
   · cases g1
theorem CN (ej:Ib P E call) {lf hi:Nat}:∀c:Code,Cp P C n E hi c (xd P call n lf hi c):=by
 intro c;induction c with
 | skip=>
   intro fr hp lo ex gp dc dv he Q ρ S H h U next
   unfold xd at he;cases he;exact QV (next ρ S H (Ext.refl _ _ _) h U (Nat.le_refl _))
 | region id ops draw=>
   intro fr hp lo ex gp dc dv he Q ρ S H h U next
   cases draw with
   | false=>
     unfold xd at he;split at he
     ·rename_i HH gY mV h1;cases he;have h0:ops=ops.toList.toArray:=ax
      rw[h0];refine Qb ?_;rw[<-h0];exact vS ej h1 h U next
     · cases he
   | true=>
     unfold xd at he;split at he
     ·rename_i HH gY mV h1;cases he;exact CR ej h1 h U next
     · cases he
 | seq a b iha ihb=>
   intro fr hp lo ex gp dc dv he Q ρ S H h U next
   unfold xd at he;refine Q6 ?_;split at he
   · rename_i HH gY mV h1;exact iha _ _ _ _ _ _ _ h1 _ ρ S H h U λca S' H' e1 e2 e3 e4=>Qw (ihb _ _ _ _ _ _ _ he Q ca S' H' e2 e3 λHi Sh H'' f1 f2 f3 f4=>next Hi Sh H'' (e1.trans f1 e4 (Nat.le_refl _)) f2 f3 an)
   · rename_i id HH gY mV h1;cases he;exact iha _ _ _ _ _ _ _ h1 _ ρ S H h U λca S' H' e1 e2 e3 e4=>Qc (next ca S' H' e1 e2 e3 e4)
   · rename_i HH gY mV h1;cases he;exact iha _ _ _ _ _ _ _ h1 _ ρ S H h U λca S' H' e1 e2 e3 e4=>Q5 (next ca S' H' e1 e2 e3 e4)
   · cases he
 | cond c x y ihx ihy=>
   intro fr hp lo ex gp dc dv he Q ρ S H h U next
   unfold xd at he;split at he
   · rename_i hc;exact M1 (mf h hc) (ihx _ _ _ _ _ _ _ he Q ρ S H h U next)
   · rename_i hc;exact Cx (mf h hc) (ihy _ _ _ _ _ _ _ he Q ρ S H h U next)
   · cases he
 | block id b ih=>
   intro fr hp lo ex gp dc dv he Q ρ S H h U next
   unfold xd at he;refine Qn ?_;split at he
   · rename_i HH gY mV h1;cases he;exact ih _ _ _ _ _ _ _ h1 _ ρ S H h U λca S' H' e1 e2 e3 e4=>Q9 (next ca S' H' e1 e2 e3 e4)
   · rename_i j HH gY mV h1;split at he
     ·rename_i hb;cases he;have:=Qo hb;subst this;exact ih _ _ _ _ _ _ _ h1 _ ρ S H h U λca S' H' e1 e2 e3 e4=>Qx (next ca S' H' e1 e2 e3 e4)
     ·rename_i hb;cases he;have:=LO hb;exact ih _ _ _ _ _ _ _ h1 _ ρ S H h U λca S' H' e1 e2 e3 e4=>uS this (next ca S' H' e1 e2 e3 e4)
   · rename_i HH gY mV h1;cases he;exact ih _ _ _ _ _ _ _ h1 _ ρ S H h U λca S' H' e1 e2 e3 e4=>Qr (next ca S' H' e1 e2 e3 e4)
   · cases he
 | loop b ih=>
   intro fr hp lo ex gp dc dv he Q ρ S H h U next
   unfold xd at he;exact Du ih lf fr hp lo ex gp dc dv he Q ρ S H h U next
 | exit id=>
   intro fr hp lo ex gp dc dv he Q ρ S H h U next
   unfold xd at he;cases he;exact ie (next ρ S H (Ext.refl _ _ _) h U (Nat.le_refl _))
 | ret=>
   intro fr hp lo ex gp dc dv he Q ρ S H h U next
   unfold xd at he;cases he;exact Qk (next ρ S H (Ext.refl _ _ _) h U (Nat.le_refl _))
 | _=>
   intro fr hp lo ex gp dc dv he Q ρ S H h U next
   unfold xd at he;cases he
end code
mutual
def SV.newN (lo hi:Nat):SV->List Nat->List Nat
 | .ptr g _,acc=>match Nat.ble lo g&&Nat.blt g hi with
   |true=>g::acc
   |false=>acc
 | .sl g _ _ _ _,acc=>match Nat.ble lo g&&Nat.blt g hi with
   |true=>g::acc
   |false=>acc
 | .mp g,acc=>match Nat.ble lo g&&Nat.blt g hi with
   |true=>g::acc
   |false=>acc
 | .fn _ a b,acc=>SV.newNs lo hi a (SV.newNs lo hi b acc)
 | .agg l,acc=>SV.newNs lo hi l acc
 | .tup l,acc=>SV.newNs lo hi l acc
 |_,acc=>acc
def SV.newNs (lo hi:Nat):List SV->List Nat->List Nat
 |[],acc=>acc
 |x::l,acc=>SV.newN lo hi x (SV.newNs lo hi l acc)
end
def Px (lo hi:Nat):List (SV×SV×Nat)->List Nat->List Nat
 |[],acc=>acc
 |(k,v,_)::r,acc=>SV.newN lo hi k (SV.newN lo hi v (Px lo hi r acc))
def HO.newN (lo hi:Nat):HO->List Nat->List Nat
 | .blk cs _,acc=>SV.newNs lo hi cs acc
 | .row cs _ _ _,acc=>SV.newNs lo hi cs acc
 | .ro cs,acc=>SV.newNs lo hi cs acc
 | .mp es _,acc=>Px lo hi es acc
 | .it (some g) _ _ _,acc=>g::acc
 | .it none _ _ _,acc=>acc
def Uu (lo hi:Nat):di->List Nat->List Nat
 |[],acc=>acc
 | (g,o)::r,acc=>match Nat.ble lo g&&Nat.blt g hi with
   |true=>Uu lo hi r acc
   |false=>HO.newN lo hi o (Uu lo hi r acc)
def F4 (lo hi:Nat)(hp:di):Nat->List Nat->List Nat->List Nat
 |0,_,seen=>seen
 | f + 1,work,seen=>match work with
   |[]=>seen
   | g ::r=>match ia seen g with
     |true=>F4 lo hi hp f r seen
     | false=>match kB hp g with
       |some o=>F4 lo hi hp f (HO.newN lo hi o r) (g::seen)
       |none=>F4 lo hi hp f r seen
def Az (lo hi:Nat)(seen:List Nat):di->di
 |[]=>[]
 | (g,o)::r=>match Nat.ble lo g&&Nat.blt g hi&& !ia seen g with
   |true=>Az lo hi seen r
   |false=>(g,o)::Az lo hi seen r
def kM (lo hi:Nat)(v:SV)(hp0 hp:di):di:=match Nat.ble (hp0.length+5) hp.length with
 |true=>Az lo hi (F4 lo hi hp 2000 (SV.newN lo hi v (Uu lo hi hp [])) []) hp
 |false=>hp
section kM
variable {ρ:Env} {E:List Value} {C:Ctx}
theorem Qj.dropMid {Φ pre post:List Fact} {a:Fact} {w:World} (h:Qj C Φ (pre++a::post) w):Qj C Φ (pre++post) w:=by
 refine h.drop pre.length ax ?_;rw[List.eraseIdx_append_of_length_le (Nat.le_refl _)];simp
theorem te {lo hi:Nat} {seen:List Nat}:∀{hp:di} {H:List Fact},iH ρ E hp H->∃H',iH ρ E (Az lo hi seen hp) H'/\∀pre w,Qj C [] (pre++H) w->Qj C [] (pre++H') w
 |[],[],_=>⟨[],trivial,λ_ _ h=>h⟩
 | (g,o)::r,φ::H,U=>by
   obtain⟨H',h1,h2⟩:=te U.2;unfold Az;split;· exact⟨H',h1,λpre w h=>h2 pre w h.dropMid⟩
   ·refine⟨φ::H',⟨U.1,h1⟩,λpre w h=>?_⟩;have:=h2 (pre++[φ]) w (cv h);simpa using this
 |[],_::_,U=>U.elim
 |_::_,[],U=>U.elim
theorem tM {lo hi:Nat} {v:SV} {hp0 hp:di} {H:List Fact} (U:iH ρ E hp H):∃H',iH ρ E (kM lo hi v hp0 hp) H'/\∀w,Qj C [] H w->Qj C [] H' w:=by
 unfold kM;split
 ·obtain⟨H',h1,h2⟩:=te (C:=C) U;exact⟨H',h1,λw h=>by simpa using h2 [] w (cv h)⟩
 · exact⟨H,U,λ_ h=>h⟩
end kM
def rX:Nat->List SV->Tr->Tr
 |_,[],t=>t
 |k,v::l,t=>rX (k+1) l (t.put k v)
def DI (P:Program) (fr:Tr) (hp:di):List ResultVar->Option (List SV)
 |[]=>some []
 | r ::l=>match(match r with
     | .tmp t=>fr.get t
     | .cell q t=>match fr.get q with
       |  some (.ptr g off)=>match QP P t,eY P t with
          | some sz,some U=>match pK hp g off sz with
            | some cs=>match U with
              |true=>some (.agg cs)
              | false=>match cs with
                |[c]=>some c
                |_=>none
            |none=>none
          |_,_=>none
       |_=>none),DI P fr hp l with
  |some v,some vs=>some (v::vs)
  |_,_=>none
def TE (P:Program) (call:yQ) (lf:Nat):yQ:=λf args hp lo hi=>match P.funcs[f]? with
 |none=>none
 | some fn=>match fn.body with
   |none=>none
   | some body=>match Nat.ble args.length fn.ntmps&&Nat.blt fn.ntmps 16000 with
     |false=>none
     | true=>match xd P call fn.ntmps lf hi body (rX 0 args .nil) hp lo with
       |some (.exit _,_,_,_)=>none
       |  some (_,fr,U,dv)=>match DI P fr U fn.results.toList with
          |some [v]=>some (v,kM lo hi v hp U,dv)
          |some vs=>some (.tup vs,kM lo hi (.tup vs) hp U,dv)
          |none=>none
       |none=>none
def Iz (P:Program)(U:Nat):Nat->yQ
 |0=>λ_ _ _ _ _=>none
 |d+1=>TE P (Iz P U d) U
section a0G
variable {P:Program} {C:Ctx} {n:FD} {E:List Value} {call:yQ}
theorem rY {ρ:Env}:∀(args:List SV)(vals:List Value)(k:Nat)(t:Tr)(S:List (Nat×Value)),SV.dens ρ E args=some vals->k+args.length<16001->(∀j v,t.get j=some v->j<k/\∃x,v.den ρ E=some x/\look S j=some x)->
   ∀j v,(rX k args t).get j=some v->∃x,v.den ρ E=some x/\(look S j=some x/\j<k\/k<=j/\vals[j-k]? =some x)
 | [],vals,k,t,S,h,hk,ht,j,v,U=>by
   obtain⟨h1,x,h2,h3⟩:=ht j v U;exact⟨x,h2,.inl ⟨h3,h1⟩⟩
 | a ::l,vals,k,t,S,h,hk,ht,j,v,U=>by
   obtain⟨u,us,rfl,h1,h2⟩:=QF h
   obtain ⟨x,h3,h4⟩:=rY l us (k+1) (t.put k a) ((k,u)::eL k S) h2 (by simp at hk;omega) (λj v U=>by
    unfold Tr.put at U;rw[Tr.get_set 14 _ _ _ (by simp at hk;omega)]at U;split at U;· rename_i e;cases U;subst e;exact⟨an,u,h1,by simp[look]⟩
    ·rename_i db;obtain⟨h5,y,h6,h7⟩:=ht j v U;refine⟨an,y,h6,?_⟩;have:Nat.beq k j=false:=by cases hb:Nat.beq k j with|false=>rfl|true=>exact absurd (Qo hb).symm db
     simp only[look,this];rw[Y0 db];exact h7) j v U
   refine⟨x,h3,?_⟩;rcases h4 with⟨h4,h5⟩|⟨h4,h5⟩
   ·by_cases e:j=k
    ·subst e;simp[look]at h4;exact .inr ⟨Nat.le_refl _,by simp[h4]⟩
    ·have:Nat.beq k j=false:=by cases hb:Nat.beq k j with|false=>rfl|true=>exact absurd (Qo hb).symm e
     simp only[look,this]at h4;rw[Y0 e]at h4;exact .inl ⟨h4,an⟩
   · exact .inr ⟨an,by rw[show j-k=(j-(k+1))+1 from by omega];simpa using h5⟩
theorem AD:∀{vals:List Value} {k j:Nat} {x:Value},k<=j->vals[j-k]? =some x->look (BM k vals) j=some x
 |[],_,_,_,_,h=>by simp at h
 | v ::l,k,j,x,hk,h=>by
   unfold BM look;cases hb:Nat.beq k j with
   |true=>have:=Qo hb;subst this;simpa using h
   | false=>
     have:=LO hb;refine AD an ?_;rw[show j-k=(j-(k+1))+1 from by omega]at h;simpa using h
theorem vY {ρ:Env} {fr:Tr} {hp:di} {S:List (Nat×Value)} {H:List Fact} (h:Rel ρ E fr hp S H):∀{rs:List ResultVar} {vs:List SV},DI P fr hp rs=some vs->∃xs,SV.dens ρ E vs=some xs/\∀(a:Act) w,fq n S a->Qj C [] H w->(rs.mapM (Ie a.tmps)).run P w=.ok xs w
 |[],vs,he=>by cases he;exact⟨[],rfl,λa w _ _=>ax⟩
 | r :: l,vs,he=>by
   unfold DI at he;split at he
   ·rename_i v vs' h1 h2;cases he;obtain⟨xs,h3,h4⟩:=vY h h2
    have key:∃x,v.den ρ E=some x/\∀(a:Act) w,fq n S a->Qj C [] H w->(Ie a.tmps r).run P w=.ok x w:=by
     split at h1
     ·rename_i t;obtain⟨x,U,h6⟩:=h.fr _ _ h1;exact⟨x,U,λa w hf hw=>iS (C:=C) (Φ:=[]) h6 a w hf hw⟩
     ·rename_i q t;split at h1
      ·rename_i g off hq;split at h1
       ·rename_i sz ag hs ha;split at h1
        ·rename_i cs qW;obtain⟨b,c,ws,k1,k2,k3,k4⟩:=lj (C:=C) h.hp qW;obtain⟨x,U,h6⟩:=h.fr _ _ hq;simp only[SV.den,k1,Option.map_some,Option.some.injEq]at U;subst U;have hl:ws.length=sz:=by rw[zd k2,k3]
         have eR:∀u,ku ag ws=some u->∀(a:Act) w,fq n S a->Qj C [] H w->(Ie a.tmps (.cell q t)).run P w=.ok u w:=λu hu a w hf hw=>by
          have:=hf.eval (x:=.tmp q) h6;simp only[Act.eval]at this;simp only[Ie,this,Sem.run_bind];simp[asAddr,RJ (k4 w hw) hs ha hl hu]
         split at h1
         ·cases h1;exact⟨_,sk k2,eR _ rfl⟩
         ·split at h1
          ·rename_i c1;cases h1;obtain⟨u,us,rfl,k5,k6⟩:=QF k2;cases k6;exact⟨u,k5,eR u rfl⟩
          · cases h1
        · cases h1
       · cases h1
      · cases h1
    obtain⟨x,U,h6⟩:=key;refine⟨x::xs,Cv U h3,λa w hf hw=>?_⟩;rw[List.mapM_cons];simp[h6 a w hf hw,h4 a w hf hw]
   · cases he
theorem vZ (hD:n.D=[]) {S:List (Nat×Value)} {fn:Func} {R:Value->List Fact->List Fact->Prop} {v:Value} {H H2:List Fact} (hr:∀a w,fq n S a->Qj C [] H w->(results fn a.tmps).run P w=.ok v w)(hR:R v [] H2)(hs:∀w,Qj C [] H w->Qj C [] H2 w) {e:Exit} (he:e=.ret\/e=.normal):
  WE C n (bodyPost P fn (rR C R)) [] H S e:=by
 intro a w U hw;have h1:bodyPost P fn (rR C R) .ret a w:=⟨U.defers.trans hD,v,hr a w U hw,v,[],H2,rfl,hR,hs w hw⟩
 rcases he with rfl|rfl<;>exact h1
theorem Nn {fn:Func} {ρ U:Env} {lo hi mV dv:Nat} {fr:Tr} {hp gY dc:di} {S':List (Nat×Value)} {H':List Fact} {v:SV} {e:Exit} (hr:(match DI P fr gY fn.results.toList with|some [v]=>some (v,kM lo hi v hp gY,mV)|some vs=>some (.tup vs,kM lo hi (.tup vs) hp gY,mV)|none=>none)=some (v,dc,dv))
  (e1:Ext ρ U lo hi) (e2:Rel U E fr gY S' H') (e3:mg U mV hi) (e4:lo<=mV) (hx:e=.ret\/e=.normal):
  WE C ⟨fn.ntmps,[]⟩ (bodyPost P fn (rR C λx bo Hr=>bo=[]/\∃U,Ext ρ U lo hi/\v.den U E=some x/\iH U E dc Hr/\mg U dv hi/\lo<=dv)) [] H' S' e:=by
 have main:∀vs,DI P fr gY fn.results.toList=some vs->∃xs,SV.dens U E vs=some xs/\∀(a:Act) w,fq ⟨fn.ntmps,[]⟩ S' a->Qj C [] H' w->(results fn a.tmps).run P w=.ok (if h:xs.toArray.size=1 then xs.toArray[0]else .tuple xs.toArray) w:=λvs NT=>by
  obtain⟨xs,h1,h2⟩:=vY (P:=P) (C:=C) (n:=⟨fn.ntmps,[]⟩) e2 NT;refine⟨xs,h1,λa w eP hw=>?_⟩;have h3:=h2 a w eP hw
  have h4:(fn.results.mapM (Ie a.tmps)).run P w=.ok xs.toArray w:=by
   have h5:fn.results.mapM (Ie a.tmps)=List.toArray<$>fn.results.toList.mapM (Ie a.tmps):=by rw[Array.mapM_eq_mapM_toList]
   rw[h5];simp only[map_eq_pure_bind];simp[h3]
  rw[QaC];simp only[Sem.run_bind,h4,Result.andThen_ok];rfl
 split at hr
 ·rename_i v' NT;cases hr;obtain⟨xs,h1,h2⟩:=main _ NT;obtain⟨x,us,rfl,h3,h4⟩:=QF h1;cases h4;obtain⟨H2,s1,s2⟩:=tM (C:=C) (lo:=lo) (hi:=hi) (v:=v) (hp0:=hp) e2.hp;exact vZ rfl (λa w eP hw=>by simpa using h2 a w eP hw) ⟨rfl,U,e1,h3,s1,e3,e4⟩ s2 hx
 ·rename_i vs db NT;cases hr;obtain⟨xs,h1,h2⟩:=main _ NT;have hl:=zd h1
  have U1:¬xs.length=1:=λe=>by
   rw[hl]at e;obtain⟨y,rfl⟩:=List.length_eq_one_iff.1 e;exact db y rfl
  obtain⟨H2,s1,s2⟩:=tM (C:=C) (lo:=lo) (hi:=hi) (v:=.tup vs) (hp0:=hp) e2.hp
  exact vZ rfl (v:=.tuple xs.toArray) (λa w eP hw=>by
   have:=h2 a w eP hw;rw[dif_neg (cv U1)]at this;exact this) ⟨rfl,U,e1,by simp[SV.den,h1],s1,e3,e4⟩ s2 hx
 · cases hr
theorem Nl (ej:Ib P E call)(lf:Nat):Ib P E (TE P call lf):=by
 intro f args hp lo hi v dc dv he ρ vals H fx hH hf;unfold TE at he;split at he;· cases he
 ·rename_i fn jq;split at he;· cases he
  ·rename_i body YP;split at he;· cases he
   ·rename_i hb;simp only[Bool.and_eq_true]at hb;have hle:=hb.1;have h16:=Nat.le_of_ble_eq_true hb.2;rw[<-zd fx]at hle;refine Ql jq YP rfl hle rfl λC=>?_
    have hlen:=zd fx;have Z7:=Nat.le_of_ble_eq_true hle
    have a18:Rel ρ E (rX 0 args .nil) hp (BM 0 vals) H:=⟨λk u hk=>by
     obtain⟨x,h1,h2⟩:=rY args vals 0 .nil [] fx an (λj v hj=>by cases hj) k u hk;rcases h2 with⟨h2,h3⟩|⟨h2,h3⟩
     · omega
     · exact⟨x,h1,AD (Nat.zero_le _) h3⟩,hH⟩
    have fin:∀{ex fr U mV},xd P call fn.ntmps lf hi body (rX 0 args .nil) hp lo=some (ex,fr,U,mV)->(∀id,ex≠.exit id)->(match DI P fr U fn.results.toList with|some [v]=>some (v,kM lo hi v hp U,mV)|some vs=>some (.tup vs,kM lo hi (.tup vs) hp U,mV)|none=>none)=some (v,dc,dv)->
      WC P C ⟨fn.ntmps,[]⟩ (bodyPost P fn (rR C λx bo Hr=>bo=[]/\∃ca,Ext ρ ca lo hi/\v.den ca E=some x/\iH ca E dc Hr/\mg ca dv hi/\lo<=dv)) [] H (BM 0 vals) body:=by
     intro ex fr U mV hc hex hr;refine CN ej body _ _ _ _ _ _ _ hc _ ρ _ H a18 hf λca S' H' e1 e2 e3 e4=>?_
     have hx:ex.to=.ret\/ex.to=.normal:=by
      cases ex with
      |normal=>exact .inr rfl
      |ret=>exact .inl rfl
      |exit id=>exact absurd rfl (hex id)
     exact Nn hr e1 e2 e3 e4 hx
    split at he;· cases he
    ·rename_i ex fr U mV db hc;exact fin hc (λid e=>db id e) he
    · cases he
theorem zu (E:List Value)(U:Nat):∀d,Ib P E (Iz P U d)
 |0=>λf args hp lo hi v dc dv he=>by cases he
 |d+1=>Nl (zu E U d) U
end a0G
end
end
section
open Go Go.RowKit
section
variable {P:Program} {C:Ctx} {n:FD} {Q:Exit->Act->World->Prop} {Φ:List Fact} {H:List Fact} {S S':List (Nat×Value)} {ops:Array Oper} {rest:List Oper} {o:Oper} {d:Nat} {aq L:List Nat} {D:List (Nat×Fact)}
def G4 (P:Program)(n:FD)(S:List (Nat×Value))(o:Oper)(v:Value):Prop:=∀a w,fq n S a->(execOp a.eval o).run P w=.ok (.value v) w
theorem I9 {v:Value} (hg:QI ops S o=some true)(hd:o.dst=some d)(hn:Nat.blt d n=true)(U:eL d S=S')(h:G4 P n S o v)(next:WL P C n Q Φ H ((d,v)::S') ops rest):WL P C n Q Φ H S ops (o::rest):=
 HF hg hd hn U (λa w hf _=>h a w hf) next
def Lg (P:Program)(t:Nat):Bool:=match P.underlying t with
 |some .string=>true
 |_=>false
theorem ze {t:Nat} (h:Lg P t=true):P.underlying t=some .string:=by
 unfold Lg at h;split at h;· rename_i U;exact U
 · cases h
def yy (P:Program)(t:Nat):Option IntKind:=match P.underlying t with
 |some (.int k)=>some k
 |_=>none
theorem Qy {t:Nat} {k:IntKind} (h:yy P t=some k):P.underlying t=some (.int k):=by
 unfold yy at h;split at h;· rename_i U;cases h;exact U
 · cases h
theorem GX {t:TypeId} {x:Operand} {s:ByteArray} (ho:o.op=.call {callee:=.builtin .len,args:=#[x],argTypes:=#[t]})(hx:de S x=some (.string s))(ht:Lg P t=true):G4 P n S o (.int .i64 ((s.size:Nat):Int)):=
 λa w U=>by simp[execOp,ho,resolve,invoke,builtin,Builtin.len_,U.eval hx,run_underlying (ze ht),goInt]
theorem KE {t:TypeId} {x y:Operand} {s:ByteArray} {k:IntKind} {z:Int} {b:UInt8} (j:Nat)(ho:o.op=.index t x y)(hx:de S x=some (.string s))(hy:de S y=some (.int k z))(hz:z=(j:Int))(hb:s[j]? =some b)(ht:Lg P t=true):G4 P n S o (.int .u8 ((b.toNat:Nat):Int)):=by
 subst hz;exactλa w U=>by simp[execOp,ho,U.eval hx,U.eval hy,Instr.index,asIntOf,run_underlying (ze ht),hb]
theorem lH {t:TypeId} {x y:Operand} {s u:ByteArray} (h:s.size+u.size<=9223372036854775807)(w:World):(do eqGuard .add t x y (.string s) (.string u);binOp .add t (.string s) (.string u):Sem Value).run P w=.ok (.string (s++u)) w:=by
 have U:IntKind.max .i64=9223372036854775807:=bf
 have h2:¬(((s.size+u.size:Nat):Int)>IntKind.max .i64):=by rw[U];omega
 simp only[eqGuard,binOp,Op.stringOp];rw[if_neg h2];rfl
theorem rh {s t:TypeId} {x:Operand} {k k' U:IntKind} {z:Int} (ho:o.op=.convert s t x)(hx:de S x=some (.int k z))(hs:yy P s=some k')(ht:yy P t=some U):G4 P n S o (.int U (U.wrap z)):=λa w hf=>by
 simp[execOp,ho,hf.eval hx,convert,run_underlying (Qy hs),run_underlying (Qy ht),Conv.intToInt]
theorem yj {t:TypeId} {x:Operand} {k:IntKind} {z:Int} (ho:o.op=.unOp .neg t x)(hx:de S x=some (.int k z)):G4 P n S o (.int k (k.wrap (0-z))):=λa w U=>by
 simp[execOp,ho,U.eval hx,Op.unary,Op.intArith]
def J3 (P:Program)(t k:Nat):Option (Nat×Nat):=match P.underlying t with
 |some (.struct U)=>(U[k]?).map λf=>(f.type,f.offset)
 |_=>none
theorem KD {t k u off sz:Nat} {x:Operand} {cs:Array Value} {v:Value} {ag:Bool} (ho:o.op=.field t x k)(hx:de S x=some (.agg cs))(hk:J3 P t k=some (u,off))(ha:eY P u=some ag)(hs:QP P u=some sz)(hv:(if ag=true then some (.agg (cs.extract off (off+sz)))else cs[off]?)=some v):G4 P n S o v:=λc w hf=>by
 unfold J3 at hk;split at hk
 ·rename_i fs hu;cases U:fs[k]? with
  |none=>rw[U]at hk;cases hk
  | some f=>
    rw[U]at hk;simp only[Option.map_some,Option.some.injEq,Prod.mk.injEq]at hk;obtain⟨rfl,rfl⟩:=hk
    have hp:(part f.type cs f.offset).run P w=.ok v w:=by
     unfold part;simp only[Sem.run_bind,tO ha,Result.andThen];cases ag with
     | true=>
       simp only[if_true,Sem.run_bind,yM hs,Result.andThen]at hv⊢;cases hv;rfl
     | false=>
       simp only[Bool.false_eq_true,if_false]at hv⊢;rw[hv];rfl
    simp[execOp,ho,hf.eval hx,Instr.field,run_underlying hu,U,asAgg,hp]
 · cases hk
end
end
section
open Go Go.RowKit
theorem MD {P:Program} {w:World} {r clock:Nat} {E:Array MapEntry} (h:w.heap[r]? =some (.map E clock)):(getObj r).run P w=.ok (.map E clock) w:=by simp[getObj,Sem.run,h]
theorem W1 {P:Program} {w:World} {r clock:Nat} {E:Array MapEntry} (U:Obj)(h:w.heap[r]? =some (.map E clock)):(setObj r U).run P w=.ok () {w with heap:=w.heap.setIfInBounds r U}:=by simp[setObj,Sem.run,h]
theorem pN {α:Type} {E:Array α} {i:Nat} {e:α} {f:α->α} (h:E.toList[i]? =some e):(E.modify i f).toList=E.toList.set i (f e):=by
 apply List.ext_getElem?;intro q;rw[List.getElem?_set];have bq:=(List.getElem?_eq_some_iff.1 h).1;by_cases U:i=q
 ·subst U;rw[if_pos rfl,if_pos bq];have h2:E[i]? =some e:=by simpa using h
  simp[Array.getElem?_modify,h2]
 ·rw[if_neg U];simp[Array.getElem?_modify,U]
structure rI (P:Program) (k:TypeId) (κ:Type) where
 enc:κ->Value
 ok:κ->Prop
 check:∀{x},ok x->∀b w,(Instr.checkKey b 10000 k (enc x)).run P w=.ok () w
 find:∀{x},ok x->∀(es:List MapEntry) (ks:List κ),es.map (·.key)=ks.map enc->(∀y∈ks,ok y)->∀w,∃r,(Instr.findKey k (enc x) es).run P w=.ok r w/\((r=none/\x∉ks)\/∃(i:Nat) (e:MapEntry),r=some (i,e.val)/\es[i]? =some e/\ks[i]? =some x)
 stays:∀{x},ok x->∀w,(Instr.keyThatStays (enc x) (enc x)).run P w=.ok (enc x) w
theorem Qav {κ:Type} [DecidableEq κ] {d:TypeDesc} {enc:κ->Value} (hs:∀x y,Instr.sameNow d (enc x) (enc y)=some (decide (x=y)))(x:κ):∀(es:List MapEntry)(ks:List κ)(i:Nat),es.map (·.key)=ks.map enc->
   ∃r,Instr.findNow d (enc x) es i=some r/\((r=none/\x∉ks)\/∃(j:Nat) (e:MapEntry),r=some (i+j,e.val)/\es[j]? =some e/\ks[j]? =some x)
 |[],[],i,_=>⟨none,rfl,.inl ⟨rfl,ax⟩⟩
 |[],_::_,_,h=>by cases h
 |_::_,[],_,h=>by cases h
 | e::es,y::ks,i,h=>by
   simp only[List.map_cons,List.cons.injEq]at h;obtain⟨h1,h2⟩:=h;unfold Instr.findNow;rw[h1,hs];by_cases HP:x=y
   ·subst HP;simp only[decide_true];exact⟨_,rfl,.inr ⟨0,e,rfl,rfl,rfl⟩⟩
   ·obtain⟨r,h3,h4⟩:=Qav hs x es ks (i+1) h2;simp only[HP,decide_false];refine⟨r,h3,?_⟩;rcases h4 with⟨rfl,h5⟩|⟨j,U,rfl,h6,h7⟩
    · exact .inl ⟨rfl,by simp[HP,h5]⟩
    · exact .inr ⟨j+1,U,by rw[Nat.add_assoc,Nat.add_comm 1 j],h6,h7⟩
theorem oq {P:Program} {k:TypeId} {v:Value} {t:TypeDesc} (hk:P.underlying k=some t)(h:match t,v with| .interface _,_=>False| .array _ _,_=>False| .struct _,_=>False|_,_=>True)(b:Bool)(n:Nat)(w:World):(Instr.checkKey b (n+1) k v).run P w=.ok () w:=by
 unfold Instr.checkKey;simp only[Sem.run_bind,run_underlying hk,Result.andThen];cases t<;>first|rfl|exact h.elim|(cases v<;>first|rfl|exact h.elim)
theorem Ix (n:Nat)(k:IntKind)(x:Int):Instr.sameBits n (.int k x) (.int k x)=true:=by unfold Instr.sameBits;simp
theorem Iy (n:Nat)(x:ByteArray):Instr.sameBits n (.string x) (.string x)=true:=by unfold Instr.sameBits;exact(Go.MapKept.bytes_beq x x).2 rfl
theorem tJ {P:Program} {v:Value} (h:Instr.sameBits 10000 v v=true)(w:World):(Instr.keyThatStays v v).run P w=.ok v w:=by
 unfold Instr.keyThatStays;rw[if_pos h];rfl
def QZ {P:Program} {k:TypeId} {q:IntKind} (hk:P.underlying k=some (.int q)):rI P k Int where
 enc x:=.int q x
 ok _:=True
 check:=λ_ b w=>oq hk trivial b 9999 w
 find:=λ{x} _ es ks h _ w=>by
  obtain⟨r,h1,U⟩:=Qav (d:=.int q) (enc:=λx=>Value.int q x) (λx y=>by simp[Instr.sameNow];rfl) x es ks 0 h;refine⟨r,?_,?_⟩;· simp[Instr.findKey,run_underlying hk,h1]
  · simpa using U
 stays:=λ_ w=>tJ (Ix _ _ _) w
def Cz {P:Program} {k:TypeId} (hk:P.underlying k=some .string):rI P k ByteArray where
 enc x:=.string x
 ok _:=True
 check:=λ_ b w=>oq hk trivial b 9999 w
 find:=λ{x} _ es ks h _ w=>by
  obtain⟨r,h1,U⟩:=Qav (d:=.string) (enc:=λx=>Value.string x) (λx y=>congrArg some (Bool.eq_iff_iff.2 ((Go.MapKept.bytes_beq x y).trans ax))) x es ks 0 h;refine⟨r,?_,?_⟩;· simp[Instr.findKey,run_underlying hk,h1]
  · simpa using U
 stays:=λ_ w=>tJ (Iy _ _) w
section
variable {κ α:Type} [DecidableEq κ]
def fW (x:κ):List (κ×α)->Option α
 |[]=>none
 |y::l=>if y.1=x then some y.2 else fW x l
def ju (x:κ)(a:α):List (κ×α)->List (κ×α)
 |[]=>[(x,a)]
 |y::l=>if y.1=x then(x,a)::l else y::ju x a l
theorem mX {x:κ} {a:α}:∀{l:List (κ×α)} {i:Nat},(l.map (·.1)).Nodup->l[i]? =some (x,a)->fW x l=some a
 |[],i,_,h=>by simp at h
 | y::l,0,_,h=>by
   simp only[List.getElem?_cons_zero,Option.some.injEq]at h;subst h;simp[fW]
 | y::l,i+1,U,h=>by
   simp only[List.getElem?_cons_succ]at h;simp only[List.map_cons,List.nodup_cons]at U;have db:¬y.1=x:=λe=>U.1 (List.mem_map.2 ⟨_,List.mem_of_getElem? h,e.symm⟩)
   unfold fW;rw[if_neg db];exact mX U.2 h
theorem lx {x:κ}:∀{l:List (κ×α)},x∉l.map (·.1)->fW x l=none
 |[],_=>rfl
 | y::l,h=>by
   simp only[List.map_cons,List.mem_cons,not_or]at h;unfold fW;rw[if_neg (λe=>h.1 e.symm)];exact lx h.2
theorem AE {x:κ} {a:α}:∀{l:List (κ×α)},x∉l.map (·.1)->ju x a l=l++[(x,a)]
 |[],_=>rfl
 | y::l,h=>by
   simp only[List.map_cons,List.mem_cons,not_or]at h;unfold ju;rw[if_neg (λe=>h.1 e.symm),AE h.2];rfl
theorem yb {x:κ} {a b:α}:∀{l:List (κ×α)} {i:Nat},(l.map (·.1)).Nodup->l[i]? =some (x,b)->ju x a l=l.set i (x,a)
 |[],i,_,h=>by simp at h
 | y::l,0,_,h=>by
   simp only[List.getElem?_cons_zero,Option.some.injEq]at h;subst h;simp[ju]
 | y::l,i+1,U,h=>by
   simp only[List.getElem?_cons_succ]at h;simp only[List.map_cons,List.nodup_cons]at U;have db:¬y.1=x:=λe=>U.1 (List.mem_map.2 ⟨_,List.mem_of_getElem? h,e.symm⟩)
   unfold ju;rw[if_neg db,yb U.2 h];rfl
end
def jg {κ α:Type} {P:Program} {k:TypeId} (K:rI P k κ)(ag:Bool)(R:eO α)(N F:eh)(b:Nat)(es:List (κ×α))(w:World):Prop:=
 N b/\∃(E:Array MapEntry) (clock:Nat),w.heap[b]? =some (.map E clock)/\E.toList.map (·.key)=es.map (λx=>K.enc x.1)/\
   (∀(i:Nat) (e:MapEntry) (x:κ×α),E.toList[i]? =some e->es[i]? =some x->∃cs,ku ag cs=some e.val/\R.p F w cs x.2)/\
   (es.map (·.1)).Nodup/\(∀x∈es,K.ok x.1)/\(E.toList.map (·.born)).Nodup/\∀e∈E.toList,e.born<clock
theorem jg.good {κ α:Type} {P:Program} {k:TypeId} {K:rI P k κ} {ag:Bool} {R:eO α} {b:Nat} {es:List (κ×α)} {N N' F G:eh} {w U:World} (hN:∀k,N k->N' k)(ha:fB N w U)(hF:∀k,F k->G k)(hb:fB F w U)(h:jg K ag R N F b es w):jg K ag R N' G b es U:=by
 obtain⟨h1,E,clock,h2,h3,h4,h5⟩:=h;refine⟨hN _ h1,E,clock,(ha b h1).trans h2,h3,λi e x hi hx=>?_,h5⟩;obtain⟨cs,q1,q2⟩:=h4 i e x hi hx;exact⟨cs,q1,R.good hF hb q2⟩
def j7 {κ α:Type} {P:Program} {k:TypeId} (K:rI P k κ)(ag:Bool)(R:eO α)(b:Nat)(es:List (κ×α)):Fact:=.duo (λN F w=>jg K ag R N F b es w) jg.good
def CB:eO Value where
 p _ _ cs x:=cs=[x]/\x.oneCell'=true
 good:=λ_ _ h=>h
 one:=λh u hu=>by
  rw[h.1]at hu;simp at hu;subst hu;exact h.2
theorem Hk:qg CB (λx (_:Unit)=>[x]) (λ_ _=>True) (λ_ _=>[]):=λ_ _ _ _ h=>⟨(),h.1,trivial,λ_ U=>by cases U⟩
section rules
variable {P:Program} {C:Ctx} {n:FD} {Q:Exit->Act->World->Prop} {Φ Φ':List Fact} {H H':List Fact} {S S':List (Nat×Value)} {ops:Array Oper} {rest:List Oper} {o:Oper} {d:Nat}
variable {κ α:Type} [DecidableEq κ] {k:TypeId} {K:rI P k κ} {ag:Bool} {R:eO α} {b:Nat} {es:List (κ×α)}
omit [DecidableEq κ] in
theorem Qj.allocMapE {w:World} (h:Qj C Φ H w)(K:rI P k κ)(ag:Bool)(R:eO α):Qj C Φ (j7 K ag R w.heap.size []::H) (w.alloc (.map #[] 0)):=by
 obtain⟨F,N,hi⟩:=h;have U:Below w.heap.size w (w.alloc (.map #[] 0)):=(Below.refl _ _).alloc (Nat.le_refl _) _;refine⟨F,si (λk=>k=w.heap.size) N,(hi.grow U).push _ _ ⟨rfl,#[],0,heap_alloc_new w _,rfl,λi e x hi=>by simp at hi,ax,ax,ax,ax⟩ ?_ ?_⟩
 ·rintro k rfl;exact⟨ax,.inl hi.mod.size,λhf=>Nat.lt_irrefl _ (hi.flt _ hf)⟩
 ·rintro i k hl rfl hn;exact Nat.lt_irrefl _ (hi.nlt i _ hl hn).1
omit [DecidableEq κ] in
theorem q8 {t:Nat} (K:rI P k κ)(ag:Bool)(R:eO α)(hg:QI ops S o=some true)(hd:o.dst=some d)(hn:Nat.blt d n=true)(U:eL d S=S')(ho:o.op=.makeMap t none)
  (next:∀g,WL P C n Q Φ (j7 K ag R g []::H) ((d,.map (some g))::S') ops rest):WL P C n Q Φ H S ops (o::rest):=
 C2 hg hd hn U λa w hf hw=>⟨_,_,(by simp[execOp,ho,run_makeMap]),_,_,hw.allocMapE K ag R,next _⟩
theorem jg.find {N F:eh} {w:World} (h:jg K ag R N F b es w) {x:κ} (hx:K.ok x):∃(E:Array MapEntry)(clock:Nat),w.heap[b]? =some (.map E clock)/\(Instr.checkKey E.isEmpty 10000 k (K.enc x)).run P w=.ok () w/\
  (((Instr.findKey k (K.enc x) E.toList).run P w=.ok none w/\fW x es=none/\x∉es.map (·.1))\/
    ∃(i:Nat) (e:MapEntry) (a:α) (cs:List Value),(Instr.findKey k (K.enc x) E.toList).run P w=.ok (some (i,e.val)) w/\E.toList[i]? =some e/\es[i]? =some (x,a)/\fW x es=some a/\ku ag cs=some e.val/\R.p F w cs a):=by
 obtain⟨_,E,clock,h2,h3,h4,h5,h6,_⟩:=h;refine⟨E,clock,h2,K.check hx _ _,?_⟩;have Jz:E.toList.map (·.key)=(es.map (·.1)).map K.enc:=by rw[h3,List.map_map];rfl
 obtain⟨r,q1,U⟩:=K.find hx E.toList (es.map (·.1)) Jz (λy hy=>by obtain⟨z,hz,rfl⟩:=List.mem_map.1 hy;exact h6 z hz) w;rcases U with⟨rfl,U⟩|⟨i,e,rfl,U,q3⟩
 · exact .inl ⟨q1,lx U,U⟩
 ·right;rw[List.getElem?_map]at q3;cases JK:es[i]? with
  |none=>rw[JK]at q3;cases q3
  | some y=>
    rw[JK]at q3;simp only[Option.map_some,Option.some.injEq]at q3;obtain⟨y1,y2⟩:=y;simp only at q3;subst q3;obtain⟨cs,p1,p2⟩:=h4 i e _ U JK;exact⟨i,e,y2,cs,q1,U,JK,mX h5 JK,p1,p2⟩
theorem jg.lookNo {N F:eh} {w:World} {t e:TypeId} {z:Value} (c:Bool)(h:jg K ag R N F b es w) {x:κ} (hx:K.ok x)(ht:P.underlying t=some (.map k e))(hz:gW P e=some z)(hm:fW x es=none):
  (Instr.lookup t (.map (some b)) (K.enc x) c).run P w=.ok (if c then .tuple #[z,.bool false]else z) w:=by
 obtain⟨E,clock,h1,h2,U⟩:=h.find hx;rcases U with⟨U,_,_⟩|⟨i,e',a,cs,_,_,_,U,_⟩
 · simp only[Instr.lookup,Sem.run_bind,run_underlying ht,Result.andThen,MD h1,Sem.run_pure,h2,U,W3 hz w]
 · rw[hm]at U;cases U
theorem jg.lookYes {N F:eh} {w:World} {t e:TypeId} {a:α} (c:Bool)(h:jg K ag R N F b es w) {x:κ} (hx:K.ok x)(ht:P.underlying t=some (.map k e))(hm:fW x es=some a):
  ∃v cs,(Instr.lookup t (.map (some b)) (K.enc x) c).run P w=.ok (if c then .tuple #[v,.bool true]else v) w/\ku ag cs=some v/\R.p F w cs a:=by
 obtain⟨E,clock,h1,h2,U⟩:=h.find hx;rcases U with⟨_,U,_⟩|⟨i,e',a',cs,U,_,_,h4,h5,h6⟩
 · rw[hm]at U;cases U
 ·rw[hm]at h4;cases h4;refine⟨e'.val,cs,?_,h5,h6⟩;simp only[Instr.lookup,Sem.run_bind,run_underlying ht,Result.andThen,MD h1,Sem.run_pure,h2,U]
theorem ub {t e:Nat} {x y:Operand} {i:κ} {z v:Value} {c:Bool} (j:Nat)(hg:QI ops S o=some true)(hd:o.dst=some d)(hn:Nat.blt d n=true)(hS:eL d S=S')(ho:o.op=.lookup t x y c)
  (bj:H[j]? =some (j7 K ag R b es)) (hx:de S x=some (.map (some b))) (hy:de S y=some (K.enc i)) (hz:gW P e=some z) (ht:P.underlying t=some (.map k e)) (hi:K.ok i) (hm:fW i es=none)
  (hv:(if c then .tuple #[z,.bool false]else z)=v) (next:WL P C n Q Φ H ((d,v)::S') ops rest):WL P C n Q Φ H S ops (o::rest):=by
 refine HF hg hd hn hS (λa w U hw=>?_) next
 obtain⟨F,N,eo⟩:=hw;have h0:jg K ag R (N j) F b es w:=eo.owns j _ bj;have:=h0.lookNo c hi ht hz hm;rw[hv]at this;simp[execOp,ho,U.eval hx,U.eval hy,this]
theorem Hq {t e:Nat} {x y:Operand} {i:κ} {a:α} {Λ:Type} {cells:α->Λ->List Value} {pure:α->Λ->Prop} {facts:α->Λ->List Fact} {c:Bool} {v u:Λ->Value} (op:qg R cells pure facts)(j:Nat)(hg:QI ops S o=some true)(hd:o.dst=some d)(hn:Nat.blt d n=true)(hS:eL d S=S')(ho:o.op=.lookup t x y c)
  (bj:H[j]? =some (j7 K ag R b es)) (hx:de S x=some (.map (some b))) (hy:de S y=some (K.enc i)) (ht:P.underlying t=some (.map k e)) (hi:K.ok i) (hm:fW i es=some a)
  (hu:∀r,ku ag (cells a r)=some (u r)) (hv:∀r,(if c then .tuple #[u r,.bool true]else u r)=v r) (next:∀r,pure a r->WL P C n Q (facts a r++Φ) H ((d,v r)::S') ops rest):WL P C n Q Φ H S ops (o::rest):=by
 refine C2 hg hd hn hS λac w hf hw=>?_;obtain⟨F,N,eo⟩:=hw;have h0:jg K ag R (N j) F b es w:=eo.owns j _ bj;obtain⟨v0,cs,h1,h2,h3⟩:=h0.lookYes c hi ht hm;obtain⟨r,q1,q2,q3⟩:=op F w cs a h3;subst q1;rw[hu r]at h2;cases h2;rw[hv r]at h1;refine⟨v r,w,?_,facts a r++Φ,H,⟨F,N,{eo with facts:=λφ U=>?_}⟩,next r q2⟩;· simp[execOp,ho,hf.eval hx,hf.eval hy,h1]
 ·rcases List.mem_append.1 U with U|U;· exact q3 φ U
  · exact eo.facts φ U
theorem World.set_mod {N:eh} {w:World} {b:Nat} {o o':Obj} (hb:w.heap[b]? =some o)(U:N b):Mod N w {w with heap:=w.heap.setIfInBounds b o'}:=
 ⟨rfl,rfl,rfl,ax,λq _ hn=>by
  have:b≠q:=λe=>hn (e▸U);simp[Array.getElem?_setIfInBounds,this]⟩
theorem jg.put {N F:eh} {w:World} {t e:TypeId} {x:κ} {u:α} {cs:List Value} {v:Value} (h:jg K ag R N F b es w)(hx:K.ok x)(ht:P.underlying t=some (.map k e))(hv:ku ag cs=some v):
  ∃w',(Instr.mapUpdate t (.map (some b)) (K.enc x) v).run P w=.ok () w'/\Mod N w w'/\(R.p F w' cs u->(∀cs y,R.p F w cs y->R.p F w' cs y)->jg K ag R N F b (ju x u es) w'):=by
 obtain⟨hN,E,clock,U,h3,h4,h5,h6,h7,h8⟩:=id h;obtain⟨E',a0z,g1,g2,g3⟩:=h.find hx;rw[U]at g1;cases g1
 have eR:∀r,(Instr.findKey k (K.enc x) E.toList).run P w=.ok r w->(Instr.mapUpdate t (.map (some b)) (K.enc x) v).run P w=((match r with
   | some (i,_)=>do
     let key <-Instr.keyThatStays (((E[i]?).map (·.key)).getD (K.enc x)) (K.enc x)
     setObj b (.map (E.modify i λe=>{e with key,val:=v}) clock)
   |none=>setObj b (.map (E.push {key:=K.enc x,val:=v,born:=clock}) (clock+1)):Sem Unit)).run P w:=λr hr=>by
  unfold Instr.mapUpdate;simp only[Sem.run_bind,run_underlying ht,Result.andThen,MD U,K.check hx,hr];rcases r with _|⟨_,_⟩<;>rfl
 rcases g3 with⟨q1,q2,q3⟩|⟨i,e',a,yU,q1,q2,q3,q4,q5,q6⟩
 ·refine ⟨_,(eR _ q1).trans (W1 _ U),World.set_mod U hN,λhu hold=>?_⟩;have bq:=(Array.getElem?_eq_some_iff.1 U).1;refine⟨hN,E.push {key:=K.enc x,val:=v,born:=clock},clock+1,by simp[Array.getElem?_setIfInBounds,bq],?_⟩;rw[AE q3];have hl:E.toList.length=es.length:=by simpa using congrArg List.length h3
  refine⟨by simp[h3],λq e y he hy=>?_,?_,λy hy=>?_,?_,λe he=>?_⟩
  ·simp only[Array.toList_push]at he;rcases Nat.lt_or_ge q es.length with hq|hq
   · rw[List.getElem?_append_left an]at he;rw[List.getElem?_append_left hq]at hy;obtain⟨IF,p1,p2⟩:=h4 q e y he hy;exact⟨IF,p1,hold _ _ p2⟩
   · rw[List.getElem?_append_right an,hl]at he;rw[List.getElem?_append_right hq]at hy
     have:q-es.length=0:=by
      have:=(List.getElem?_eq_some_iff.1 hy).1;simp at this;omega
     rw[this]at he hy;simp at he hy;subst he;subst hy;exact⟨cs,hv,hu⟩
  ·rw[List.map_append];refine List.nodup_append.2 ⟨h5,ax,λa ha b' kG e=>?_⟩;simp at kG;subst kG;subst e;exact q3 ha
  ·rcases List.mem_append.1 hy with hy|hy;· exact h6 y hy
   · simp at hy;subst hy;exact hx
  ·simp only[Array.toList_push,List.map_append];refine List.nodup_append.2 ⟨h7,ax,λa ha b' kG e=>?_⟩;obtain⟨e0,he0,rfl⟩:=List.mem_map.1 ha;simp at kG;have:=h8 e0 he0;omega
  ·simp only[Array.toList_push]at he;rcases List.mem_append.1 he with he|he;· have:=h8 e he;omega
   · simp at he;subst he;simp
 ·have hk:(((E[i]?).map (·.key)).getD (K.enc x))=K.enc x:=by
   have e1:(E.toList.map (·.key))[i]? =some e'.key:=by rw[List.getElem?_map,q2];rfl
   rw[h3,List.getElem?_map,q3]at e1;simp only[Option.map_some,Option.some.injEq]at e1;have e2:E[i]? =some e':=by simpa using q2
   rw[e2];exact e1.symm
  have bq:=(Array.getElem?_eq_some_iff.1 U).1
  refine ⟨_,(eR _ q1).trans (by
   simp only[hk,Sem.run_bind,K.stays hx,Result.andThen];exact W1 _ U),World.set_mod U hN,λhu hold=>?_⟩
  refine⟨hN,E.modify i λe=>{e with key:=K.enc x,val:=v},clock,by simp[Array.getElem?_setIfInBounds,bq],?_⟩;rw[pN q2,yb h5 q3];have HN:(es.set i (x,u)).map (·.1)=es.map (·.1):=by rw[List.map_set];exact Pk (by simp[q3])
  refine⟨?_,λq e y he hy=>?_,by rw[HN];exact h5,λy hy=>?_,?_,λe he=>?_⟩;· rw[List.map_set,List.map_set,h3]
  ·rw[List.getElem?_set]at he hy;by_cases hq:i=q
   · subst hq;rw[if_pos rfl]at he hy;rw[if_pos (List.getElem?_eq_some_iff.1 q2).1]at he;rw[if_pos (List.getElem?_eq_some_iff.1 q3).1]at hy;cases he;cases hy;exact⟨cs,hv,hu⟩
   · rw[if_neg hq]at he hy;obtain⟨IF,p1,p2⟩:=h4 q e y he hy;exact⟨IF,p1,hold _ _ p2⟩
  ·rcases List.mem_or_eq_of_mem_set hy with hy|rfl;· exact h6 y hy
   · exact hx
  ·rw[List.map_set];have:(E.toList.map (·.born)).set i e'.born=E.toList.map (·.born):=Pk (by rw[List.getElem?_map,q2];rfl);rw[this];exact h7
  ·rcases List.mem_or_eq_of_mem_set he with he|rfl;· exact h8 e he
   · exact h8 e' (List.mem_of_getElem? q2)
omit [DecidableEq κ] in
theorem vM {β U:Type} (f:β->U):∀(l:List β)(j:Nat),(l.eraseIdx j).map f=(l.map f).eraseIdx j
 |[],_=>rfl
 |_::_,0=>rfl
 |a::l,j+1=>by simp only[List.eraseIdx_cons_succ,List.map_cons];rw[vM f l j]
theorem Ho {t e:Nat} {x y z:Operand} {i:κ} {u:α} {cs:List Value} {v:Value} (j:Nat)(hg:QI ops S o=some true)(hd:o.dst=none)(ho:o.op=.mapUpdate t x y z\/o.op=.insert t x y z)
  (bj:H[j]? =some (j7 K ag R b es)) (hx:de S x=some (.map (some b))) (hy:de S y=some (K.enc i)) (hz:de S z=some v) (ht:P.underlying t=some (.map k e)) (hi:K.ok i) (hv:ku ag cs=some v)
  (hr:∀F w,(∀ψ∈Φ,ψ.p F w)->R.p F w cs u) (hH:H.set j (j7 K ag R b (ju i u es))=H') (next:WL P C n Q Φ H' S ops rest):WL P C n Q Φ H S ops (o::rest):=by
 refine FL (Φ':=Φ) hg hd (λa w hf hw=>?_) next
 obtain⟨F,N,U⟩:=hw;have bq:=(List.getElem?_eq_some_iff.1 bj).1;have h0:jg K ag R (N j) F b es w:=U.owns j _ bj;obtain⟨w',r1,r2,r3⟩:=h0.put (u:=u) hi ht hv;refine⟨w',by rcases ho with ho|ho<;>simp[execOp,ho,hf.eval hx,hf.eval hy,hf.eval hz,r1],?_⟩;subst hH;have fa:fB F w w':=λq hq=>r2.block q (U.flt q hq) (λhn=>(U.nlt j q bq hn).2.2 hq);refine⟨F,N,U.set j bq r2 _ (r3 (R.good (λ_ h=>h) fa (hr F w U.facts)) (λ_ _ h=>R.good (λ_ h=>h) fa h))⟩
end rules
end
section
open Go Go.RowKit
section
variable {C:Ctx} {Φ H:List Fact} {F:eh} {N:Nat->eh} {w:World}
theorem fP.shrink (h:fP C Φ H F N w)(k:Nat) {φ1:Fact} (hk:k<H.length)(B:eh)(hB:∀q,B q->N k q)(h1:φ1.op B F w):fP C Φ (H.set k φ1) F (λi=>if i=k then B else N i) w:=by
 have gK:∀i q,(if i=k then B else N i) q->N i q:=λi q U=>by
  by_cases e:i=k;· subst e;rw[if_pos rfl]at U;exact hB q U
  · rw[if_neg e]at U;exact U
 refine{h with owns:=λi ψ hi=>?_,nlt:=λi q hi U=>h.nlt i q (cv hi) (gK i q U),apart:=λi j q hi hj db U dW=>h.apart i j q (cv hi) (cv hj) db (gK i q U) (gK j q dW)};by_cases e:i=k
 ·subst e;rw[List.getElem?_set_self hk]at hi;cases hi;rw[if_pos rfl];exact h1
 ·rw[List.getElem?_set_ne (Ne.symm e)]at hi;rw[if_neg e];exact h.owns i ψ hi
theorem Qj.split {Λ:Type} (h:Qj C Φ H w)(k:Nat) {φ:Fact} {φ1 φ2:Λ->Fact} (hk:H[k]? =some φ)
  (hs:∀N F,φ.op N F w->∃(r:Λ) (A B:eh),(∀q,A q->N q)/\(∀q,B q->N q/\¬A q)/\(φ1 r).op B F w/\(φ2 r).op A F w):∃r,Qj C Φ (φ2 r::H.set k (φ1 r)) w:=by
 obtain⟨F,N,hi⟩:=h;have bq:=(List.getElem?_eq_some_iff.1 hk).1;obtain⟨r,A,B,hA,hB,h1,h2⟩:=hs (N k) F (hi.owns k φ hk);refine⟨r,F,_,(hi.shrink k bq B (λq U=>(hB q U).1) h1).push (φ2 r) A h2 (λq U=>hi.nlt k q bq (hA q U)) (λi q yY U dW=>?_)⟩;by_cases e:i=k
 ·subst e;simp only[if_true]at dW;exact(hB q dW).2 U
 ·simp only[if_neg e]at dW;exact hi.apart k i q bq (cv yY) (Ne.symm e) (hA q U) dW
theorem Qj.join (h:Qj C Φ H w)(k j:Nat) {φ φ1 φ2:Fact} (db:k≠j)(hk:H[k]? =some φ1)(hj:H[j]? =some φ2)
  (hs:∀A B F,φ1.op A F w->φ2.op B F w->(∀q,A q->¬B q)->φ.op (λq=>A q\/B q) F w):Qj C Φ ((H.set k φ).eraseIdx j) w:=by
 obtain⟨F,N,hi⟩:=h;have jL:=(List.getElem?_eq_some_iff.1 hk).1;have Mi:=(List.getElem?_eq_some_iff.1 hj).1;have jc:=hs (N k) (N j) F (hi.owns k φ1 hk) (hi.owns j φ2 hj) (λq=>hi.apart k j q jL Mi db);have hlen:((H.set k φ).eraseIdx j).length=H.length-1:=by rw[List.length_eraseIdx_of_lt (cv Mi)];simp
 let at':Nat->Nat:=λi=>if i<j then i else i+1
 have Mb:∀i,at' i≠j:=λi=>by simp only[at'];split<;>omega
 have bq:∀i,i<((H.set k φ).eraseIdx j).length->at' i<H.length:=λi yY=>by rw[hlen]at yY;simp only[at'];split<;>omega
 have uI:∀i i',at' i=at' i'->i=i':=λi i' e=>by simp only[at']at e;split at e<;>split at e<;>omega
 refine⟨F,λi=>if at' i=k thenλq=>N k q\/N j q else N (at' i),hi.flt,hi.fold,hi.fnew,hi.facts,λi ψ gL=>?_,λi q yY U=>?_,λi i' q yY TU Wl U dW=>?_,hi.mod⟩
 ·have GJ:(H.set k φ)[at' i]? =some ψ:=by
   rw[List.getElem?_eraseIdx]at gL;simp only[at'];split at gL<;>rename_i Ce;· rw[if_pos Ce];exact gL
   · rw[if_neg Ce];exact gL
  by_cases e:at' i=k
  ·simp only[if_pos e];rw[e,List.getElem?_set_self jL]at GJ;cases GJ;exact jc
  ·simp only[if_neg e];rw[List.getElem?_set_ne (Ne.symm e)]at GJ;exact hi.owns _ ψ GJ
 ·by_cases e:at' i=k
  ·simp only[if_pos e]at U;rcases U with U|U;· exact hi.nlt k q jL U
   · exact hi.nlt j q Mi U
  ·simp only[if_neg e]at U;exact hi.nlt _ q (bq i yY) U
 ·by_cases e:at' i=k
  ·have e':at' i'≠k:=λe2=>Wl (uI _ _ (e.trans e2.symm));simp only[if_pos e]at U;simp only[if_neg e']at dW;rcases U with U|U;· exact hi.apart k _ q jL (bq i' TU) (Ne.symm e') U dW
   · exact hi.apart j _ q Mi (bq i' TU) (Ne.symm (Mb i')) U dW
  ·simp only[if_neg e]at U;by_cases e':at' i'=k
   ·simp only[if_pos e']at dW;rcases dW with dW|dW;· exact hi.apart _ k q (bq i yY) jL e U dW
    · exact hi.apart _ j q (bq i yY) Mi (Mb i) U dW
   ·simp only[if_neg e']at dW;exact hi.apart _ _ q (bq i yY) (bq i' TU) (λq=>Wl (uI _ _ q)) U dW
end
end
section
open Go Go.RowKit
theorem Vn {α:Type} {P:Program} {C:Ctx} {n:FD} {Q:Exit->Act->World->Prop} {Φ:List Fact} {H H':List Fact} {S:List (Nat×Value)} {c:Code} {g e sz m:Nat} {cs:List Value} (R:eO α)(l:List α)(k:Nat)(hk:H[k]? =some (.blk g cs e))(lX:∀F w,(∀ψ∈Φ,ψ.p F w)->fZ sz (R.p F w) cs l)(hm:m=l.length)(hle:m<=9223372036854775807)
 (hH:H.set k (.own e sz R (.slice (some ⟨g,0,none⟩) m m) l)=H') (next:WC P C n Q Φ H' S c):WC P C n Q Φ H S c:=λa w U hw=>next a w U (hw.row k hk (λF=>lX F w) hm hle hH)
end
section
open Go Go.RowKit
structure G6 (α Λ:Type) where
 C:α->Λ->List Value
 G:α->Λ->List Fact
 one:∀x r,∀u∈C x r,u.oneCell'=true
def G6.pair {α Λ:Type} (T:G6 α Λ):eO (α×Λ):=⟨λ_ _ cs z=>cs=T.C z.1 z.2,λ_ _ h=>h,λh u hu=>T.one _ _ u (h▸hu)⟩
def ml:List Fact->eh->eh->World->Prop
 |[],_,_,_=>True
 |φ::l,N,F,w=>∃A B:eh,(∀q,A q->N q)/\(∀q,B q->N q/\¬A q)/\φ.op A F w/\ml l B F w
theorem ml.good:∀{l:List Fact} {N N' F G:eh} {w w':World},(∀k,N k->N' k)->fB N w w'->(∀k,F k->G k)->fB F w w'->ml l N F w->ml l N' G w'
 |[],_,_,_,_,_,_,_,_,_,_,_=>trivial
 | φ::l,N,N',F,G,w,w',hN,ha,hF,hb,⟨A,B,h1,h2,h3,h4⟩=>
   ⟨A,B,λq U=>hN q (h1 q U),λq U=>⟨hN q (h2 q U).1,(h2 q U).2⟩,φ.opgood (λ_ h=>h) (λq U=>ha q (h1 q U)) hF hb h3,ml.good (λ_ h=>h) (λq U=>ha q (h2 q U).1) hF hb h4⟩
def iF (l:List Fact):Fact:=.duo (λN F w=>ml l N F w) ml.good
def WD {α Λ:Type} (T:G6 α Λ)(zs:List (α×Λ))(o:Option Nat)(N F:eh)(w:World):Prop:=
 ∃U:Nat->eh,(∀i q,U i q->N q)/\(∀i j q,i≠j->U i q->¬U j q)/\∀i z,zs[i]? =some z->o≠some i->ml (T.G z.1 z.2) (U i) F w
section
variable {α Λ:Type} {T:G6 α Λ} {zs:List (α×Λ)} {o:Option Nat}
theorem WD.good {N N' F G:eh} {w w':World} (hN:∀k,N k->N' k)(ha:fB N w w')(hF:∀k,F k->G k)(hb:fB F w w')(h:WD T zs o N F w):WD T zs o N' G w':=by
 obtain⟨Ns,h1,h2,h3⟩:=h;exact⟨Ns,λi q U=>hN q (h1 i q U),h2,λi z hz ho=>(h3 i z hz ho).good (λ_ h=>h) (λq U=>ha q (h1 i q U)) hF hb⟩
def uF (T:G6 α Λ)(zs:List (α×Λ))(o:Option Nat):Fact:=.duo (λN F w=>WD T zs o N F w) WD.good
def ve (T:G6 α Λ)(e sz:Nat)(v:Value)(xs:List α)(N F:eh)(w:World):Prop:=
 ∃(zs:List (α×Λ)) (A B:eh),zs.map (·.1)=xs/\(∀q,A q->N q)/\(∀q,B q->N q/\¬A q)/\(Fact.own e sz T.pair v zs).op A F w/\(uF T zs none).op B F w
theorem ve.good {e sz:Nat} {v:Value} {xs:List α} {N N' F G:eh} {w w':World} (hN:∀k,N k->N' k)(ha:fB N w w')(hF:∀k,F k->G k)(hb:fB F w w')(h:ve T e sz v xs N F w):ve T e sz v xs N' G w':=by
 obtain⟨zs,A,B,h0,h1,h2,h3,h4⟩:=h;exact⟨zs,A,B,h0,λq U=>hN q (h1 q U),λq U=>⟨hN q (h2 q U).1,(h2 q U).2⟩,Fact.opgood _ (λ_ h=>h) (λq U=>ha q (h1 q U)) hF hb h3,Fact.opgood _ (λ_ h=>h) (λq U=>ha q (h2 q U).1) hF hb h4⟩
def x8 (T:G6 α Λ)(e sz:Nat)(v:Value)(xs:List α):Fact:=.duo (λN F w=>ve T e sz v xs N F w) ve.good
end
section
variable {C:Ctx} {Φ:List Fact} {w:World}
theorem Qj.stars:∀{l H:List Fact},Qj C Φ (iF l::H) w->Qj C Φ (l.reverse++H) w
 |[],H,h=>h.drop 0 ax rfl
 | φ::l,H,h=>by
   have h1:∃_:Unit,Qj C Φ (iF l::(iF (φ::l)::H).set 0 φ) w:=h.split (φ1:=λ_=>φ) (φ2:=λ_=>iF l) 0 rfl (λN F ⟨A,B,h1,h2,h3,h4⟩=>⟨(),B,A,λq U=>(h2 q U).1,λq U=>⟨h1 q U,λhb=>(h2 q hb).2 U⟩,h3,h4⟩);obtain⟨_,h1⟩:=h1;have h3:=Qj.stars (H:=φ::H) h1;rw[List.reverse_cons,List.append_assoc];exact h3
theorem Qj.starsUp:∀{l H:List Fact},Qj C Φ (l.reverse++H) w->Qj C Φ (iF l::H) w
 |[],H,⟨F,N,hi⟩=>⟨F,_,hi.push (iF []) (λ_=>False) trivial (λk hk=>hk.elim) (λ_ k _ hk=>hk.elim)⟩
 | φ::l,H,h=>by
   rw[List.reverse_cons,List.append_assoc]at h;have h1:=Qj.starsUp (H:=φ::H) h;exact h1.join (φ:=iF (φ::l)) 0 1 bf rfl rfl (λA B F ha hb hd=>⟨B,A,λq U=>.inr U,λq U=>⟨.inl U,hd q U⟩,hb,ha⟩)
variable {H:List Fact} {α Λ:Type} {T:G6 α Λ} {zs:List (α×Λ)} {x:α} {r:Λ}
theorem Qj.bagPush (h:Qj C Φ ((T.G x r).reverse++H) w)(j:Nat)(hj:H[j]? =some (uF T zs none)):Qj C Φ (H.set j (uF T (zs++[(x,r)]) none)) w:=by
 have h1:=h.starsUp;refine h1.join (φ:=uF T (zs++[(x,r)]) none) (φ1:=uF T zs none) (φ2:=iF (T.G x r)) (j+1) 0 an (cv hj) rfl ?_
 ·intro A B F ha hb hd;obtain⟨Ns,a1,a2,a3⟩:=ha
  exact ⟨λk q=>(k=zs.length/\B q)\/(k<zs.length/\Ns k q),λk q U=>U.elim (λU=>.inr U.2) (λU=>.inl (a1 k q U.2)),
   fun k k' q db U dW=>by
    rcases U with U|U<;>rcases dW with dW|dW;· exact db (U.1.trans dW.1.symm)
    · exact hd q (a1 k' q dW.2) U.2
    · exact hd q (a1 k q U.2) dW.2
    · exact a2 k k' q db U.2 dW.2,
   fun k z hk _=>by
    by_cases e:k<zs.length
    ·rw[List.getElem?_append_left e]at hk;exact(a3 k z hk ax).good (λq U=>.inr ⟨e,U⟩) (fB.refl _ _) (λ_ h=>h) (fB.refl _ _)
    ·have jL:k=zs.length:=by
      have:=(List.getElem?_eq_some_iff.1 hk).1;simp at this;omega
     subst jL;rw[List.getElem?_append_right (Nat.le_refl _)]at hk;simp at hk;subst hk;exact ml.good (λq U=>.inl ⟨rfl,U⟩) (fB.refl _ _) (λ_ h=>h) (fB.refl _ _) hb⟩
theorem Qj.as_ {φ φ':Fact} (h:Qj C Φ H w)(k:Nat)(hk:H[k]? =some φ)(hs:∀N F,φ.op N F w->φ'.op N F w):Qj C Φ (H.set k φ') w:=by
 obtain⟨F,N,hi⟩:=h;have U:=(List.getElem?_eq_some_iff.1 hk).1;exact⟨F,N,hi.set k U (Mod.refl _ _) φ' (hs _ _ (hi.owns k φ hk))⟩
theorem Qj.treeOut {e sz:Nat} {v:Value} {xs:List α} (h:Qj C Φ H w)(j:Nat)(hj:H[j]? =some (x8 T e sz v xs)):∃zs:List (α×Λ),zs.map (·.1)=xs/\Qj C Φ (uF T zs none::H.set j (.own e sz T.pair v zs)) w:=by
 obtain ⟨r,h1⟩:=h.split (Λ:={zs:List (α×Λ)//zs.map (·.1)=xs}) (φ1:=λr=>.own e sz T.pair v r.1) (φ2:=λr=>uF T r.1 none) j hj (λN F ⟨zs,A,B,h0,h1,h2,h3,h4⟩=>
  ⟨⟨zs,h0⟩,B,A,λq U=>(h2 q U).1,λq U=>⟨h1 q U,λhn=>(h2 q hn).2 U⟩,h3,h4⟩)
 exact⟨r.1,r.2,h1⟩
theorem Qj.treeIn {e sz:Nat} {v:Value} {xs:List α} (h:Qj C Φ H w)(j k:Nat)(db:Nat.beq j k=false)(hj:H[j]? =some (.own e sz T.pair v zs))(hk:H[k]? =some (uF T zs none))(hx:zs.map (·.1)=xs):Qj C Φ ((H.set j (x8 T e sz v xs)).eraseIdx k) w:=
 h.join (φ:=x8 T e sz v xs) j k (λe=>by rw[e,Nat.beq_refl]at db;cases db) hj hk (λA B F ha hb hd=>⟨zs,A,B,hx,λq U=>.inl U,λq U=>⟨.inr U,λhn=>hd q hn U⟩,ha,hb⟩)
theorem Qj.letgo {e sz:Nat} {v:Value} {xs:List α} {R:eO α} (hR:∀x r N F w,ml (T.G x r) N F w->R.p (λq=>N q\/F q) w (T.C x r) x)(h:Qj C Φ H w)(j:Nat)(hj:H[j]? =some (x8 T e sz v xs)):Qj C Φ (H.set j (.own e sz R v xs)) w:=by
 obtain⟨F,N,hi⟩:=h;have bq:=(List.getElem?_eq_some_iff.1 hj).1;obtain⟨zs,A,B,h0,h1,h2,h3,h4⟩:ve T e sz v xs (N j) F w:=hi.owns j _ hj
 have fb:(Fact.own e sz R v xs).op A (λq=>B q\/F q) w:=by
  subst h0;obtain⟨h5,ys,ho,hc⟩:=h3;obtain⟨Ns,h6,h7,h8⟩:=h4;refine⟨h5,ys,by simpa using ho,?_⟩
  have go:∀(zs:List (α×Λ)) (ys:List Value),(∀z∈zs,∃M:eh,(∀q,M q->B q)/\ml (T.G z.1 z.2) M F w)->fZ sz (T.pair.p F w) ys zs->fZ sz (R.p (λq=>B q\/F q) w) ys (zs.map (·.1)):=by
   intro zs;induction zs with
   |nil=>intro ys _ h;exact h
   | cons z zs ih=>
     intro ys hM hc;obtain⟨cs,rest,e1,e2,e3,e4⟩:=hc;obtain⟨M,m1,m2⟩:=hM z ax;refine⟨cs,rest,e1,e2,?_,ih rest (λy hy=>hM y (by simp[hy])) e4⟩;have e3:cs=T.C z.1 z.2:=e3;rw[e3];exact R.good (λq U=>U.elim (λU=>.inl (m1 q U)) .inr) (fB.refl _ _) (hR _ _ _ _ _ m2)
  refine go zs ys (λz hz=>?_) hc;obtain⟨i,hi⟩:=List.getElem?_of_mem hz;exact⟨Ns i,h6 i,h8 i z hi ax⟩
 have hF:∀q,F q->(B q\/F q):=λ_ h=>.inr h;refine⟨λq=>B q\/F q,λi=>if i=j then A else N i,λk hk=>?_,λk hk=>.inr (hi.fold k hk),λk hk=>?_,λφ bj=>φ.good hF (fB.refl _ _) (hi.facts φ bj),λi φ bj=>?_,λi k ib hk=>?_,λi i' k ib TT db hk dy=>?_,hi.mod⟩
 ·rcases hk with hk|hk;· exact(hi.nlt j k bq (h2 k hk).1).1
  · exact hi.flt k hk
 ·rcases hk with hk|hk;· exact .inr (hi.nlt j k bq (h2 k hk).1).2.1
  · exact hi.fnew k hk
 ·by_cases e:i=j
  ·subst e;rw[List.getElem?_set_self bq]at bj;cases bj;simpa using fb
  ·rw[List.getElem?_set_ne (Ne.symm e)]at bj;simp only[if_neg e];exact φ.opgood (λ_ h=>h) (fB.refl _ _) hF (fB.refl _ _) (hi.owns i φ bj)
 ·rw[List.length_set]at ib;by_cases e:i=j
  ·simp only[if_pos e]at hk;have hn:=hi.nlt j k bq (h1 k hk);exact⟨hn.1,hn.2.1,λU=>U.elim (λU=>(h2 k U).2 hk) hn.2.2⟩
  ·simp only[if_neg e]at hk;have hn:=hi.nlt i k ib hk;exact⟨hn.1,hn.2.1,λU=>U.elim (λU=>hi.apart i j k ib bq e hk (h2 k U).1) hn.2.2⟩
 ·rw[List.length_set]at ib TT;by_cases e:i=j<;>by_cases e':i'=j;· exact db (e.trans e'.symm)
  ·simp only[if_pos e]at hk;simp only[if_neg e']at dy;exact hi.apart j i' k bq TT (Ne.symm e') (h1 k hk) dy
  ·simp only[if_neg e]at hk;simp only[if_pos e']at dy;exact hi.apart i j k ib bq e hk (h1 k dy)
  ·simp only[if_neg e]at hk;simp only[if_neg e']at dy;exact hi.apart i i' k ib TT db hk dy
theorem Qj.treeLen {e sz m c:Nat} {p:Option Addr} {xs:List α} (h:Qj C Φ H w)(j:Nat)(U:H[j]? =some (x8 T e sz (.slice p m c) xs)):m=xs.length/\(0<xs.length->∃g,p=some ⟨g,0,none⟩):=by
 obtain⟨zs,h0,h1⟩:=h.treeOut j U;have bq:=(List.getElem?_eq_some_iff.1 U).1;have h2:=Sa h1 (k:=j+1) (e:=e) (sz:=sz) (R:=T.pair) (p:=p) (m:=m) (cp:=c) (l:=zs) (by simp[List.getElem?_set_self bq]);have h3:zs.length=xs.length:=by rw[<-h0];simp
 rw[<-h3];exact h2
end
section
variable {α Λ:Type} {T:G6 α Λ} {R:eO α} {e sz m c:Nat} {p:Option Addr} {xs:List α} {A F G:eh} {w:World}
theorem Uw (h:(Fact.own e sz R (.slice p m c) xs).op A F w)(U:∀q,A q->G q)(hF:∀q,F q->G q):(Fact.sli sz R p c xs).p G w:=qM (Fact.opgood _ U (fB.refl _ _) hF (fB.refl _ _) h)
theorem Ob:(Fact.own e sz R (.slice none 0 0) []).op (λ_=>False) F w:=⟨λk hk=>(by cases hk),lW.nil⟩
theorem Kh:(x8 T e sz (.slice none 0 0) []).op (λ_=>False) F w:=⟨[],λ_=>False,λ_=>False,rfl,λ_ h=>h,λ_ h=>h.elim,Ob,λ_ _=>False,λ_ _ h=>h,λ_ _ _ _ h=>h.elim,λi z U=>by simp at U⟩
theorem Kt {zs U:List (α×Λ)} {us:List α} (hz:zs.map (·.1)=xs)(hy:U.map (·.1)=us):(zs++U).map (·.1)=xs++us:=by subst hz;subst hy;simp
theorem tt {zs:List (α×Λ)} (U:zs.map (·.1)=xs):zs.length=xs.length:=by subst U;simp
end
section
variable {C:Ctx} {Φ H:List Fact} {w:World} {α Λ:Type} {T:G6 α Λ} {zs:List (α×Λ)} {e sz:Nat} {v:Value}
theorem Qj.treeNil (T:G6 α Λ)(e sz:Nat)(h:Qj C Φ H w):Qj C Φ (x8 T e sz (.slice none 0 0) []::H) w:=by
 obtain⟨F,N,hi⟩:=h;exact⟨F,_,hi.push (x8 T e sz (.slice none 0 0) []) (λ_=>False) Kh (λk hk=>hk.elim) (λ_ k _ hk=>hk.elim)⟩
end
section rules
variable {P:Program} {C:Ctx} {n:FD} {Q:Exit->Act->World->Prop} {Φ Φ':List Fact} {H H':List Fact} {S S':List (Nat×Value)} {ops:Array Oper} {rest:List Oper} {o:Oper} {d:Nat} {c:Code} {e:Exit}
theorem uA (H':List Fact)(hs:∀w,Qj C Φ H w->Qj C Φ H' w)(next:WL P C n Q Φ H' S ops rest):WL P C n Q Φ H S ops rest:=λa w U hw=>next a w U (hs w hw)
theorem a0s (H':List Fact)(hs:∀w,Qj C Φ H w->Qj C Φ H' w)(next:WC P C n Q Φ H' S c):WC P C n Q Φ H S c:=λa w U hw=>next a w U (hs w hw)
variable {α Λ:Type} {T:G6 α Λ} {et sz:Nat} {v:Value} {xs:List α}
theorem E6 (j:Nat)(hj:H[j]? =some (x8 T et sz v xs))(next:∀zs,zs.map (·.1)=xs->WL P C n Q Φ (uF T zs none::H.set j (.own et sz T.pair v zs)) S ops rest):WL P C n Q Φ H S ops rest:=λa w hf hw=>by
 obtain⟨zs,U,h1⟩:=hw.treeOut j hj;exact next zs U a w hf h1
theorem E5 {p:Option Addr} {m cp:Nat} (j:Nat)(U:H[j]? =some (x8 T et sz (.slice p m cp) xs))(next:m=xs.length->(0<xs.length->∃g,p=some ⟨g,0,none⟩)->WL P C n Q Φ H S ops rest):WL P C n Q Φ H S ops rest:=λa w hf hw=>next (hw.treeLen j U).1 (hw.treeLen j U).2 a w hf hw
end rules
end
section
open Go Go.RowKit
section rules
variable {P:Program} {C:Ctx} {n:FD} {Q:Exit->Act->World->Prop} {Φ Φ':List Fact} {H H':List Fact} {S S':List (Nat×Value)} {ops:Array Oper} {rest:List Oper} {o:Oper} {d:Nat}
variable {κ α:Type} [DecidableEq κ] {k:TypeId} {K:rI P k κ} {ag:Bool} {R:eO α} {b g:Nat} {es:List (κ×α)}
theorem KL {w:World} {b:Nat} {o:Obj} (h:w.heap[b]? =some o):{w with heap:=w.heap.setIfInBounds b o}=w:=by
 have:w.heap.setIfInBounds b o=w.heap:=by
  apply Array.ext_getElem?;intro q;rw[Array.getElem?_setIfInBounds];split
  ·rename_i e;subst e;split;· exact h.symm
   ·rename_i U;exact absurd (Array.getElem?_eq_some_iff.1 h).1 U
  · rfl
 rw[this]
theorem Kj {β:Type} {l:List β} (h:l.Nodup) {i j:Nat} {a:β} (hi:l[i]? =some a)(hj:l[j]? =some a):i=j:=by
 obtain⟨h1,U⟩:=List.getElem?_eq_some_iff.1 hi;obtain⟨h3,h4⟩:=List.getElem?_eq_some_iff.1 hj;exact(List.getElem_inj h).1 (U.trans h4.symm)
end rules
end
section
open Go Go.RowKit
abbrev WM (R:Type):=(R->Prop)->Prop
section
variable {A B R S:Type}
def eG (r:R):WM R:=λQ=>Q r
def IH:WM R:=λ_=>False
def eH (m:WM A)(k:A->WM R):WM R:=λQ=>m (λa=>k a Q)
def Qu (o:Option A)(k:A->WM R):WM R:=λQ=>∃a,o=some a/\k a Q
def eU (c:Prop)(k:WM R):WM R:=λQ=>c/\k Q
def kA (k:A->WM R):WM R:=λQ=>∀a,k a Q
def gR (x:A)(k:A->WM R):WM R:=λQ=>∀y,y=x->k y Q
def Sl (c:Prop)(k:WM R):WM R:=λQ=>c->k Q
theorem Sm {c:Prop} {k:WM R} {Q:R->Prop} (h:Sl c k Q)(U:c):k Q:=h U
def fj (b:Bool)(x y:WM R):WM R:=λQ=>(b=true->x Q)/\(b=false->y Q)
def yd (o:Option A)(x:WM R)(k:A->WM R):WM R:=λQ=>(o=none->x Q)/\(∀a,o=some a->k a Q)
def ke (f:A->WM R)(g:(A->WM R)->WM R):WM R:=g f
def j6 (f:(S->WM R)->S->WM R):Nat->S->WM R
 |0,_,_=>False
 |n+1,s,Q=>f (j6 f n) s Q
theorem QQ {m:WM A} {k:A->WM R} {Q:R->Prop} (h:eH m k Q):m (λa=>k a Q):=h
theorem Ht {o:Option A} {k:A->WM R} {Q:R->Prop} (h:Qu o k Q):∃a,o=some a/\k a Q:=h
theorem vx {c:Prop} {k:WM R} {Q:R->Prop} (h:eU c k Q):c/\k Q:=h
theorem uw {k:A->WM R} {Q:R->Prop} (h:kA k Q)(a:A):k a Q:=h a
theorem gj {b:Bool} {x y:WM R} {Q:R->Prop} (h:fj b x y Q)(e:b=true):x Q:=h.1 e
theorem gh {b:Bool} {x y:WM R} {Q:R->Prop} (h:fj b x y Q)(e:b=false):y Q:=h.2 e
theorem oO {o:Option A} {x:WM R} {k:A->WM R} {Q:R->Prop} (h:yd o x k Q):(o=none/\x Q)\/∃a,o=some a/\k a Q:=by
 cases o with
 |none=>exact .inl ⟨rfl,h.1 rfl⟩
 |some a=>exact .inr ⟨a,rfl,h.2 a rfl⟩
theorem r8 {f:(S->WM R)->S->WM R} {n:Nat} {s:S} {Q:R->Prop} (h:j6 f n s Q):∃m U,n=m+1/\U=j6 f m/\f U s Q:=by
 cases n with
 |zero=>exact h.elim
 |succ m=>exact⟨m,_,rfl,rfl,h⟩
theorem wX {f:(S->WM R)->S->WM R} {Q:R->Prop} (I:S->Prop)(μ:S->Nat)
   (h:∀s ag,I s->(∀s',I s'->μ s'<μ s->ag s' Q)->f ag s Q):∀N s,I s->μ s<N->j6 f N s Q:=by
 intro N;induction N with
 |zero=>intro s _ U;exact absurd U (Nat.not_lt_zero _)
 | succ n ih=>
   intro s hs U;exact h s _ hs λs' EV hl=>ih s' EV (Nat.lt_of_lt_of_le hl (Nat.le_of_lt_succ U))
end
end
section
open Go Go.RowKit
structure MS (κ α:Type) where
 es:List (κ×α×Nat)
 clock:Nat
section
variable {κ α:Type} [DecidableEq κ]
def MS.keys (m:MS κ α):List κ:=m.es.map (·.1)
def MS.nil:MS κ α:=⟨[],0⟩
def MS.look (m:MS κ α)(x:κ):Option α:=(fW x m.es).map (·.1)
def MS.put (m:MS κ α)(x:κ)(a:α):MS κ α:=match fW x m.es with
 |some y=>⟨ju x (a,y.2) m.es,m.clock⟩
 |none=>⟨m.es++[(x,a,m.clock)],m.clock+1⟩
def MS.del (m:MS κ α)(x:κ):MS κ α:=⟨m.es.filter (λy=>!decide (y.1=x)),m.clock⟩
def jw {R:Type} (m:MS κ α)(done:List κ)(x:WM R)(k:κ->WM R):WM R:=λQ=>((∀y∈m.keys,y∈done)->x Q)/\(∀y,y∈m.keys->y∉done->k y Q)
theorem vt {x:κ} {b:α}:∀{l:List (κ×α)} {i:Nat},(l.map (·.1)).Nodup->l[i]? =some (x,b)->l.filter (λy=> !decide (y.1=x))=l.eraseIdx i
 |[],i,_,h=>by simp at h
 | y::l,0,U,h=>by
   simp only[List.getElem?_cons_zero,Option.some.injEq]at h;subst h;simp only[List.map_cons,List.nodup_cons]at U;rw[List.filter_cons_of_neg ax,List.eraseIdx_cons_zero];refine List.filter_eq_self.2 λz hz=>?_
   have:z.1≠x:=λe=>U.1 (List.mem_map.2 ⟨z,hz,e⟩);simp[this]
 | y::l,i+1,U,h=>by
   simp only[List.getElem?_cons_succ]at h;simp only[List.map_cons,List.nodup_cons]at U;have db:¬y.1=x:=λe=>U.1 (List.mem_map.2 ⟨_,List.mem_of_getElem? h,e.symm⟩)
   rw[List.filter_cons_of_pos (by simp[db]),List.eraseIdx_cons_succ,vt U.2 h]
theorem filter_none {x:κ} {l:List (κ×α)} (h:x∉l.map (·.1)):l.filter (λy=>!decide (y.1=x))=l:=
 List.filter_eq_self.2 λz U=>by
  have:z.1≠x:=λe=>h (List.mem_map.2 ⟨z,U,e⟩);simp[this]
end
structure uq (P:Program) (k:TypeId) (κ:Type) where
 enc:κ->Value
 ok:κ->Prop
 dom:κ->World->Prop
 check:∀{x},ok x->∀b w,(Instr.checkKey b 10000 k (enc x)).run P w=.ok () w
 find:∀{x},ok x->∀(es:List MapEntry) (ks:List κ),es.map (·.key)=ks.map enc->(∀y∈ks,ok y)->∀w,dom x w->(∀y∈ks,dom y w)->∃r,(Instr.findKey k (enc x) es).run P w=.ok r w/\((r=none/\x∉ks)\/∃(i:Nat) (e:MapEntry),r=some (i,e.val)/\es[i]? =some e/\ks[i]? =some x)
 stays:∀{x},ok x->∀w,(Instr.keyThatStays (enc x) (enc x)).run P w=.ok (enc x) w
def rI.X {P:Program} {k:TypeId} {κ:Type} (K:rI P k κ):uq P k κ:=
 ⟨K.enc,K.ok,λ_ _=>True,K.check,λU es ks h hk w _ _=>K.find U es ks h hk w,K.stays⟩
def kD (w:World)(a:Nat):Prop:=∃c t,w.heap[a]? =some (.cells c t)
theorem SF {P:Program} {k e i:Nat} (hk:P.underlying k=some (.pointer e))(hs:QP P e=some (i+1)) {w:World} {x y:Nat} (U:kD w x)(hy:kD w y):
  (Op.equal k (.pointer (some ⟨x,0,none⟩)) (.pointer (some ⟨y,0,none⟩))).run P w=.ok (decide (x=y)) w:=by
 obtain⟨c,t,U⟩:=U;obtain⟨c',t',hy⟩:=hy;unfold Op.equal;rw[show Op.maxDepth=9999+1 from rfl,Op.equalIn];simp only[Sem.run_bind,run_underlying hk,Result.andThen_ok,yM hs w];simp only[Nat.succ_ne_zero,ne_eq,not_false_eq_true,if_true];by_cases h:x=y;· subst h;simp[run_sameAddr_same]
 · rw[run_sameAddr_other w (a:=⟨x,0,none⟩) (b:=⟨y,0,none⟩) (λe=>h (congrArg Addr.block e)) U hy];simp[h]
theorem Ey {P:Program} {k e i:Nat} (hk:P.underlying k=some (.pointer e))(hs:QP P e=some (i+1)) {w:World} {x:Nat} (hx:kD w x):∀(es:List MapEntry)(ks:List Nat)(j:Nat),es.map (·.key)=ks.map (λy=>Value.pointer (some ⟨y,0,none⟩))->(∀y∈ks,kD w y)->
   ∃r,(Instr.findAsking k (.pointer (some ⟨x,0,none⟩)) es j).run P w=.ok r w/\((r=none/\x∉ks)\/∃(q:Nat) (e:MapEntry),r=some (j+q,e.val)/\es[q]? =some e/\ks[q]? =some x)
 |[],[],j,_,_=>⟨none,by simp[Instr.findAsking],.inl ⟨rfl,ax⟩⟩
 |[],_::_,_,h,_=>by cases h
 |_::_,[],_,h,_=>by cases h
 | e::es,y::ks,j,h,hd=>by
   simp only[List.map_cons,List.cons.injEq]at h;obtain⟨h1,h2⟩:=h;have h3:=SF hk hs hx (hd y ax);by_cases U:x=y
   ·subst U;exact⟨some (j,e.val),by simp[Instr.findAsking,h1,h3],.inr ⟨0,e,rfl,rfl,rfl⟩⟩
   ·obtain⟨r,q1,q2⟩:=Ey hk hs hx es ks (j+1) h2 (λz hz=>hd z (by simp[hz]));refine⟨r,by simp[Instr.findAsking,h1,h3,U,q1],?_⟩;rcases q2 with⟨rfl,q2⟩|⟨q,e',rfl,q3,q4⟩
    · exact .inl ⟨rfl,by simp[U,q2]⟩
    · exact .inr ⟨q+1,e',by rw[Nat.add_assoc,Nat.add_comm 1 q],q3,q4⟩
def Uk {P:Program} {k e i:Nat} (hk:P.underlying k=some (.pointer e))(hs:QP P e=some (i+1)):uq P k Nat where
 enc x:=.pointer (some ⟨x,0,none⟩)
 ok _:=True
 dom x w:=kD w x
 check:=λ_ b w=>oq hk trivial b 9999 w
 find:=λ{x} _ es ks h _ w hx hd=>by
  obtain⟨r,U,q2⟩:=Ey hk hs hx es ks 0 h hd;refine⟨r,?_,?_⟩
  ·unfold Instr.findKey;simp only[Sem.run_bind,run_underlying hk,Result.andThen_ok];cases es with
   | nil=>cases ks with
     |nil=>simp only[Instr.findNow];simpa[Instr.findAsking]using U
     |cons y ks=>cases h
   | cons e1 es=>
     cases ks with
     |nil=>cases h
     | cons y ks=>
       simp only[List.map_cons,List.cons.injEq]at h;have:Instr.findNow (.pointer e) (.pointer (some ⟨x,0,none⟩)) (e1::es) 0=none:=by simp[Instr.findNow,h.1,Instr.sameNow]
       rw[this];exact U
  · simp only[Nat.zero_add]at q2;exact q2
 stays:=λ_ w=>tJ (by unfold Instr.sameBits;simp) w
def gB {κ α:Type} {P:Program} {k:TypeId} (K:uq P k κ)(ag:Bool)(R:eO α)(N F:eh)(b:Nat)(m:MS κ α)(w:World):Prop:=
 N b/\∃E:Array MapEntry,w.heap[b]? =some (.map E m.clock)/\E.toList.map (·.key)=m.es.map (λx=>K.enc x.1)/\
   (∀(i:Nat) (e:MapEntry) (x:κ×α×Nat),E.toList[i]? =some e->m.es[i]? =some x->∃cs,ku ag cs=some e.val/\R.p F w cs x.2.1)/\
   (m.es.map (·.1)).Nodup/\(∀x∈m.es,K.ok x.1)/\E.toList.map (·.born)=m.es.map (·.2.2)/\(m.es.map (·.2.2)).Nodup/\∀x∈m.es,x.2.2<m.clock
theorem gB.good {κ α:Type} {P:Program} {k:TypeId} {K:uq P k κ} {ag:Bool} {R:eO α} {b:Nat} {m:MS κ α} {N N' F G:eh} {w U:World} (hN:∀k,N k->N' k)(ha:fB N w U)(hF:∀k,F k->G k)(hb:fB F w U)(h:gB K ag R N F b m w):gB K ag R N' G b m U:=by
 obtain⟨h1,E,h2,h3,h4,h5⟩:=h;refine⟨hN _ h1,E,(ha b h1).trans h2,h3,λi e x hi hx=>?_,h5⟩;obtain⟨cs,q1,q2⟩:=h4 i e x hi hx;exact⟨cs,q1,R.good hF hb q2⟩
def QE {κ α:Type} {P:Program} {k:TypeId} (K:uq P k κ)(ag:Bool)(R:eO α)(b:Nat)(m:MS κ α):Fact:=.duo (λN F w=>gB K ag R N F b m w) gB.good
def Rx {κ α:Type} (m:MS κ α)(g b:Nat)(done:List κ)(last:Option κ)(N:eh)(w:World):Prop:=
 N g/\∃seen:Array Nat,w.heap[g]? =some (.mapIter (some b) m.clock seen m.clock)/\(∀x∈m.es,x.1∈done↔seen.contains x.2.2=true)/\∀k,last=some k->∃(a:α) (t:Nat) (U:Array Nat),(k,a,t)∈m.es/\seen=U.push t
theorem Rx.good {κ α:Type} {m:MS κ α} {g b:Nat} {done:List κ} {last:Option κ} {N U:eh} {w w':World} (hN:∀k,N k->U k)(ha:fB N w w')(h:Rx m g b done last N w):Rx m g b done last U w':=by
 obtain⟨h1,seen,h2,h3⟩:=h;exact⟨hN _ h1,seen,(ha g h1).trans h2,h3⟩
def dw {κ α:Type} (m:MS κ α)(g b:Nat)(done:List κ)(last:Option κ):Fact:=.duo (λN _ w=>Rx m g b done last N w) (λU ha _ _ h=>h.good U ha)
section rules
variable {P:Program} {C:Ctx} {n:FD} {Q:Exit->Act->World->Prop} {Φ Φ':List Fact} {H H':List Fact} {S S':List (Nat×Value)} {ops:Array Oper} {rest:List Oper} {o:Oper} {d:Nat}
variable {κ α:Type} [DecidableEq κ] {k:TypeId} {K:uq P k κ} {ag:Bool} {R:eO α} {b g:Nat} {m:MS κ α}
omit [DecidableEq κ] in
theorem P6 {t:Nat} (K:uq P k κ)(ag:Bool)(R:eO α)(hg:QI ops S o=some true)(hd:o.dst=some d)(U:Nat.blt d n=true)(hS:eL d S=S')(ho:o.op=.makeMap t none)
  (next:∀g,WL P C n Q Φ (QE K ag R g ⟨[],0⟩::H) ((d,.map (some g))::S') ops rest):WL P C n Q Φ H S ops (o::rest):=
 C2 hg hd U hS λa w hf hw=>⟨.map (some w.heap.size),w.alloc (.map #[] 0),(by simp[execOp,ho,run_makeMap]),Φ,QE K ag R w.heap.size ⟨[],0⟩::H,by
  obtain⟨F,N,hi⟩:=hw;have hb:Below w.heap.size w (w.alloc (.map #[] 0)):=(Below.refl _ _).alloc (Nat.le_refl _) _;refine⟨F,si (λk=>k=w.heap.size) N,(hi.grow hb).push _ _ ⟨rfl,#[],heap_alloc_new w _,rfl,λi e x hi=>by simp at hi,ax,ax,ax,ax,ax⟩ ?_ ?_⟩
  ·rintro k rfl;exact⟨ax,.inl hi.mod.size,λhf=>Nat.lt_irrefl _ (hi.flt _ hf)⟩
  ·rintro i k hl rfl U;exact Nat.lt_irrefl _ (hi.nlt i _ hl U).1,next _⟩
theorem gB.find {N F:eh} {w:World} (h:gB K ag R N F b m w) {x:κ} (hx:K.ok x)(hd:∀y,y=x\/y∈m.keys->K.dom y w):∃E:Array MapEntry,w.heap[b]? =some (.map E m.clock)/\(Instr.checkKey E.isEmpty 10000 k (K.enc x)).run P w=.ok () w/\
  (((Instr.findKey k (K.enc x) E.toList).run P w=.ok none w/\fW x m.es=none/\x∉m.es.map (·.1))\/
    ∃(i:Nat) (e:MapEntry) (a:α×Nat) (cs:List Value),(Instr.findKey k (K.enc x) E.toList).run P w=.ok (some (i,e.val)) w/\E.toList[i]? =some e/\m.es[i]? =some (x,a)/\fW x m.es=some a/\ku ag cs=some e.val/\R.p F w cs a.1):=by
 obtain⟨_,E,h2,h3,h4,h5,h6,_⟩:=h;refine⟨E,h2,K.check hx _ _,?_⟩;have Jz:E.toList.map (·.key)=(m.es.map (·.1)).map K.enc:=by rw[h3,List.map_map];rfl
 obtain⟨r,q1,U⟩:=K.find hx E.toList m.keys Jz (λy hy=>by obtain⟨z,hz,rfl⟩:=List.mem_map.1 hy;exact h6 z hz) w (hd x (.inl rfl)) (λy hy=>hd y (.inr hy));rcases U with⟨rfl,U⟩|⟨i,e,rfl,U,q3⟩
 · exact .inl ⟨q1,lx U,U⟩
 ·right;rw[show m.keys=m.es.map (·.1)from rfl,List.getElem?_map]at q3;cases JK:m.es[i]? with
  |none=>rw[JK]at q3;cases q3
  | some y=>
    rw[JK]at q3;simp only[Option.map_some,Option.some.injEq]at q3;obtain⟨y1,y2⟩:=y;simp only at q3;subst q3;obtain⟨cs,p1,p2⟩:=h4 i e _ U JK;exact⟨i,e,y2,cs,q1,U,JK,mX h5 JK,p1,p2⟩
theorem MS.look_none {x:κ} (h:m.look x=none):fW x m.es=none:=by
 unfold MS.look at h;cases hx:fW x m.es with
 |none=>rfl
 |some y=>rw[hx]at h;cases h
theorem MS.look_some {x:κ} {a:α} (h:m.look x=some a):∃t,fW x m.es=some (a,t):=by
 unfold MS.look at h;cases hx:fW x m.es with
 |none=>rw[hx]at h;cases h
 |some y=>rw[hx]at h;cases h;exact⟨y.2,rfl⟩
theorem RW {t e:Nat} {x y:Operand} {i:κ} {z v:Value} {c:Bool} (j:Nat)(hg:QI ops S o=some true)(hd:o.dst=some d)(hn:Nat.blt d n=true)(hS:eL d S=S')(ho:o.op=.lookup t x y c)
  (bj:H[j]? =some (QE K ag R b m)) (hx:de S x=some (.map (some b))) (hy:de S y=some (K.enc i)) (hz:gW P e=some z) (ht:P.underlying t=some (.map k e)) (hi:K.ok i) (Mg:∀w,Qj C Φ H w->∀y,y=i\/y∈m.keys->K.dom y w) (hm:m.look i=none)
  (hv:(if c then .tuple #[z,.bool false]else z)=v) (next:WL P C n Q Φ H ((d,v)::S') ops rest):WL P C n Q Φ H S ops (o::rest):=by
 refine HF hg hd hn hS (λa w hf hw=>?_) next
 obtain⟨F,N,eo⟩:=hw;have h0:gB K ag R (N j) F b m w:=eo.owns j _ bj;obtain⟨E,h1,h2,U⟩:=h0.find hi (Mg w ⟨F,N,eo⟩)
 have:(Instr.lookup t (.map (some b)) (K.enc i) c).run P w=.ok (if c then .tuple #[z,.bool false]else z) w:=by
  rcases U with⟨U,_,_⟩|⟨i,e',a,cs,_,_,_,U,_⟩
  · simp only[Instr.lookup,Sem.run_bind,run_underlying ht,Result.andThen,MD h1,Sem.run_pure,h2,U,W3 hz w]
  · rw[MS.look_none hm]at U;cases U
 rw[hv]at this;simp[execOp,ho,hf.eval hx,hf.eval hy,this]
theorem RT {t e:Nat} {x y:Operand} {i:κ} {a:α} {Λ:Type} {cells:α->Λ->List Value} {pure:α->Λ->Prop} {facts:α->Λ->List Fact} {c:Bool} {v u:Λ->Value} (op:qg R cells pure facts)(j:Nat)(hg:QI ops S o=some true)(hd:o.dst=some d)(hn:Nat.blt d n=true)(hS:eL d S=S')(ho:o.op=.lookup t x y c)
  (bj:H[j]? =some (QE K ag R b m)) (hx:de S x=some (.map (some b))) (hy:de S y=some (K.enc i)) (ht:P.underlying t=some (.map k e)) (hi:K.ok i) (Mg:∀w,Qj C Φ H w->∀y,y=i\/y∈m.keys->K.dom y w) (hm:m.look i=some a)
  (hu:∀r,ku ag (cells a r)=some (u r)) (hv:∀r,(if c then .tuple #[u r,.bool true]else u r)=v r) (next:∀r,pure a r->WL P C n Q (facts a r++Φ) H ((d,v r)::S') ops rest):WL P C n Q Φ H S ops (o::rest):=by
 refine C2 hg hd hn hS λac w hf hw=>?_;obtain⟨F,N,eo⟩:=hw;have h0:gB K ag R (N j) F b m w:=eo.owns j _ bj;obtain⟨t0,hm⟩:=MS.look_some hm
 obtain ⟨v0,cs,h1,h2,h3⟩:∃v cs,(Instr.lookup t (.map (some b)) (K.enc i) c).run P w=.ok (if c then .tuple #[v,.bool true]else v) w/\ku ag cs=some v/\R.p F w cs a:=by
  obtain⟨E,g1,g2,g3⟩:=h0.find hi (Mg w ⟨F,N,eo⟩);rcases g3 with⟨_,g3,_⟩|⟨i',e',a',cs,g3,_,_,g4,g5,g6⟩
  · rw[hm]at g3;cases g3
  ·rw[hm]at g4;cases g4;exact⟨e'.val,cs,by simp only[Instr.lookup,Sem.run_bind,run_underlying ht,Result.andThen,MD g1,Sem.run_pure,g2,g3],g5,g6⟩
 obtain⟨r,q1,q2,q3⟩:=op F w cs a h3;subst q1;rw[hu r]at h2;cases h2;rw[hv r]at h1;refine⟨v r,w,?_,facts a r++Φ,H,⟨F,N,{eo with facts:=λφ U=>?_}⟩,next r q2⟩;· simp[execOp,ho,hf.eval hx,hf.eval hy,h1]
 ·rcases List.mem_append.1 U with U|U;· exact q3 φ U
  · exact eo.facts φ U
theorem gB.put {N F:eh} {w:World} {t e:TypeId} {x:κ} {u:α} {cs:List Value} {v:Value} (h:gB K ag R N F b m w)(hx:K.ok x)(hd:∀y,y=x\/y∈m.keys->K.dom y w)(ht:P.underlying t=some (.map k e))(hv:ku ag cs=some v):
  ∃w',(Instr.mapUpdate t (.map (some b)) (K.enc x) v).run P w=.ok () w'/\Mod N w w'/\(R.p F w' cs u->(∀cs y,R.p F w cs y->R.p F w' cs y)->gB K ag R N F b (m.put x u) w'):=by
 obtain⟨hN,E,h2,h3,h4,h5,h6,h7,h8,h9⟩:=id h;obtain⟨E',g1,g2,g3⟩:=h.find hx hd;rw[h2]at g1;cases g1
 have eR:∀r,(Instr.findKey k (K.enc x) E.toList).run P w=.ok r w->(Instr.mapUpdate t (.map (some b)) (K.enc x) v).run P w=((match r with
   | some (i,_)=>do
     let key <-Instr.keyThatStays (((E[i]?).map (·.key)).getD (K.enc x)) (K.enc x)
     setObj b (.map (E.modify i λe=>{e with key,val:=v}) m.clock)
   |none=>setObj b (.map (E.push {key:=K.enc x,val:=v,born:=m.clock}) (m.clock+1)):Sem Unit)).run P w:=λr hr=>by
  unfold Instr.mapUpdate;simp only[Sem.run_bind,run_underlying ht,Result.andThen,MD h2,K.check hx,hr];rcases r with _|⟨_,_⟩<;>rfl
 have bq:=(Array.getElem?_eq_some_iff.1 h2).1;rcases g3 with⟨q1,q2,U⟩|⟨i,e',a,yU,q1,q2,U,q4,q5,q6⟩
 ·refine ⟨_,(eR _ q1).trans (W1 _ h2),World.set_mod h2 hN,λhu hold=>?_⟩;have GB:m.put x u=⟨m.es++[(x,u,m.clock)],m.clock+1⟩:=by unfold MS.put;rw[q2]
  rw[GB];refine⟨hN,E.push {key:=K.enc x,val:=v,born:=m.clock},by simp[Array.getElem?_setIfInBounds,bq],?_⟩;have hl:E.toList.length=m.es.length:=by simpa using congrArg List.length h3
  refine⟨by simp[h3],λq e y he hy=>?_,?_,λy hy=>?_,by simp[h7],?_,λy hy=>?_⟩
  ·simp only[Array.toList_push]at he;simp only at hy;rcases Nat.lt_or_ge q m.es.length with hq|hq
   · rw[List.getElem?_append_left an]at he;rw[List.getElem?_append_left hq]at hy;obtain⟨IF,p1,p2⟩:=h4 q e y he hy;exact⟨IF,p1,hold _ _ p2⟩
   · rw[List.getElem?_append_right an,hl]at he;rw[List.getElem?_append_right hq]at hy
     have:q-m.es.length=0:=by
      have:=(List.getElem?_eq_some_iff.1 hy).1;simp at this;omega
     rw[this]at he hy;simp at he hy;subst he;subst hy;exact⟨cs,hv,hu⟩
  ·simp only[List.map_append];refine List.nodup_append.2 ⟨h5,ax,λa ha b' kG e=>?_⟩;simp at kG;subst kG;subst e;exact U ha
  ·simp only at hy;rcases List.mem_append.1 hy with hy|hy;· exact h6 y hy
   · simp at hy;subst hy;exact hx
  ·simp only[List.map_append];refine List.nodup_append.2 ⟨h8,ax,λa ha b' kG e=>?_⟩;obtain⟨e0,he0,rfl⟩:=List.mem_map.1 ha;simp at kG;have:=h9 e0 he0;omega
  ·simp only at hy⊢;rcases List.mem_append.1 hy with hy|hy;· have:=h9 y hy;omega
   · simp at hy;subst hy;simp
 ·have hk:(((E[i]?).map (·.key)).getD (K.enc x))=K.enc x:=by
   have e1:(E.toList.map (·.key))[i]? =some e'.key:=by rw[List.getElem?_map,q2];rfl
   rw[h3,List.getElem?_map,U]at e1;simp only[Option.map_some,Option.some.injEq]at e1;have e2:E[i]? =some e':=by simpa using q2
   rw[e2];exact e1.symm
  refine ⟨_,(eR _ q1).trans (by
   simp only[hk,Sem.run_bind,K.stays hx,Result.andThen];exact W1 _ h2),World.set_mod h2 hN,λhu hold=>?_⟩
  have GB:m.put x u=⟨m.es.set i (x,u,a.2),m.clock⟩:=by unfold MS.put;rw[q4];simp only;rw[yb h5 U]
  rw[GB];refine⟨hN,E.modify i λe=>{e with key:=K.enc x,val:=v},by simp[Array.getElem?_setIfInBounds,bq],?_⟩;rw[pN q2];have HN:(m.es.set i (x,u,a.2)).map (·.1)=m.es.map (·.1):=by rw[List.map_set];exact Pk (by simp[U])
  have Wq:(m.es.set i (x,u,a.2)).map (·.2.2)=m.es.map (·.2.2):=by rw[List.map_set];exact Pk (by simp[U])
  refine⟨?_,λq e y he hy=>?_,by simp only[HN];exact h5,λy hy=>?_,?_,by simp only[Wq];exact h8,λy hy=>?_⟩;· simp only[List.map_set,h3]
  ·simp only at hy;rw[List.getElem?_set]at he hy;by_cases hq:i=q
   · subst hq;rw[if_pos rfl]at he hy;rw[if_pos (List.getElem?_eq_some_iff.1 q2).1]at he;rw[if_pos (List.getElem?_eq_some_iff.1 U).1]at hy;cases he;cases hy;exact⟨cs,hv,hu⟩
   · rw[if_neg hq]at he hy;obtain⟨IF,p1,p2⟩:=h4 q e y he hy;exact⟨IF,p1,hold _ _ p2⟩
  ·simp only at hy;rcases List.mem_or_eq_of_mem_set hy with hy|rfl;· exact h6 y hy
   · exact hx
  ·simp only[Wq];rw[<-h7,List.map_set];exact Pk (by rw[List.getElem?_map,q2];rfl)
  ·simp only at hy⊢;rcases List.mem_or_eq_of_mem_set hy with hy|rfl;· exact h9 y hy
   · exact h9 (x,a) (List.mem_of_getElem? U)
theorem MA {t e:Nat} {x y z:Operand} {i:κ} {u:α} {cs:List Value} {v:Value} (j:Nat)(hg:QI ops S o=some true)(hd:o.dst=none)(ho:o.op=.mapUpdate t x y z\/o.op=.insert t x y z)
  (bj:H[j]? =some (QE K ag R b m)) (hx:de S x=some (.map (some b))) (hy:de S y=some (K.enc i)) (hz:de S z=some v) (ht:P.underlying t=some (.map k e)) (hi:K.ok i) (Mg:∀w,Qj C Φ H w->∀y,y=i\/y∈m.keys->K.dom y w) (hv:ku ag cs=some v)
  (hr:∀F w,(∀ψ∈Φ,ψ.p F w)->R.p F w cs u) (hH:H.set j (QE K ag R b (m.put i u))=H') (next:WL P C n Q Φ H' S ops rest):WL P C n Q Φ H S ops (o::rest):=by
 refine FL (Φ':=Φ) hg hd (λa w hf hw=>?_) next
 obtain⟨F,N,U⟩:=hw;have bq:=(List.getElem?_eq_some_iff.1 bj).1;have h0:gB K ag R (N j) F b m w:=U.owns j _ bj;obtain⟨w',r1,r2,r3⟩:=h0.put (u:=u) hi (Mg w ⟨F,N,U⟩) ht hv;refine⟨w',by rcases ho with ho|ho<;>simp[execOp,ho,hf.eval hx,hf.eval hy,hf.eval hz,r1],?_⟩;subst hH;have fa:fB F w w':=λq hq=>r2.block q (U.flt q hq) (λhn=>(U.nlt j q bq hn).2.2 hq);refine⟨F,N,U.set j bq r2 _ (r3 (R.good (λ_ h=>h) fa (hr F w U.facts)) (λ_ _ h=>R.good (λ_ h=>h) fa h))⟩
theorem gB.del {N F:eh} {w:World} {t e:TypeId} {x:κ} (h:gB K ag R N F b m w)(hx:K.ok x)(hd:∀y,y=x\/y∈m.keys->K.dom y w)(ht:P.underlying t=some (.map k e))(ty:TypeId):
  ∃w',(Builtin.delete_ #[t,k] ty #[.map (some b),K.enc x]).run P w=.ok (.tuple #[]) w'/\Mod N w w'/\((∀cs y,R.p F w cs y->R.p F w' cs y)->gB K ag R N F b (m.del x) w'):=by
 obtain⟨hN,E,U,h3,h4,h5,h6,h7,h8,h9⟩:=id h;obtain⟨E',g1,g2,g3⟩:=h.find hx hd;rw[U]at g1;cases g1;have bq:=(Array.getElem?_eq_some_iff.1 U).1;rcases g3 with⟨q1,q2,q3⟩|⟨i,e',a',yU,q1,q2,q3,q4,q5,q6⟩
 ·refine⟨w,?_,Mod.refl _ _,λ_=>?_⟩
  ·unfold Builtin.delete_;simp[run_underlying ht,MD U,g2,q1,W1 _ U,Result.andThen,KL U]
  have:m.del x=m:=by unfold MS.del;rw[filter_none q3]
  rw[this];exact h
 ·have hi:=(List.getElem?_eq_some_iff.1 q2).1;have hiE:i<E.size:=by simpa using hi
  have Wp:(E.eraseIdxIfInBounds i).toList=E.toList.eraseIdx i:=by
   unfold Array.eraseIdxIfInBounds;rw[dif_pos hiE];simp
  have eR:(Builtin.delete_ #[t,k] ty #[.map (some b),K.enc x]).run P w=.ok (.tuple #[]) {w with heap:=w.heap.setIfInBounds b (.map (E.eraseIdxIfInBounds i) m.clock)}:=by
   unfold Builtin.delete_;simp[run_underlying ht,MD U,g2,q1,W1 _ U]
  refine⟨_,eR,World.set_mod U hN,λhold=>?_⟩;have mF:m.del x=⟨m.es.eraseIdx i,m.clock⟩:=by unfold MS.del;rw[vt h5 q3]
  rw[mF];refine⟨hN,E.eraseIdxIfInBounds i,by simp[Array.getElem?_setIfInBounds,bq],?_⟩;rw[Wp];have NN:∀{β γ:Type} (f:β->γ) (l:List β) (j:Nat),(l.eraseIdx j).map f=(l.map f).eraseIdx j:=λf l j=>vM f l j
  refine⟨by simp only[NN,h3],λq e y he hy=>?_,?_,λy hy=>h6 y (List.mem_of_mem_eraseIdx hy),by simp only[NN,h7],?_,λy hy=>h9 y (List.mem_of_mem_eraseIdx hy)⟩
  ·simp only at hy;rw[List.getElem?_eraseIdx]at he hy;split at he<;>rename_i hq
   ·rw[if_pos hq]at hy;obtain⟨IF,p1,p2⟩:=h4 q e y he hy;exact⟨IF,p1,hold _ _ p2⟩
   ·rw[if_neg hq]at hy;obtain⟨IF,p1,p2⟩:=h4 (q+1) e y he hy;exact⟨IF,p1,hold _ _ p2⟩
  · simp only[NN];exact h5.sublist (List.eraseIdx_sublist _ _)
  · simp only[NN];exact h8.sublist (List.eraseIdx_sublist _ _)
theorem Pn {t e:Nat} {x y:Operand} {i:κ} (j:Nat)(hg:QI ops S o=some true)(hd:o.dst=none)(ho:o.op=.call {callee:=.builtin .delete,args:=#[x,y],argTypes:=#[t,k]})
  (bj:H[j]? =some (QE K ag R b m)) (hx:de S x=some (.map (some b))) (hy:de S y=some (K.enc i)) (ht:P.underlying t=some (.map k e)) (hi:K.ok i) (Mg:∀w,Qj C Φ H w->∀y,y=i\/y∈m.keys->K.dom y w)
  (hH:H.set j (QE K ag R b (m.del i))=H') (next:WL P C n Q Φ H' S ops rest):WL P C n Q Φ H S ops (o::rest):=by
 refine Vp (Φ':=Φ) hg hd (λa w hf hw=>?_) next
 obtain⟨F,N,U⟩:=hw;have bq:=(List.getElem?_eq_some_iff.1 bj).1;have h0:gB K ag R (N j) F b m w:=U.owns j _ bj;obtain⟨w',r1,r2,r3⟩:=h0.del hi (Mg w ⟨F,N,U⟩) ht o.type;refine⟨.tuple #[],w',by simp[execOp,ho,resolve,invoke,builtin,hf.eval hx,hf.eval hy,r1],?_⟩;subst hH;have fa:fB F w w':=λq hq=>r2.block q (U.flt q hq) (λhn=>(U.nlt j q bq hn).2.2 hq);exact⟨F,N,U.set j bq r2 _ (r3 (λ_ _ h=>R.good (λ_ h=>h) fa h))⟩
omit [DecidableEq κ] in
theorem FM {t e:TypeId} {x:Operand} (j:Nat)(hg:QI ops S o=some true)(hd:o.dst=some d)(hn:Nat.blt d n=true)(hS:eL d S=S')(ho:o.op=.call {callee:=.builtin .len,args:=#[x],argTypes:=#[t]})
  (bj:H[j]? =some (QE K ag R b m)) (hx:de S x=some (.map (some b))) (ht:P.underlying t=some (.map k e)) (next:WL P C n Q Φ H ((d,.int .i64 (m.es.length:Int))::S') ops rest):WL P C n Q Φ H S ops (o::rest):=by
 refine HF hg hd hn hS (λa w hf hw=>?_) next
 obtain⟨F,N,eo⟩:=hw;obtain⟨_,E,h1,U,_⟩:gB K ag R (N j) F b m w:=eo.owns j _ bj;have U:E.size=m.es.length:=by simpa using congrArg List.length U
 simp[execOp,ho,resolve,invoke,builtin,Builtin.len_,hf.eval hx,run_underlying ht,goInt,MD h1,U]
omit [DecidableEq κ] in
theorem MJ {t e:Nat} {x:Operand} (j:Nat)(hg:QI ops S o=some true)(hd:o.dst=some d)(hn:Nat.blt d n=true)(hS:eL d S=S')(ho:o.op=.range t x)
  (bj:H[j]? =some (QE K ag R b m)) (hx:de S x=some (.map (some b))) (ht:P.underlying t=some (.map k e))
  (next:∀g,WL P C n Q Φ (dw m g b [] none::H) ((d,.pointer (some ⟨g,0,none⟩))::S') ops rest):WL P C n Q Φ H S ops (o::rest):=by
 refine C2 hg hd hn hS λac w U hw=>?_;obtain⟨F,N,hi⟩:=hw;obtain⟨_,E,h2,_⟩:gB K ag R (N j) F b m w:=hi.owns j _ bj;have hb:Below w.heap.size w (w.alloc (.mapIter (some b) m.clock #[] m.clock)):=(Below.refl _ _).alloc (Nat.le_refl _) _;refine⟨.pointer (some ⟨w.heap.size,0,none⟩),w.alloc (.mapIter (some b) m.clock #[] m.clock),(by simp[execOp,ho,U.eval hx,run_range_map w t k e b E m.clock ht h2]),Φ,dw m w.heap.size b [] none::H,⟨F,si (λk=>k=w.heap.size) N,(hi.grow hb).push _ _ ⟨rfl,#[],heap_alloc_new w _,λx _=>ax,λk hk=>by cases hk⟩ ?_ ?_⟩,next _⟩
 ·rintro k rfl;exact⟨ax,.inl hi.mod.size,λU=>Nat.lt_irrefl _ (hi.flt _ U)⟩
 ·rintro i k hl rfl hn;exact Nat.lt_irrefl _ (hi.nlt i _ hl hn).1
omit [DecidableEq κ] in
theorem MQ {x:Operand} {done:List κ} {last:Option κ} (i j:Nat) (hg:QI ops S o=some true) (hd:o.dst=some d) (hn:Nat.blt d n=true) (hS:eL d S=S') (ho:o.op=.next x false)
    (NV:H[i]? =some (dw m g b done last)) (bj:H[j]? =some (QE K ag R b m)) (hx:de S x=some (.pointer (some ⟨g,0,none⟩)))
    (no:(∀y∈m.keys,y∈done)->WL P C n Q Φ H ((d,.tuple #[.bool false])::S') ops rest)
    (yes:∀y v,y∈m.keys->y∉done->WL P C n Q Φ (H.set i (dw m g b (done++[y]) (some y))) ((d,.tuple #[.bool true,K.enc y,v])::S') ops rest):WL P C n Q Φ H S ops (o::rest):=by
  refine C2 hg hd hn hS λac w hf hw=>?_;obtain⟨F,N,eo⟩:=hw;have bq:=(List.getElem?_eq_some_iff.1 NV).1;obtain⟨YY,seen,s1,s2,s3⟩:Rx m g b done last (N i) w:=eo.owns i _ NV;obtain⟨hb0,E,h2,h3,h4,h5,h6,h7,h8,h9⟩:gB K ag R (N j) F b m w:=eo.owns j _ bj;have hlen:E.toList.length=m.es.length:=by simpa using congrArg List.length h3
  have YQ:∀e∈E.toList,e.born<m.clock:=λe he=>by
    have:e.born∈m.es.map (·.2.2):=h7▸List.mem_map.2 ⟨e,he,rfl⟩;obtain⟨x,hx,ZE⟩:=List.mem_map.1 this;rw[<-ZE];exact h9 x hx
  have Mb:∀(q:Nat) (e:MapEntry) (z:κ×α×Nat),E.toList[q]? =some e->m.es[q]? =some z->e.key=K.enc z.1/\e.born=z.2.2:=λq e z he hz=>by
    have e1:(E.toList.map (·.key))[q]? =some e.key:=by rw[List.getElem?_map,he];rfl
    have e2:(E.toList.map (·.born))[q]? =some e.born:=by rw[List.getElem?_map,he];rfl
    rw[h3,List.getElem?_map,hz]at e1;rw[h7,List.getElem?_map,hz]at e2;exact⟨(Option.some.inj e1).symm,(Option.some.inj e2).symm⟩
  rcases run_next_at (P:=P) w o.type g b m.clock m.clock seen E m.clock s1 h2 YQ (Nat.le_refl _)with⟨q1,q2⟩|⟨e,he,w1,hw1,q2⟩
  · refine⟨.tuple #[.bool false],w,by simp[execOp,ho,hf.eval hx,q2],Φ,H,⟨F,N,eo⟩,no λy hy=>?_⟩;obtain⟨z,hz,rfl⟩:=List.mem_map.1 hy;obtain⟨q,hq⟩:=List.mem_iff_getElem?.1 hz;have Zk:q<E.toList.length:=by rw[hlen];exact(List.getElem?_eq_some_iff.1 hq).1
    have hs:=all_seen E seen q1 _ (List.getElem_mem Zk);rw[(Mb q _ z (List.getElem?_eq_getElem Zk) hq).2]at hs;exact(s2 z hz).2 hs
  · obtain ⟨yW,iq⟩:=mem_left he;obtain⟨q,hq⟩:=List.mem_iff_getElem?.1 yW;have PU:q<m.es.length:=by rw[<-hlen];exact(List.getElem?_eq_some_iff.1 hq).1
    have Ug:m.es[q]? =some m.es[q]:=List.getElem?_eq_getElem PU;obtain⟨qm,ND⟩:=Mb q e _ hq Ug;have A8:m.es[q]∈m.es:=List.getElem_mem PU
    have Gy:m.es[q].1∉done:=λPK=>by
      have:=(s2 _ A8).1 PK;rw[<-ND,iq]at this;cases this
    have JO:w1.heap=w.heap:=by rcases hw1 with rfl|rfl<;>rfl
    have Za:Mod (N i) w (Go.ChangeMaps.setBlock w1 g (.mapIter (some b) m.clock (seen.push e.born) m.clock)):=by
      have h0:Mod (N i) w w1:=by
        rcases hw1 with rfl|rfl;· exact Mod.refl _ _
        · exact(Mod.refl _ _).drew
      refine⟨h0.os,h0.tape,h0.output,by rw[JO.symm];simp[Go.ChangeMaps.setBlock],λp hp hnp=>?_⟩;have db:g≠p:=λe=>hnp (e▸YY);simp[Go.ChangeMaps.setBlock,Array.getElem?_setIfInBounds,db,JO]
    have hgl:g<w.heap.size:=(Array.getElem?_eq_some_iff.1 s1).1
    have hit:Rx m g b (done++[m.es[q].1]) (some m.es[q].1) (N i) (Go.ChangeMaps.setBlock w1 g (.mapIter (some b) m.clock (seen.push e.born) m.clock)):=by
      refine⟨YY,seen.push e.born,by simp[Go.ChangeMaps.setBlock,Array.getElem?_setIfInBounds,JO,hgl],λU lY=>?_,λk hk=>?_⟩
      · rw [List.mem_append,List.mem_singleton,s2 U lY]
        have a0T:U.1=m.es[q].1↔U.2.2=e.born:=by
          obtain⟨p,hp⟩:=List.mem_iff_getElem?.1 lY;constructor
          · intro hk
            have:p=q:=by
              have a1:(m.es.map (·.1))[p]? =some U.1:=by rw[List.getElem?_map,hp];rfl
              have a2:(m.es.map (·.1))[q]? =some U.1:=by rw[List.getElem?_map,Ug,hk];rfl
              exact Kj h5 a1 a2
            subst this;rw[Ug]at hp;cases hp;exact ND.symm
          · intro hb
            have:p=q:=by
              have a1:(m.es.map (·.2.2))[p]? =some U.2.2:=by rw[List.getElem?_map,hp];rfl
              have a2:(m.es.map (·.2.2))[q]? =some U.2.2:=by rw[List.getElem?_map,Ug,hb,ND];rfl
              exact Kj h8 a1 a2
            subst this;rw[Ug]at hp;cases hp;rfl
        rw[a0T];simp[Array.contains_push]
      · cases hk;exact⟨m.es[q].2.1,m.es[q].2.2,seen,A8,by rw[ND]⟩
    exact⟨.tuple #[.bool true,K.enc m.es[q].1,e.val],_,by simp[execOp,ho,hf.eval hx,q2,qm],Φ,_,⟨F,N,eo.set i bq Za (dw m g b (done++[m.es[q].1]) (some m.es[q].1)) hit⟩,yes _ e.val (List.mem_map.2 ⟨_,A8,rfl⟩) Gy⟩
theorem MH {x:Operand} {done:List κ} {y:κ} {a:α} {Λ:Type} {cells:α->Λ->List Value} {pure:α->Λ->Prop} {facts:α->Λ->List Fact} {v u:Λ->Value} (op:qg R cells pure facts)(i j:Nat)(hg:QI ops S o=some true)(hd:o.dst=some d)(hn:Nat.blt d n=true)(hS:eL d S=S')(ho:o.op=.entry x)
  (NV:H[i]? =some (dw m g b done (some y))) (bj:H[j]? =some (QE K ag R b m)) (hx:de S x=some (.pointer (some ⟨g,0,none⟩))) (hm:m.look y=some a) (hu:∀r,ku ag (cells a r)=some (u r)) (hv:∀r,.tuple #[K.enc y,u r]=v r)
  (next:∀r,pure a r->WL P C n Q (facts a r++Φ) H ((d,v r)::S') ops rest):WL P C n Q Φ H S ops (o::rest):=by
 refine C2 hg hd hn hS λac w hf hw=>?_;obtain⟨F,N,eo⟩:=hw;obtain⟨YY,seen,s1,s2,s3⟩:Rx m g b done (some y) (N i) w:=eo.owns i _ NV;obtain⟨hb0,E,h2,h3,h4,h5,h6,h7,h8,h9⟩:gB K ag R (N j) F b m w:=eo.owns j _ bj;obtain⟨a',t,sn,ht,rfl⟩:=s3 y rfl;obtain⟨q,hq⟩:=List.mem_iff_getElem?.1 ht
 have ha:a'=a:=by
  obtain⟨t',hm⟩:=MS.look_some hm;have:=mX h5 hq;rw[hm]at this;exact(congrArg Prod.fst (Option.some.inj this)).symm
 subst ha;have hlen:E.toList.length=m.es.length:=by simpa using congrArg List.length h3
 have Zk:q<E.toList.length:=by rw[hlen];exact(List.getElem?_eq_some_iff.1 hq).1
 have U:=List.getElem?_eq_getElem Zk;obtain⟨cs,p1,p2⟩:=h4 q _ _ U hq;obtain⟨r,r1,r2,r3⟩:=op F w cs a' p2;subst r1;rw[hu r]at p1
 have qm:(E.toList[q]).key=K.enc y:=by
  have e1:(E.toList.map (·.key))[q]? =some (E.toList[q]).key:=by rw[List.getElem?_map,U];rfl
  rw[h3,List.getElem?_map,hq]at e1;exact(Option.some.inj e1).symm
 have ND:(E.toList[q]).born=t:=by
  have e1:(E.toList.map (·.born))[q]? =some (E.toList[q]).born:=by rw[List.getElem?_map,U];rfl
  rw[h7,List.getElem?_map,hq]at e1;exact(Option.some.inj e1).symm
 rw[<-ND]at s1;have eR:=run_entry_at (P:=P) w g b m.clock sn E m.clock (E.toList[q]) s1 h2 (List.getElem_mem Zk) (h7▸h8);rw[qm,<-Option.some.inj p1,hv r]at eR;refine⟨v r,w,by simp[execOp,ho,hf.eval hx,eR],facts a' r++Φ,H,⟨F,N,{eo with facts:=λφ fA=>?_}⟩,next r r2⟩;rcases List.mem_append.1 fA with fA|fA;· exact r3 φ fA
 · exact eo.facts φ fA
end rules
end
end Go.Proofs.YtocfkfhdcnjklaaGreatDoor
