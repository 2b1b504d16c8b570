import Derived.Test.YtbgodclhmgmcgaaGreatDoorCeE
namespace Go.Proofs.YtbgodclhmgmcgaaGreatDoor
open Go.RowKit
noncomputable section
inductive Ex where
 | normal
 | exit (id:Nat)
 | ret
def Ex.to:Ex→Exit
 | .normal=>.normal
 | .exit id=>.exit id
 | .ret=>.ret
def iterC (body:Tr→Q1a→Nat→Option (Ex×Tr×Q1a×Nat)):Nat→Tr→Q1a→Nat→Option (Ex×Tr×Q1a×Nat)
 | 0,_,_,_=>none
 | k + 1,fr,hp,lo=>match body fr hp lo with
   | some (.normal,fr',hp',lo')=>iterC body k fr' hp' lo'
   | some (.exit id,fr',hp',lo')=>some (.exit id,fr',hp',lo')
   | some (.ret,fr',hp',lo')=>some (.ret,fr',hp',lo')
   | none=>none
def Q9i (P:Program)(call:Q7M)(n lf hi:Nat):Code→Tr→Q1a→Nat→Option (Ex×Tr×Q1a×Nat)
 | .skip,fr,hp,lo=>some (.normal,fr,hp,lo)
 | .region _ ops false,fr,hp,lo=>match opsC P call n ops hi ops.toList fr hp lo with
   | some (fr',hp',lo')=>some (.normal,fr',hp',lo')
   | none=>none
 | .region _ ops true,fr,hp,lo=>match drawC P call n ops hi fr hp lo with
   | some (fr',hp',lo')=>some (.normal,fr',hp',lo')
   | none=>none
 | .seq a b,fr,hp,lo=>match Q9i P call n lf hi a fr hp lo with
   | some (.normal,fr',hp',lo')=>Q9i P call n lf hi b fr' hp' lo'
   | some (.exit id,fr',hp',lo')=>some (.exit id,fr',hp',lo')
   | some (.ret,fr',hp',lo')=>some (.ret,fr',hp',lo')
   | none=>none
 | .cond c x y,fr,hp,lo=>match evC fr c with
   | some (.v (.bool true))=>Q9i P call n lf hi x fr hp lo
   | some (.v (.bool false))=>Q9i P call n lf hi y fr hp lo
   | _=>none
 | .block id b,fr,hp,lo=>match Q9i P call n lf hi b fr hp lo with
   | some (.normal,fr',hp',lo')=>some (.normal,fr',hp',lo')
   | some (.exit j,fr',hp',lo')=>match Nat.beq j id with
     | true=>some (.normal,fr',hp',lo')
     | false=>some (.exit j,fr',hp',lo')
   | some (.ret,fr',hp',lo')=>some (.ret,fr',hp',lo')
   | none=>none
 | .loop b,fr,hp,lo=>iterC (fun fr hp lo=>Q9i P call n lf hi b fr hp lo) lf fr hp lo
 | .exit id,fr,hp,lo=>some (.exit id,fr,hp,lo)
 | .ret,fr,hp,lo=>some (.ret,fr,hp,lo)
 | _,_,_,_=>none
section code
variable {P:Program} {C:Ctx} {n:FD} {E:List Value} {call:Q7M}
def CodeOk (P:Program)(C:Ctx)(n:FD)(E:List Value)(hi:Nat)(c:Code)(f:Tr→Q1a→Nat→Option (Ex×Tr×Q1a×Nat)):Prop :=
 ∀ fr hp lo ex fr' hp' lo',f fr hp lo = some (ex,fr',hp',lo') → ∀ (Q:Exit → Act → World → Prop) ρ S H,Rel ρ E fr hp S H → Q9h ρ lo hi →
   (∀ ρ' S' H',Ext ρ ρ' lo hi→Rel ρ' E fr' hp' S' H' →Q9h ρ' lo' hi→lo≤lo' →WE C n Q [] H' S' ex.to)→WC P C n Q [] H S c
theorem iterC_spec {hi:Nat} {b:Code} {body:Tr→Q1a→Nat→Option (Ex×Tr×Q1a×Nat)} (hb:CodeOk P C n E hi b body)(lf:Nat):CodeOk P C n E hi (.loop b) (iterC body lf):=by
 intro fr hp lo ex fr' hp' lo' he Q ρ S H h hf next a w hfr hw
 refine loop_idx (fun m a w=> ∃ fr1 hp1 lo1 ρ1 S1 H1,iterC body m fr1 hp1 lo1=some (ex,fr',hp',lo')∧Rel ρ1 E fr1 hp1 S1 H1∧Q9h ρ1 lo1 hi∧Ext ρ ρ1 lo hi∧lo≤lo1∧Frm n S1 a∧QC C [] H1 w) ?_ lf a w
   ⟨fr,hp,lo,ρ,S,H,he,h,hf,Ext.refl _ _ _,Nat.le_refl _,hfr,hw⟩
 rintro m a w ⟨fr1,hp1,lo1,ρ1,S1,H1,g1,g2,g3,g4,g5,g6,g7⟩
 cases m with
 | zero=>cases g1
 | succ m =>
   unfold iterC at g1
   split at g1
   ·rename_i fr2 hp2 lo2 hbd
    refine hb _ _ _ _ _ _ _ hbd _ ρ1 S1 H1 g2 g3 (fun ρ' S' H' e1 e2 e3 e4 a' w' hfr' hw'=>?_) a w g6 g7
    exact ⟨m,Nat.lt_succ_self m,fr2,hp2,lo2,ρ',S',H',g1,e2,e3,g4.trans e1 g5 (Nat.le_refl _),by omega,hfr',hw'⟩
   ·rename_i id fr2 hp2 lo2 hbd
    cases g1
    refine hb _ _ _ _ _ _ _ hbd _ ρ1 S1 H1 g2 g3 (fun ρ' S' H' e1 e2 e3 e4 a' w' hfr' hw'=>?_) a w g6 g7
    exact next ρ' S' H' (g4.trans e1 g5 (Nat.le_refl _)) e2 e3 (by omega) a' w' hfr' hw'
   ·rename_i fr2 hp2 lo2 hbd
    cases g1
    refine hb _ _ _ _ _ _ _ hbd _ ρ1 S1 H1 g2 g3 (fun ρ' S' H' e1 e2 e3 e4 a' w' hfr' hw'=>?_) a w g6 g7
    exact next ρ' S' H' (g4.trans e1 g5 (Nat.le_refl _)) e2 e3 (by omega) a' w' hfr' hw'
   · cases g1
theorem codeC_spec (hcall:Q8c P E call) {lf hi:Nat} : ∀ c:Code,CodeOk P C n E hi c (Q9i P call n lf hi c):=by
 intro c
 induction c with
 | skip =>
   intro fr hp lo ex fr' hp' lo' he Q ρ S H h hf next
   unfold Q9i at he;cases he
   exact QT (next ρ S H (Ext.refl _ _ _) h hf (Nat.le_refl _))
 | region id ops draw =>
   intro fr hp lo ex fr' hp' lo' he Q ρ S H h hf next
   cases draw with
   | false =>
     unfold Q9i at he
     split at he
     ·rename_i fr2 hp2 lo2 h1
      cases he
      have h0:ops=ops.toList.toArray:=by simp
      rw [h0]
      refine Qe ?_
      rw [← h0]
      exact opsC_spec hcall h1 h hf next
     · cases he
   | true =>
     unfold Q9i at he
     split at he
     ·rename_i fr2 hp2 lo2 h1
      cases he
      exact drawC_spec hcall h1 h hf next
     · cases he
 | seq a b iha ihb =>
   intro fr hp lo ex fr' hp' lo' he Q ρ S H h hf next
   unfold Q9i at he
   refine Q5 ?_
   split at he
   · rename_i fr2 hp2 lo2 h1
     exact iha _ _ _ _ _ _ _ h1 _ ρ S H h hf fun ρ' S' H' e1 e2 e3 e4=>Qv (ihb _ _ _ _ _ _ _ he Q ρ' S' H' e2 e3 fun ρ'' S'' H'' f1 f2 f3 f4=>next ρ'' S'' H'' (e1.trans f1 e4 (Nat.le_refl _)) f2 f3 (by omega))
   · rename_i id fr2 hp2 lo2 h1
     cases he
     exact iha _ _ _ _ _ _ _ h1 _ ρ S H h hf fun ρ' S' H' e1 e2 e3 e4=>Q7 (next ρ' S' H' e1 e2 e3 e4)
   · rename_i fr2 hp2 lo2 h1
     cases he
     exact iha _ _ _ _ _ _ _ h1 _ ρ S H h hf fun ρ' S' H' e1 e2 e3 e4=>Q3 (next ρ' S' H' e1 e2 e3 e4)
   · cases he
 | cond c x y ihx ihy =>
   intro fr hp lo ex fr' hp' lo' he Q ρ S H h hf next
   unfold Q9i at he
   split at he
   · rename_i hc
     exact wc_true (Q5L h hc) (ihx _ _ _ _ _ _ _ he Q ρ S H h hf next)
   · rename_i hc
     exact Qde (Q5L h hc) (ihy _ _ _ _ _ _ _ he Q ρ S H h hf next)
   · cases he
 | block id b ih =>
   intro fr hp lo ex fr' hp' lo' he Q ρ S H h hf next
   unfold Q9i at he
   refine Qk ?_
   split at he
   · rename_i fr2 hp2 lo2 h1
     cases he
     exact ih _ _ _ _ _ _ _ h1 _ ρ S H h hf fun ρ' S' H' e1 e2 e3 e4=>Q6 (next ρ' S' H' e1 e2 e3 e4)
   · rename_i j fr2 hp2 lo2 h1
     split at he
     ·rename_i hb
      cases he
      have:=Qw hb;subst this
      exact ih _ _ _ _ _ _ _ h1 _ ρ S H h hf fun ρ' S' H' e1 e2 e3 e4=>Qq (next ρ' S' H' e1 e2 e3 e4)
     ·rename_i hb
      cases he
      have:=Q3E hb
      exact ih _ _ _ _ _ _ _ h1 _ ρ S H h hf fun ρ' S' H' e1 e2 e3 e4=>we_block_miss this (next ρ' S' H' e1 e2 e3 e4)
   · rename_i fr2 hp2 lo2 h1
     cases he
     exact ih _ _ _ _ _ _ _ h1 _ ρ S H h hf fun ρ' S' H' e1 e2 e3 e4=>Qg (next ρ' S' H' e1 e2 e3 e4)
   · cases he
 | loop b ih =>
   intro fr hp lo ex fr' hp' lo' he Q ρ S H h hf next
   unfold Q9i at he
   exact iterC_spec ih lf fr hp lo ex fr' hp' lo' he Q ρ S H h hf next
 | exit id =>
   intro fr hp lo ex fr' hp' lo' he Q ρ S H h hf next
   unfold Q9i at he;cases he
   exact QQ (next ρ S H (Ext.refl _ _ _) h hf (Nat.le_refl _))
 | ret =>
   intro fr hp lo ex fr' hp' lo' he Q ρ S H h hf next
   unfold Q9i at he;cases he
   exact Qm (next ρ S H (Ext.refl _ _ _) h hf (Nat.le_refl _))
 | _ =>
   intro fr hp lo ex fr' hp' lo' he Q ρ S H h hf next
   unfold Q9i at he;cases he
end code
mutual
def SV.newN (lo hi:Nat):SV→List Nat→List Nat
 | .ptr g _,acc=>match Nat.ble lo g && Nat.blt g hi with
   | true=>g :: acc
   | false=>acc
 | .sl g _ _ _ _,acc=>match Nat.ble lo g && Nat.blt g hi with
   | true=>g :: acc
   | false=>acc
 | .mp g,acc=>match Nat.ble lo g && Nat.blt g hi with
   | true=>g :: acc
   | false=>acc
 | .fn _ a b,acc=>SV.newNs lo hi a (SV.newNs lo hi b acc)
 | .agg l,acc=>SV.newNs lo hi l acc
 | .tup l,acc=>SV.newNs lo hi l acc
 | _,acc=>acc
def SV.newNs (lo hi:Nat):List SV→List Nat→List Nat
 | [],acc=>acc
 | x :: l,acc=>SV.newN lo hi x (SV.newNs lo hi l acc)
end
def entsN (lo hi:Nat):List (SV×SV×Nat)→List Nat→List Nat
 | [],acc=>acc
 | (k,v,_) :: r,acc=>SV.newN lo hi k (SV.newN lo hi v (entsN lo hi r acc))
def HO.newN (lo hi:Nat):HO→List Nat→List Nat
 | .blk cs _,acc=>SV.newNs lo hi cs acc
 | .row cs _ _ _,acc=>SV.newNs lo hi cs acc
 | .ro cs,acc=>SV.newNs lo hi cs acc
 | .mp es _,acc=>entsN lo hi es acc
 | .it (some g) _ _ _,acc=>g :: acc
 | .it none _ _ _,acc=>acc
def oldN (lo hi:Nat):Q1a→List Nat→List Nat
 | [],acc=>acc
 | (g,o) :: r,acc=>match Nat.ble lo g && Nat.blt g hi with
   | true=>oldN lo hi r acc
   | false=>HO.newN lo hi o (oldN lo hi r acc)
def markN (lo hi:Nat)(hp:Q1a):Nat→List Nat→List Nat→List Nat
 | 0,_,seen=>seen
 | f + 1,work,seen=>match work with
   | []=>seen
   | g :: r=>match Q7j seen g with
     | true=>markN lo hi hp f r seen
     | false=>match hget hp g with
       | some o=>markN lo hi hp f (HO.newN lo hi o r) (g :: seen)
       | none=>markN lo hi hp f r seen
def keepN (lo hi:Nat)(seen:List Nat):Q1a→Q1a
 | []=>[]
 | (g,o) :: r=>match Nat.ble lo g && Nat.blt g hi && !Q7j seen g with
   | true=>keepN lo hi seen r
   | false=>(g,o) :: keepN lo hi seen r
def sweep (lo hi:Nat)(v:SV)(hp0 hp:Q1a):Q1a:=match Nat.ble (hp0.length+5) hp.length with
 | true=>keepN lo hi (markN lo hi hp 2000 (SV.newN lo hi v (oldN lo hi hp [])) []) hp
 | false=>hp
section sweep
variable {ρ:Env} {E:List Value} {C:Ctx}
theorem QC.dropMid {Φ pre post:List Fact} {a:Fact} {w:World} (h:QC C Φ (pre++a :: post) w):QC C Φ (pre++post) w:=by
 refine h.drop pre.length (by simp) ?_
 rw [List.eraseIdx_append_of_length_le (Nat.le_refl _)]
 simp
theorem keepN_spec {lo hi:Nat} {seen:List Nat} : ∀ {hp:Q1a} {H:List Fact},Q4q ρ E hp H→∃ H',Q4q ρ E (keepN lo hi seen hp) H' ∧∀ pre w,QC C [] (pre++H) w→QC C [] (pre++H') w
 | [],[],_=>⟨[],trivial,fun _ _ h=>h⟩
 | (g,o) :: r,φ :: H,hd=>by
   obtain ⟨H',h1,h2⟩:=keepN_spec hd.2
   unfold keepN
   split
   · exact ⟨H',h1,fun pre w h=>h2 pre w h.dropMid⟩
   ·refine ⟨φ :: H',⟨hd.1,h1⟩,fun pre w h=>?_⟩
    have:=h2 (pre++[φ]) w (by simpa using h)
    simpa using this
 | [],_ :: _,hd=>hd.elim
 | _ :: _,[],hd=>hd.elim
theorem sweep_spec {lo hi:Nat} {v:SV} {hp0 hp:Q1a} {H:List Fact} (hd:Q4q ρ E hp H) : ∃ H',Q4q ρ E (sweep lo hi v hp0 hp) H' ∧∀ w,QC C [] H w→QC C [] H' w:=by
 unfold sweep
 split
 ·obtain ⟨H',h1,h2⟩:=keepN_spec (C:=C) hd
  exact ⟨H',h1,fun w h=>by simpa using h2 [] w (by simpa using h)⟩
 · exact ⟨H,hd,fun _ h=>h⟩
end sweep
def argsTr:Nat→List SV→Tr→Tr
 | _,[],t=>t
 | k,v :: l,t=>argsTr (k+1) l (t.put k v)
def resC (P:Program) (fr:Tr) (hp:Q1a):List ResultVar → Option (List SV)
 | []=>some []
 | r :: l=>match (match r with
     | .tmp t=>fr.get t
     | .cell q t=>match fr.get q with
       |  some (.ptr g off)=>match Q1m P t,Q58 P t with
          | some sz,some ag=>match hread hp g off sz with
            | some cs=>match ag with
              | true=>some (.agg cs)
              | false=>match cs with
                | [c]=>some c
                | _=>none
            | none=>none
          | _,_=>none
       | _=>none),resC P fr hp l with
  | some v,some vs=>some (v :: vs)
  | _,_=>none
def funC (P : Program) (call : Q7M) (lf : Nat) : Q7M := fun f args hp lo hi => match P.funcs[f]? with
 | none=>none
 | some fn=>match fn.body with
   | none=>none
   | some body=>match Nat.ble args.length fn.ntmps && Nat.blt fn.ntmps 16000 with
     | false=>none
     | true=>match Q9i P call fn.ntmps lf hi body (argsTr 0 args .nil) hp lo with
       | some (.exit _,_,_,_)=>none
       |  some (_,fr,hp',lo')=>match resC P fr hp' fn.results.toList with
          | some [v]=>some (v,sweep lo hi v hp hp',lo')
          | some vs=>some (.tup vs,sweep lo hi (.tup vs) hp hp',lo')
          | none=>none
       | none=>none
def callC (P:Program)(lf:Nat):Nat→Q7M
 | 0=>fun _ _ _ _ _=>none
 | d+1=>funC P (callC P lf d) lf
section fun_
variable {P:Program} {C:Ctx} {n:FD} {E:List Value} {call:Q7M}
theorem argsTr_get {ρ:Env} : ∀ (args:List SV)(vals:List Value)(k:Nat)(t:Tr)(S:List (Nat×Value)),SV.dens ρ E args=some vals→k+args.length < 16001→(∀ j v,t.get j=some v→j < k∧∃ x,v.den ρ E=some x∧look S j=some x)→
   ∀ j v,(argsTr k args t).get j=some v→∃ x,v.den ρ E=some x∧(look S j=some x∧j < k∨k≤j∧vals[j - k]? =some x)
 | [],vals,k,t,S,h,hk,ht,j,v,hj=>by
   obtain ⟨h1,x,h2,h3⟩:=ht j v hj
   exact ⟨x,h2,.inl ⟨h3,h1⟩⟩
 | a :: l,vals,k,t,S,h,hk,ht,j,v,hj=>by
   obtain ⟨u,us,rfl,h1,h2⟩:=Q5A h
   obtain ⟨x,h3,h4⟩:=argsTr_get l us (k+1) (t.put k a) ((k,u) :: Q4p k S) h2 (by simp at hk;omega) (fun j v hj=>by
    unfold Tr.put at hj
    rw [Tr.get_set 14 _ _ _ (by simp at hk;omega)] at hj
    split at hj
    · rename_i e;cases hj;subst e;exact ⟨by omega,u,h1,by simp [look]⟩
    ·rename_i hne
     obtain ⟨h5,y,h6,h7⟩:=ht j v hj
     refine ⟨by omega,y,h6,?_⟩
     have:Nat.beq k j=false:=by cases hb:Nat.beq k j with | false=>rfl | true=>exact absurd (Qw hb).symm hne
     simp only [look,this];rw [QdY hne];exact h7) j v hj
   refine ⟨x,h3,?_⟩
   rcases h4 with ⟨h4,h5⟩ | ⟨h4,h5⟩
   ·by_cases e:j=k
    ·subst e
     simp [look] at h4
     exact .inr ⟨Nat.le_refl _,by simp [h4]⟩
    ·have:Nat.beq k j=false:=by cases hb:Nat.beq k j with | false=>rfl | true=>exact absurd (Qw hb).symm e
     simp only [look,this] at h4
     rw [QdY e] at h4
     exact .inl ⟨h4,by omega⟩
   · exact .inr ⟨by omega,by rw [show j - k=(j - (k+1))+1 from by omega];simpa using h5⟩
theorem look_zip : ∀ {vals:List Value} {k j:Nat} {x:Value},k≤j→vals[j - k]? =some x→look (zipS k vals) j=some x
 | [],_,_,_,_,h=>by simp at h
 | v :: l,k,j,x,hk,h=>by
   unfold zipS look
   cases hb:Nat.beq k j with
   | true=>have:=Qw hb;subst this;simpa using h
   | false =>
     have:=Q3E hb
     refine look_zip (by omega) ?_
     rw [show j - k=(j - (k+1))+1 from by omega] at h
     simpa using h
theorem resC_spec {ρ:Env} {fr:Tr} {hp:Q1a} {S:List (Nat × Value)} {H:List Fact} (h:Rel ρ E fr hp S H) : ∀ {rs:List ResultVar} {vs:List SV},resC P fr hp rs = some vs → ∃ xs,SV.dens ρ E vs = some xs ∧ ∀ (a:Act) w,Frm n S a → QC C [] H w → (rs.mapM (QbI a.tmps)).run P w = .ok xs w
 | [],vs,he=>by cases he;exact ⟨[],rfl,fun a w _ _=>by simp⟩
 | r :: l,vs,he=>by
   unfold resC at he
   split at he
   ·rename_i v vs' h1 h2
    cases he
    obtain ⟨xs,h3,h4⟩:=resC_spec h h2
    have key : ∃ x,v.den ρ E = some x ∧ ∀ (a:Act) w,Frm n S a → QC C [] H w → (QbI a.tmps r).run P w = .ok x w:=by
     split at h1
     ·rename_i t
      obtain ⟨x,h5,h6⟩:=h.fr _ _ h1
      exact ⟨x,h5,fun a w hf hw=>Q1w (C:=C) (Φ:=[]) h6 a w hf hw⟩
     ·rename_i q t
      split at h1
      ·rename_i g off hq
       split at h1
       ·rename_i sz ag hs ha
        split at h1
        ·rename_i cs hcs
         obtain ⟨b,c,ws,k1,k2,k3,k4⟩:=Qdl (C:=C) h.hp hcs
         obtain ⟨x,h5,h6⟩:=h.fr _ _ hq
         simp only [SV.den,k1,Option.map_some,Option.some.injEq] at h5
         subst h5
         have hl:ws.length=sz:=by rw [Q4s k2,k3]
         have hrun : ∀ u,Q8V ag ws=some u→∀ (a:Act) w,Frm n S a→QC C [] H w→(QbI a.tmps (.cell q t)).run P w=.ok u w:=fun u hu a w hf hw=>by
          have:=hf.eval (x:=.tmp q) h6
          simp only [Act.eval] at this
          simp only [QbI,this,Sem.run_bind]
          simp [asAddr,Q6l (k4 w hw) hs ha hl hu]
         split at h1
         ·cases h1
          exact ⟨_,dens_agg k2,hrun _ rfl⟩
         ·split at h1
          ·rename_i c1
           cases h1
           obtain ⟨u,us,rfl,k5,k6⟩:=Q5A k2
           cases k6
           exact ⟨u,k5,hrun u rfl⟩
          · cases h1
        · cases h1
       · cases h1
      · cases h1
    obtain ⟨x,h5,h6⟩:=key
    refine ⟨x :: xs,Q2B h5 h3,fun a w hf hw=>?_⟩
    rw [List.mapM_cons]
    simp [h6 a w hf hw,h4 a w hf hw]
   · cases he
theorem ret_sweep (hD:n.D=[]) {S:List (Nat×Value)} {fn:Func} {R:Value→List Fact→List Fact→Prop} {v:Value} {H H2:List Fact} (hr : ∀ a w,Frm n S a→QC C [] H w→(results fn a.tmps).run P w=.ok v w)(hR:R v [] H2)(hs : ∀ w,QC C [] H w→QC C [] H2 w) {e:Exit} (he:e=.ret∨e=.normal) :
  WE C n (bodyPost P fn (Ret C R)) [] H S e:=by
 intro a w hf hw
 have h1:bodyPost P fn (Ret C R) .ret a w:=⟨hf.defers.trans hD,v,hr a w hf hw,v,[],H2,rfl,hR,hs w hw⟩
 rcases he with rfl | rfl <;> exact h1
theorem fun_end {fn : Func} {ρ ρ' : Env} {lo hi lo2 lo' : Nat} {fr : Tr} {hp hp2 hp' : Q1a} {S' : List (Nat×Value)} {H' : List Fact} {v : SV} {e : Exit} (hr : (match resC P fr hp2 fn.results.toList with | some [v]=> some (v,sweep lo hi v hp hp2,lo2) | some vs=> some (.tup vs,sweep lo hi (.tup vs) hp hp2,lo2) | none=> none)=some (v,hp',lo'))
  (e1:Ext ρ ρ' lo hi) (e2:Rel ρ' E fr hp2 S' H') (e3:Q9h ρ' lo2 hi) (e4:lo≤lo2) (hx:e=.ret∨e=.normal) :
  WE C ⟨fn.ntmps,[]⟩ (bodyPost P fn (Ret C fun x Φr Hr=>Φr=[]∧∃ ρ',Ext ρ ρ' lo hi∧v.den ρ' E=some x∧Q4q ρ' E hp' Hr∧Q9h ρ' lo' hi∧lo≤lo')) [] H' S' e:=by
 have main : ∀ vs,resC P fr hp2 fn.results.toList=some vs→∃ xs,SV.dens ρ' E vs=some xs∧∀ (a:Act) w,Frm ⟨fn.ntmps,[]⟩ S' a→QC C [] H' w→(results fn a.tmps).run P w=.ok (if h:xs.toArray.size=1 then xs.toArray[0] else .tuple xs.toArray) w:=fun vs hvs=>by
  obtain ⟨xs,h1,h2⟩:=resC_spec (P:=P) (C:=C) (n:=⟨fn.ntmps,[]⟩) e2 hvs
  refine ⟨xs,h1,fun a w hfr hw=>?_⟩
  have h3:=h2 a w hfr hw
  have h4:(fn.results.mapM (QbI a.tmps)).run P w=.ok xs.toArray w:=by
   have h5:fn.results.mapM (QbI a.tmps)=List.toArray <$> fn.results.toList.mapM (QbI a.tmps):=by rw [Array.mapM_eq_mapM_toList]
   rw [h5]
   simp only [map_eq_pure_bind]
   simp [h3]
  rw [Qds]
  simp only [Sem.run_bind,h4,Result.andThen_ok]
  rfl
 split at hr
 ·rename_i v' hvs
  cases hr
  obtain ⟨xs,h1,h2⟩:=main _ hvs
  obtain ⟨x,us,rfl,h3,h4⟩:=Q5A h1
  cases h4
  obtain ⟨H2,s1,s2⟩:=sweep_spec (C:=C) (lo:=lo) (hi:=hi) (v:=v) (hp0:=hp) e2.hp
  exact ret_sweep rfl (fun a w hfr hw=>by simpa using h2 a w hfr hw) ⟨rfl,ρ',e1,h3,s1,e3,e4⟩ s2 hx
 ·rename_i vs hne hvs
  cases hr
  obtain ⟨xs,h1,h2⟩:=main _ hvs
  have hl:=Q4s h1
  have hne' : ¬ xs.length=1:=fun e=>by
   rw [hl] at e
   obtain ⟨y,rfl⟩:=List.length_eq_one_iff.1 e
   exact hne y rfl
  obtain ⟨H2,s1,s2⟩:=sweep_spec (C:=C) (lo:=lo) (hi:=hi) (v:=.tup vs) (hp0:=hp) e2.hp
  exact ret_sweep rfl (v:=.tuple xs.toArray) (fun a w hfr hw=>by
   have:=h2 a w hfr hw
   rw [dif_neg (by simpa using hne')] at this
   exact this) ⟨rfl,ρ',e1,by simp [SV.den,h1],s1,e3,e4⟩ s2 hx
 · cases hr
theorem funC_ok (hcall:Q8c P E call)(lf:Nat):Q8c P E (funC P call lf):=by
 intro f args hp lo hi v hp' lo' he ρ vals H hargs hH hf
 unfold funC at he
 split at he
 · cases he
 ·rename_i fn hfn
  split at he
  · cases he
  ·rename_i body hbody
   split at he
   · cases he
   ·rename_i hb
    simp only [Bool.and_eq_true] at hb
    have hle:=hb.1
    have h16:=Nat.le_of_ble_eq_true hb.2
    rw [← Q4s hargs] at hle
    refine Qt hfn hbody rfl hle rfl fun C=>?_
    have hlen:=Q4s hargs
    have hle':=Nat.le_of_ble_eq_true hle
    have hrel:Rel ρ E (argsTr 0 args .nil) hp (zipS 0 vals) H:=⟨fun k u hk=>by
     obtain ⟨x,h1,h2⟩:=argsTr_get args vals 0 .nil [] hargs (by omega) (fun j v hj=>by cases hj) k u hk
     rcases h2 with ⟨h2,h3⟩ | ⟨h2,h3⟩
     · omega
     · exact ⟨x,h1,look_zip (Nat.zero_le _) h3⟩,hH⟩
    have fin : ∀ {ex fr hp2 lo2},Q9i P call fn.ntmps lf hi body (argsTr 0 args .nil) hp lo=some (ex,fr,hp2,lo2)→(∀ id,ex≠.exit id)→(match resC P fr hp2 fn.results.toList with | some [v]=> some (v,sweep lo hi v hp hp2,lo2) | some vs=> some (.tup vs,sweep lo hi (.tup vs) hp hp2,lo2) | none=> none)=some (v,hp',lo')→
      WC P C ⟨fn.ntmps,[]⟩ (bodyPost P fn (Ret C fun x Φr Hr=>Φr=[]∧∃ ρ',Ext ρ ρ' lo hi∧v.den ρ' E=some x∧Q4q ρ' E hp' Hr∧Q9h ρ' lo' hi∧lo≤lo')) [] H (zipS 0 vals) body:=by
     intro ex fr hp2 lo2 hc hex hr
     refine codeC_spec hcall body _ _ _ _ _ _ _ hc _ ρ _ H hrel hf fun ρ' S' H' e1 e2 e3 e4=>?_
     have hx:ex.to=.ret∨ex.to=.normal:=by
      cases ex with
      | normal=>exact .inr rfl
      | ret=>exact .inl rfl
      | exit id=>exact absurd rfl (hex id)
     exact fun_end hr e1 e2 e3 e4 hx
    split at he
    · cases he
    ·rename_i ex fr hp2 lo2 hne hc
     exact fin hc (fun id e=>hne id e) he
    · cases he
theorem callC_ok (E:List Value)(lf:Nat) : ∀ d,Q8c P E (callC P lf d)
 | 0=>fun f args hp lo hi v hp' lo' he=>by cases he
 | d+1=>funC_ok (callC_ok E lf d) lf
def saysTrue:Option (SV×Q1a×Nat)→Bool
 | some (.v (.bool true),_,_)=>true
 | _=>false
end fun_
end
end Go.Proofs.YtbgodclhmgmcgaaGreatDoor
