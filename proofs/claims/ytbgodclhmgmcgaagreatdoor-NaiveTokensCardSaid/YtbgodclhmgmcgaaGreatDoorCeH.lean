import Derived.Test.YtbgodclhmgmcgaaGreatDoorCeV
namespace Go.Proofs.YtbgodclhmgmcgaaGreatDoor
open Go.RowKit
noncomputable section
def getB (fr:Tr):Option Operand→Option (Option Nat)
 | none=>some none
 | some x=>match evC fr x with
   | some (.v (.int _ (.ofNat j)))=>some (some j)
   | _=>none
def Q2s (o:Option Nat)(d:Nat):Nat:=match o with
 | some x=>x
 | none=>d
def HO.with (cs:List SV):HO→HO
 | .blk _ ty=>.blk cs ty
 | .row _ n sz ty=>.row cs n sz ty
 | o=>o
def HO.wcs:HO→Option (List SV)
 | .blk cs _=>some cs
 | .row cs _ _ _=>some cs
 | _=>none
def hstore (hp:Q1a)(g j:Nat)(cs:List SV):Option Q1a:=match hget hp g with
 | some o=>match o.wcs with
   | some all=>match Nat.ble (j + cs.length) all.length && cs.all SV.one with
     | true=>some (hset hp g (o.with (putC all j cs)))
     | false=>none
   | none=>none
 | none=>none
def hread (hp:Q1a)(g j n:Nat):Option (List SV):=match hget hp g with
 | some o=>match o.cs with
   | some all=>match Nat.ble (j + n) all.length with
     | true=>some ((all.drop j).take n)
     | false=>none
   | none=>none
 | none=>none
def repL {α:Type} (l:List α):Nat→List α
 | 0=>[]
 | n+1=>l++repL l n
def srcC (hp:Q1a)(sz:Nat):SV→Option (Nat×List SV)
 | .v (.slice none 0 _)=>some (0,[])
 | .sl g off len _ _=>match Nat.beq len 0 with
   | true=>some (0,[])
   | false=>match hread hp g off (len * sz) with
     | some cs=>some (len,cs)
     | none=>none
 | _=>none
def okRow (n by_ sz:Nat)(z:Value):Bool:=Nat.ble n 9223372036854775807 && Nat.ble (n * by_) 140737488355328 && Nat.beq z.cells.size sz && Nat.blt 0 sz
def appendC (P:Program) (hp:Q1a) (lo t:Nat) (x y:SV):Option (SV × Q1a × Nat):=match Q2d P t with
 | none=>none
 | some e=>match tRow P e with
   | none=>none
   | some (z,sz,by_)=>match srcC hp sz y with
     | none=>none
     | some (m,ys)=>match x with
       | .v (.slice none 0 0)=>match Nat.beq m 0 with
         | true=>some (.v (.slice none 0 0),hp,lo)
         | false=>match okRow (0 + m) by_ sz z && ys.all SV.one with
           | true=>some (.sl lo 0 (0+m) 0 true,(lo,.row ([]++ys) (0+m) sz e) :: hp,lo+1)
           | false=>none
       | .sl g off len cap own=>match hget hp g with
         | some (.row cs n sz' e')=>match Nat.beq sz' sz && Nat.beq off (cap * sz) && own && Nat.ble (cap + (len + m)) n with
           | true=>match hstore hp g (off + len * sz) ys with
             | some hp'=>some (.sl g off (len+m) cap own,hp',lo)
             | none=>none
           | false=>match own && Nat.beq off 0 && Nat.beq cap 0 && Nat.beq len n && Nat.beq sz' sz && Nat.beq e' e && okRow (n + m) by_ sz z && ys.all SV.one with
             | true=>some (.sl lo 0 (n+m) 0 true,hrep hp g lo (.row (cs++ys) (n+m) sz e),lo+1)
             | false=>match !own && Nat.beq len cap && okRow (len + m) by_ sz z && Nat.blt 0 m with
               | true=>match hread hp g off (len * sz) with
                 | some old=>some (.sl lo 0 (len+m) 0 true,(lo,.row (old++ys) (len+m) sz e) :: hp,lo+1)
                 | none=>none
               | false=>none
         | some (.blk cs e')=>match !own && Nat.beq off 0 && Nat.beq len cap && Nat.beq (cap * sz) cs.length && Nat.beq e' e && okRow (cap + m) by_ sz z && ys.all SV.one with
           | true=>some (.sl lo 0 (cap+m) 0 true,hrep hp g lo (.row (cs++ys) (cap+m) sz e),lo+1)
           | false=>none
         | _=>none
       | _=>none
def sliceC (P:Program) (hp:Q1a) (lo t:Nat) (x:SV) (l h m:Option Nat):Option (SV × Q1a × Nat):=match Q2d P t with
 | none=>none
 | some e=>match Q1m P e with
   | none=>none
   | some sz=>match x with
     | .v (.slice none 0 0)=>match Nat.beq (Q2s l 0) 0 && Nat.beq (Q2s h 0) 0 && Nat.beq (Q2s m 0) 0 with
       | true=>some (.v (.slice none 0 0),hp,lo)
       | false=>none
     | .sl g off len cap own=>match own with
       | false=>match Nat.ble (Q2s l 0) (Q2s h len) && Nat.ble (Q2s h len) (Q2s m cap) && Nat.ble (Q2s m cap) cap with
         | true=>some (.sl g (match Nat.beq (Q2s m cap) (Q2s l 0) with | true=>off | false=>off+Q2s l 0 * sz) (Q2s h len - Q2s l 0) (Q2s m cap - Q2s l 0) false,hp,lo)
         | false=>none
       | true=>match hget hp g with
         |  some (.row _ n _ _)=>match m with
            | some mm=>match Nat.ble (Q2s l 0) (Q2s h len) && Nat.ble (Q2s h len) mm && Nat.ble (cap + mm) n with
              | true=>some (.sl g (match Nat.beq mm (Q2s l 0) with | true=>off | false=>off+Q2s l 0 * sz) (Q2s h len - Q2s l 0) (mm - Q2s l 0) false,hp,lo)
              | false=>none
            | none=>match Nat.ble (Q2s l 0) (Q2s h len) && Nat.ble (cap + Q2s h len) n with
              | true=>match Nat.beq (Q2s l 0) 0,Nat.blt (cap + Q2s l 0) n with
                | true,_=>some (.sl g off (Q2s h len) cap true,hp,lo)
                | false,true=>some (.sl g (off+Q2s l 0 * sz) (Q2s h len - Q2s l 0) (cap+Q2s l 0) true,hp,lo)
                | false,false=>some (.sl lo 0 (Q2s h len - Q2s l 0) 0 true,hp,lo+1)
              | false=>none
         | _=>none
     | _=>none
def hv_alloc (P:Program)(fr:Tr)(hp:Q1a)(lo:Nat)(t:Nat):Option (Option SV×Q1a×Nat):=match Q4P P t with
 | some z=>some (some (.ptr lo 0),(lo,.blk (SV.of z).cells t) :: hp,lo+1)
 | none=>none
def hv_box (P:Program)(fr:Tr)(hp:Q1a)(lo:Nat)(t:Nat)(x:Operand):Option (Option SV×Q1a×Nat):=match evC fr x with
 | some v=>match v.isOpq with
   | false=>some (some (.ptr lo 0),(lo,.blk v.cells t) :: hp,lo+1)
   | true=>none
 | none=>none
def Qet (P:Program)(fr:Tr)(hp:Q1a)(lo:Nat)(t:Nat)(len:Nat)(ps:Array (Nat×Operand)):Option (Option SV×Q1a×Nat):=match Q2d P t with
 | some e=>match Q1m P e,Q4P P e,evCP fr ps.toList with
   | some sz,some z,some parts=>match Nat.ble (len * sz) 16777216,fillC (Qe2 sz) ((bsZero len sz z).map .v) parts with
     | true,some out=>some (some (.sl lo 0 len len false),(lo,.blk out e) :: hp,lo+1)
     | _,_=>none
   | _,_,_=>none
 | none=>none
def hv_store (P:Program)(fr:Tr)(hp:Q1a)(lo:Nat)(t:Nat)(x:Operand)(y:Operand):Option (Option SV×Q1a×Nat):=match evC fr x,evC fr y with
 | some (.ptr g off),some v=>match !v.isOpq && (match Q1m P t with | some sz=>Nat.beq v.cells.length sz | none=>false) with
   | true=>match hstore hp g off v.cells with
     | some hp'=>some (none,hp',lo)
     | none=>none
   | false=>none
 | _,_=>none
def hv_slice (P:Program)(fr:Tr)(hp:Q1a)(lo:Nat)(t:Nat)(x:Operand)(l:Option Operand)(h:Option Operand)(m:Option Operand):Option (Option SV×Q1a×Nat):=match evC fr x,getB fr l,getB fr h,getB fr m with
 | some v,some l',some h',some m'=>match m'.isNone || h'.isSome with
   | true=>match sliceC P hp lo t v l' h' m' with
     | some (r,hp',lo')=>some (some r,hp',lo')
     | none=>none
   | false=>none
 | _,_,_,_=>none
def hv_append (P:Program)(fr:Tr)(hp:Q1a)(lo:Nat)(xs:Array Operand)(ts:Array Nat):Option (Option SV×Q1a×Nat):=match xs.toList,ts.toList with
 | [x,y],[t,t']=>match evC fr x,evC fr y,Nat.beq t t' with
   | some v,some u,true=>match appendC P hp lo t v u with
     | some (r,hp',lo')=>some (some r,hp',lo')
     | none=>none
   | _,_,_=>none
 | _,_=>none
def hv_clear (P:Program)(fr:Tr)(hp:Q1a)(lo:Nat)(xs:Array Operand)(ts:Array Nat):Option (Option SV×Q1a×Nat):=match xs.toList,ts.toList with
 | [x],[t]=>match evC fr x,Q2d P t with
   | some (.v (.slice none _ _)),some _=>some (some (.v (.tuple #[])),hp,lo)
   | some (.sl g off n _ _),some e=>match Nat.beq n 0,Q4P P e with
     | true,_=>some (some (.v (.tuple #[])),hp,lo)
     | false,some z=>match Nat.blt 0 z.cells.size,hstore hp g off (repL (SV.of z).cells n) with
       | true,some hp'=>some (some (.v (.tuple #[])),hp',lo)
       | _,_=>none
     | _,_=>none
   | _,_=>none
 | _,_=>none
def hv_make (P:Program)(fr:Tr)(hp:Q1a)(lo:Nat)(t:Nat)(x:Operand)(y:Operand):Option (Option SV×Q1a×Nat):=match evC fr x,evC fr y,Q2d P t with
 | some (.v (.int _ (.ofNat m))),some (.v (.int _ (.ofNat m'))),some e=>match tRow P e with
   | some (z,sz,by_)=>match Nat.beq m' m && (Nat.beq z.cells.size sz && (Nat.blt 0 sz && (Nat.ble (by_ * m) 281474976710656 && Nat.ble m 9223372036854775807))) with
     | true=>some (some (.sl lo 0 m m false),(lo,.blk (repL (SV.of z).cells m) e) :: hp,lo+1)
     | false=>none
   | none=>none
 | _,_,_=>none
def heavyC (P:Program)(fr:Tr)(hp:Q1a)(lo:Nat):Op→Option (Option SV×Q1a×Nat)
 | .alloc t=>hv_alloc P fr hp lo t
 | .box t x=>hv_box P fr hp lo t x
 | .buildSlice t len ps=>Qet P fr hp lo t len ps
 | .makeSlice t x y=>hv_make P fr hp lo t x y
 | .store t x y=>hv_store P fr hp lo t x y
 | .slice t x l h m=>hv_slice P fr hp lo t x l h m
 | .call { callee:=.builtin .append,args:=xs,argTypes:=ts }=>hv_append P fr hp lo xs ts
 | .call { callee:=.builtin .clear,args:=xs,argTypes:=ts }=>hv_clear P fr hp lo xs ts
 | _=>none
section heavy
variable {P:Program} {C:Ctx} {n:FD} {ρ:Env} {E:List Value} {fr:Tr} {hp:Q1a} {S:List (Nat × Value)} {H:List Fact}
theorem Qe6 : ∀ (cs l:List Value)(j k:Nat),(QaQ l j cs).take k=QaQ (l.take k) j cs
 | [],_,_,_=>rfl
 | c :: cs,l,j,k=>by
   unfold QaQ
   rw [Qe6 cs,List.take_set]
theorem Qdl {g j m:Nat} {cs:List SV} (hd:Q4q ρ E hp H)(h:hread hp g j m=some cs) : ∃ b c vs,ρ g=some (b,c,0)∧SV.dens ρ E cs=some vs∧cs.length=m∧∀ w,QC C [] H w→Q3D w b j vs:=by
 unfold hread at h
 split at h
 ·rename_i o ho
  split at h
  ·rename_i all hall
   split at h
   ·rename_i hle
    cases h
    obtain ⟨k,φ,h1,h2,_,_⟩:=Q2L hd ho
    obtain ⟨b,c,vs,h3,h4,h5⟩:=HO.cells_at h2 hall
    have:=Nat.le_of_ble_eq_true hle
    refine ⟨b,c,_,h3,Qej m (Qei j h4),by simp;omega,fun w ⟨F,N,hi⟩=>?_⟩
    have:=Qeo (j:=j) (h5 _ _ _ (hi.owns k _ h1)) rfl (sz:=m)
    rwa [Nat.zero_add] at this
   · cases h
  · cases h
 · cases h
theorem QdW {g j:Nat} {cs:List SV} {xs:List Value} {hp' : Q1a} (hd:Q4q ρ E hp H) (h:hstore hp g j cs = some hp') (hx:SV.dens ρ E cs = some xs) :
  ∃ b c,ρ g=some (b,c,0)∧∃ H',Q4q ρ E hp' H' ∧∀ w,QC C [] H w→(storeCells ⟨b,j,none⟩ xs 0).run P w=.ok () (Q6D w b j xs)∧QC C [] H' (Q6D w b j xs):=by
 unfold hstore at h
 split at h
 ·rename_i o ho
  split at h
  ·rename_i all hall
   split at h
   ·rename_i hb
    cases h
    simp only [Bool.and_eq_true] at hb
    have hle:=Nat.le_of_ble_eq_true hb.1
    obtain ⟨k,φ,h1,h2,h3,_⟩:=Q2L hd ho
    have hone:=ones_den hx hb.2
    have hlen:=Q4s hx
    cases o with
    | blk cs' ty =>
      cases hall
      obtain ⟨b,c,vs,h4,h5,rfl⟩:=h2
      refine ⟨b,c,h4,_,h3 ρ _ (.blk b (putL vs j xs) ty) (fun _ _ h=>h) ⟨b,c,_,h4,dens_put j h5 hx,rfl⟩,fun w hw=>⟨?_,hw.store j h1 (by rw [hlen,Q4s h5];omega) rfl rfl⟩⟩
      obtain ⟨F,N,hi⟩:=hw
      have:=Q5H (P:=P) xs vs j 0 w (hi.owns k _ h1).2 (by rw [hlen,Q4s h5];omega) hone
      simpa using this
    | row cs' m sz ty =>
      cases hall
      obtain ⟨b,c,vs,h4,h5,rfl⟩:=h2
      have hvl:=Q4s h5
      refine ⟨b,c,h4,_,h3 ρ _ (rowF ty sz b m c (putL vs j xs)) (fun _ _ h=>h) ⟨b,c,_,h4,dens_put j h5 hx,rfl⟩,fun w hw=>?_⟩
      obtain ⟨F,N,hi⟩:=hw
      have hlt:=(List.getElem?_eq_some_iff.1 h1).1
      obtain ⟨hNb,hown⟩:=hi.owns k _ h1
      have hol:=hown.1
      rcases hown.2 with ⟨h0,_⟩ | ⟨g',cap,cur,hv,hbg,hg,hnc,hcm,hcs,htake⟩
      · cases h0
      ·cases hv
       have hg' : w.heap[b]? =some (.cells cur.toList.toArray ty):=by simpa using hg
       have hmc:m * sz≤c * sz:=Nat.mul_le_mul_right _ hnc
       have hjl:j+xs.length≤m * sz:=by rw [← hol,hvl,hlen];exact hle
       have hr:=Q5H (P:=P) xs cur.toList j 0 w hg' (by simp;omega) hone
       refine ⟨by simpa using hr,F,N,hi.set k hlt ((Qdw b xs j w).mono fun i _ e=>by subst e;exact hNb) _ ⟨hNb,?_⟩⟩
       have hs:=Qdv xs cur.toList j w hg'
       refine ⟨?_,.inr ⟨b,c,_,rfl,Nat.zero_le _,hs,hnc,hcm,?_,?_⟩⟩
       ·rw [← Qcv _ _ _ (by omega),← htake,← Qe6,Qd5 xs cur.toList j (by simp;omega)]
        simp;omega
       · rw [Qd5 xs cur.toList j (by simp;omega)];simp;omega
       ·simp only [List.toList_toArray]
        rw [Qe6,htake,Qcv _ _ _ (by omega)]
    | mp es c=>cases hall
    | it m since seen stepped=>cases hall
    | ro cs=>cases hall
   · cases h
  · cases h
 · cases h
def After (C:Ctx)(ρ:Env)(E:List Value)(lo hi:Nat)(r:Option SV)(hp' : Q1a)(lo' : Nat)(nx:Next)(w' : World):Prop :=
 ∃ ρ' H',Ext ρ ρ' lo hi ∧ Q4q ρ' E hp' H' ∧ Q9h ρ' lo' hi ∧ lo ≤ lo' ∧ QC C [] H' w' ∧ match r with
   | some v=>∃ x,nx=.value x∧v.den ρ' E=some x
   | none=>nx=.skip
theorem Q2h {lo hi:Nat} {r:SV} {x:Value} {w:World} {H' : List Fact} {hp' : Q1a} (hf:Q9h ρ lo hi)(hd:Q4q ρ E hp' H')(hw:QC C [] H' w)(hr:r.den ρ E=some x):After C ρ E lo hi (some r) hp' lo (.value x) w :=
 ⟨ρ,H',Ext.refl _ _ _,hd,hf,Nat.le_refl _,hw,x,rfl,hr⟩
theorem Qeg {lo hi ty off:Nat} {cs:List SV} {xs:List Value} {w:World} (r:SV) {x:Value} (hf:Q9h ρ lo hi)(hlt:lo+1≤hi)(hd:Q4q ρ E hp H)(hw:QC C [] H w)(hx:SV.dens ρ E cs=some xs)(hr : ∀ ρ' : Env,ρ' lo=some (w.heap.size,off,0)→r.den ρ' E=some x) :
  After C ρ E lo hi (some r) ((lo,.blk cs ty) :: hp) (lo+1) (.value x) (w.alloc (.cells xs.toArray ty)):=by
 have hg:=hf lo (Nat.le_refl _) (by omega)
 have he:=Env.put_ext (e:=(w.heap.size,off,0)) hg (show lo < hi by omega)
 refine ⟨ρ.put lo (w.heap.size,off,0),.blk w.heap.size xs ty :: H,he,⟨⟨_,_,xs,Env.put_same,SV.dens_mono he.le _ _ hx,rfl⟩,hd.mono he.le⟩,Env.put_free hf,by omega,?_,x,rfl,hr _ Env.put_same⟩
 have:=hw.alloc xs.toArray ty
 simpa using this
theorem QC.swap {w w' : World} (hw:QC C [] H w) {k:Nat} {ψ:Fact} {v:Value} {φ:Fact} (hk:H[k]? =some ψ)(hN : ∀ N F,ψ.op N F w→∀ j,v.ownBlock=some j→N j)(hgrow:w.grownBy w' v.ownBlock)(b:Nat)
  (hb:v.ownBlock=some b∨(b=w.heap.size∧b < w'.heap.size)) (hop : ∀ (N F:Q1O),N b→φ.op N F w'):QC C [] (H.set k φ) w':=by
 obtain ⟨F,N,hi⟩:=hw
 have hlt:=(List.getElem?_eq_some_iff.1 hk).1
 have hNk:=hN _ _ (hi.owns k _ hk)
 have hM:Mod (N k) w w':=⟨hgrow.os,hgrow.tape,hgrow.output,hgrow.size,fun j hj hn=>hgrow.block j hj fun e=>hn (hNk j e.symm)⟩
 exact ⟨F,_,hi.set' k hlt hM (fun j=>j=b) (fun i e=>by
  subst e
  rcases hb with hb | hb
  · exact .inl (hNk _ hb)
  · exact .inr ⟨by omega,hb.2⟩) φ (hop _ F rfl)⟩
theorem srcC_spec {sz m:Nat} {y:SV} {ys:List SV} {u:Value} (hd:Q4q ρ E hp H)(h:srcC hp sz y=some (m,ys))(hu:y.den ρ E=some u) :
  ∃ p c vs,u=.slice p m c∧SV.dens ρ E ys=some vs∧vs.length=m * sz∧∀ w,QC C [] H w→(0 < m→∃ b off,p=some ⟨b,off,none⟩∧Q3D w b off vs):=by
 unfold srcC at h
 split at h
 · cases h;cases hu;exact ⟨_,_,[],rfl,rfl,by simp,fun _ _ h=>absurd h (by omega)⟩
 ·rename_i g off len cap own
  simp only [SV.den,Option.map_eq_some_iff] at hu
  obtain ⟨e,h1,rfl⟩:=hu
  split at h
  ·rename_i h0
   cases h
   have:=Qw h0;subst this
   exact ⟨_,_,[],rfl,rfl,by simp,fun _ _ h=>absurd h (by omega)⟩
  ·split at h
   ·rename_i cs hr
    cases h
    obtain ⟨b,c,vs,h2,h3,h4,h5⟩:=Qdl hd hr (C:=C)
    rw [h1] at h2;cases h2
    exact ⟨_,_,vs,rfl,h3,by rw [Q4s h3,h4],fun w hw _=>⟨b,off,by simp,h5 w hw⟩⟩
   · cases h
 · cases h
theorem append_run {t ty e sz by_ m k c:Nat} {z:Value} {v:Value} {xs vs:List Value} {p:Option Addr} {w:World} (ht:Q2d P t=some e)(hr:tRow P e=some (z,sz,by_))(hok:okRow (k+m) by_ sz z=true)
  (hown:w.ownsRow 0 e sz v k xs) (hl:vs.length=m * sz) (hp : 0 < m→∃ b off,p=some ⟨b,off,none⟩∧Q3D w b off vs) (h1 : ∀ u∈vs,u.oneCell' =true) (hm : 0 < k+m∨v≠.slice none 0 0) :
  ∃ b c' w',(Builtin.append_ #[t,t] ty #[v,.slice p m c]).run P w=.ok (.slice (some ⟨b,0,none⟩) (k+m) c') w' ∧w'.ownsRow 0 e sz (.slice (some ⟨b,0,none⟩) (k+m) c') (k+m) (xs++vs)∧w.grownBy w' v.ownBlock∧(v.ownBlock=some b∨(b=w.heap.size∧b < w'.heap.size)):=by
 simp only [okRow,Bool.and_eq_true] at hok
 obtain ⟨⟨⟨a1,a2⟩,a3⟩,a4⟩:=hok
 obtain ⟨i,hinfo,hz,hsize,hbytes⟩:=Q9D hr
 obtain ⟨v',w',h2,h3,h4,h5⟩:=Qe4 (P:=P) (w:=w) t ty e i z sz by_ (Q1A ht) hinfo hz hsize hbytes (Qw a3) (Nat.le_of_ble_eq_true a4) v k xs hown p m c vs hl hp h1 (by unfold maxLen;exact Nat.le_of_ble_eq_true a1) (Nat.le_of_ble_eq_true a2)
 have h3':=h3
 rcases h3.2 with ⟨rfl,h0⟩ | ⟨g,cap,cur,rfl,hbg,hg,hnc,hcm,hcs,htake⟩
 ·rcases hm with hm | hm
  · omega
  ·exfalso
   rcases hown.2 with ⟨h6,_⟩ | ⟨g,cap,cur,rfl,hbg,hg,hnc,hcm,hcs,htake⟩
   · exact hm h6
   · rcases h5 with h5 | h5 <;> cases h5
 ·refine ⟨g,cap,w',h2,h3',h4,?_⟩
  rcases h5 with h5 | h5
  · exact .inl (by rw [← h5];rfl)
  ·have:=h3'.lt g rfl
   cases h5
   exact .inr ⟨rfl,this.2⟩
theorem QC.pushNew {w w' : World} (hw:QC C [] H w) {φ:Fact} (hgrow:w.grownBy w' none)(hsz:w.heap.size < w'.heap.size)(hop : ∀ (N F:Q1O),N w.heap.size→φ.op N F w'):QC C [] (φ :: H) w':=by
 obtain ⟨F,N,hi⟩:=hw
 have hb:Below w.heap.size w w':=⟨hgrow.os,hgrow.tape,hgrow.output,hgrow.size,fun k hk=>hgrow.block k hk (by simp)⟩
 refine ⟨F,consN (fun k=>k=w.heap.size) N,(hi.grow hb).push _ _ (hop _ F rfl) ?_ ?_⟩
 ·rintro k rfl
  exact ⟨hsz,.inl hi.mod.size,fun hf=>Nat.lt_irrefl _ (hi.flt _ hf)⟩
 ·rintro i k hl rfl hn
  exact Nat.lt_irrefl _ (hi.nlt i _ hl hn).1
theorem QdV {sz m c:Nat} {p:Option Addr} {vs:List Value} {w:World} (hl:vs.length=m * sz)(hp : 0 < m→∃ b off,p=some ⟨b,off,none⟩∧Q3D w b off vs):(Builtin.firstCells sz m (.slice p m c)).run P w=.ok vs.toArray w:=by
 by_cases hm : 0 < m
 ·obtain ⟨b,off,rfl,hc⟩:=hp hm
  simp only [Builtin.firstCells]
  rw [← hl]
  exact run_loadCells_list (P:=P) w ⟨b,off,none⟩ vs (fun j v hv=>by rw [Q4R];exact hc j v hv)
 ·have:m=0:=by omega
  subst this
  have:vs=[]:=List.eq_nil_of_length_eq_zero (by simpa using hl)
  subst this
  cases p <;> simp [Builtin.firstCells,loadCells,loadCellsFrom]
theorem append_nil_run {t ty e sz:Nat} {p:Option Addr} {c:Nat} {w:World} (ht:Q2d P t=some e)(hs:Q1m P e=some sz):(Builtin.append_ #[t,t] ty #[.slice none 0 0,.slice p 0 c]).run P w=.ok (.slice none 0 0) w:=by
 have:=QdV (P:=P) (sz:=sz) (m:=0) (c:=c) (p:=p) (vs:=[]) (w:=w) (by simp) (fun h=>absurd h (by omega))
 simp [Builtin.append_,run_underlying (Q1A ht),Q3f hs,Builtin.lenOf,this]
theorem append_in_run {t ty e sz m c q b off len cap:Nat} {p:Option Addr} {vs:List Value} {w w' : World} (ht:Q2d P t=some e)(hs:Q1m P e=some sz)(hle:len+m≤cap)(hl:vs.length=m * sz)(hp : 0 < m→∃ b off,p=some ⟨b,off,none⟩∧Q3D w b off vs)
  (hq:off+len * sz=q) (hst:(storeCells ⟨b,q,none⟩ vs 0).run P w=.ok () w'):(Builtin.append_ #[t,t] ty #[.slice (some ⟨b,off,none⟩) len cap,.slice p m c]).run P w=.ok (.slice (some ⟨b,off,none⟩) (len+m) cap) w':=by
 have:=QdV (P:=P) (sz:=sz) (c:=c) hl hp
 have hu:(underlying t).run P w=.ok (.slice e) w:=run_underlying (Q1A ht) w
 subst hq
 simp [Builtin.append_,run_underlying (Q1A ht),Q3f hs,Builtin.lenOf,this,hle,Q4R,hst]
theorem tRow_size {e sz by_:Nat} {z:Value} (h:tRow P e=some (z,sz,by_)):Q1m P e=some sz:=by
 obtain ⟨i,hi,_,hs,_⟩:=Q9D h
 simp [Q1m,hi,hs]
theorem append_grow {t ty e sz by_ m len off b c:Nat} {z:Value} {xs vs:List Value} {p:Option Addr} {w:World} (ht:Q2d P t=some e)(hr:tRow P e=some (z,sz,by_))(hok:okRow (len+m) by_ sz z=true)
  (hx:xs.length=len * sz) (hxc:Q3D w b off xs) (hl:vs.length=m * sz) (hp : 0 < m→∃ b off,p=some ⟨b,off,none⟩∧Q3D w b off vs) (hm : 0 < m) :
  ∃ c' w',(Builtin.append_ #[t,t] ty #[.slice (some ⟨b,off,none⟩) len len,.slice p m c]).run P w=.ok (.slice (some ⟨w.heap.size,0,none⟩) (len+m) c') w' ∧w'.ownsRow 0 e sz (.slice (some ⟨w.heap.size,0,none⟩) (len+m) c') (len+m) (xs++vs)∧w.grownBy w' none∧w.heap.size < w'.heap.size:=by
 simp only [okRow,Bool.and_eq_true] at hok
 obtain ⟨⟨⟨a1,a2⟩,a3⟩,a4⟩:=hok
 obtain ⟨i,hinfo,hz,hsize,hbytes⟩:=Q9D hr
 have a1:=Nat.le_of_ble_eq_true a1
 have a2:=Nat.le_of_ble_eq_true a2
 have hzs:=Qw a3
 have hM:len+m≤maxLen:=by unfold maxLen;exact a1
 obtain ⟨q,qo,rfl,hq⟩:=hp hm
 subst hsize;subst hbytes
 have holds : ∀ j u,xs[j]? =some u→w.cell? ((⟨b,off,none⟩ : Addr).add j)=some u:=fun j u hj=>by rw [Q4R];exact hxc j u hj
 have hnews : ∀ j u,vs[j]? =some u→w.cell? ((⟨q,qo,none⟩ : Addr).add j)=some u:=fun j u hj=>by rw [Q4R];exact hq j u hj
 have hge:=grownCap_ge w (len+m) len e
 have hcm:grownCap w (len+m) len e≤maxLen:=grownCap_le_maxLen w (len+m) len e hM
 have hlen:(xs++vs).length=(len+m) * i.size:=by rw [List.length_append,hx,hl,Nat.add_mul]
 have hrun:=run_append_grow (P:=P) (w:=w) t ty e i z (Q1A ht) hinfo hz ⟨b,off,none⟩ len len xs hx holds ⟨q,qo,none⟩ m c vs hl hnews (by omega) (by omega) (growslice_fits (by omega) a2)
 refine ⟨_,_,hrun,⟨hlen,.inr ⟨w.heap.size,_,_,rfl,Nat.zero_le _,heap_alloc_new w.drew _,hge,hcm,?_,?_⟩⟩,⟨rfl,rfl,rfl,by simp,fun k hk _=>Go.heap_alloc_old w.drew _ (show k < w.drew.heap.size from hk)⟩,by simp⟩
 ·simp only [Array.size_append,List.size_toArray,size_zeroCells,hzs,hx,hl,← Nat.add_mul]
  congr 1
  omega
 ·simp only [Array.toList_append,List.append_assoc]
  rw [← List.append_assoc,← hlen]
  exact List.take_left
theorem appendC_spec {lo hi lo' t ty:Nat} {x y r:SV} {hp' : Q1a} {v u:Value} (hf:Q9h ρ lo hi) (hd:Q4q ρ E hp H) (hv:x.den ρ E = some v) (hu:y.den ρ E = some u) (h:appendC P hp lo t x y = some (r,hp',lo')) (hlo:lo' ≤ hi) {w:World} (hw:QC C [] H w) :
  ∃ val w',(Builtin.append_ #[t,t] ty #[v,u]).run P w=.ok val w' ∧After C ρ E lo hi (some r) hp' lo' (.value val) w':=by
 unfold appendC at h
 split at h
 · cases h
 ·rename_i e ht
  split at h
  · cases h
  ·rename_i z sz by_ hr
   have hs:=tRow_size hr
   split at h
   · cases h
   ·rename_i m ys hsrc
    obtain ⟨p,c,vs,rfl,hys,hvl,hsrcw⟩:=srcC_spec hd hsrc hu (C:=C)
    have hsw:=hsrcw w hw
    split at h
    ·
     cases hv
     split at h
     ·rename_i h0
      have:=Qw h0;subst this
      cases h
      exact ⟨_,w,append_nil_run ht hs,Q2h hf hd hw rfl⟩
     ·rename_i h0
      split at h
      ·rename_i hok
       cases h
       simp only [Bool.and_eq_true] at hok
       have hm:=Q3E h0
       obtain ⟨b,c',w',h1,h2,h3,h4⟩:=append_run (ty:=ty) (c:=c) ht hr hok.1 (World.ownsRow_nil w 0 e sz) hvl hsw (ones_den hys hok.2) (.inl (by omega))
       have hb:b=w.heap.size∧b < w'.heap.size:=by rcases h4 with h4 | h4;cases h4;exact h4
       obtain ⟨rfl,hb⟩:=hb
       simp only [List.nil_append,Nat.zero_add] at h1 h2 ⊢
       refine ⟨_,w',h1,?_⟩
       have hg:=hf lo (Nat.le_refl _) (by omega)
       have he:=Env.put_ext (e:=(w.heap.size,c',0)) hg (show lo < hi by omega)
       exact ⟨ρ.put lo (w.heap.size,c',0),rowF e sz w.heap.size m c' vs :: H,he,⟨⟨_,_,vs,Env.put_same,SV.dens_mono he.le _ _ hys,rfl⟩,hd.mono he.le⟩,Env.put_free hf,by omega,
        hw.pushNew h3 hb (fun N F hN=>⟨hN,h2⟩),_,rfl,by simp [SV.den,Env.put_same]⟩
      · cases h
    ·rename_i g off len cap own
     simp only [SV.den,Option.map_eq_some_iff] at hv
     obtain ⟨en,hen,rfl⟩:=hv
     split at h
     ·rename_i cs n' sz' e' ho
      obtain ⟨k,φ,k1,k2,k3,k4⟩:=Q2L hd ho
      obtain ⟨b,cc,xs,k5,k6,rfl⟩:=k2
      rw [k5] at hen;cases hen
      obtain ⟨_,_,hop⟩ : ∃ N F,(rowF e' sz' b n' cc xs).op N F w:=by obtain ⟨F,N,hi⟩:=hw;exact ⟨_,_,hi.owns k _ k1⟩
      have hown:=hop.2
      have hnc:n' ≤cc:=by
       rcases hown.2 with ⟨h0,_⟩ | ⟨g',cap',cur,hv',_,_,hnc,_⟩
       · cases h0
       · cases hv';exact hnc
      split at h
      ·rename_i hb
       simp only [Bool.and_eq_true] at hb
       obtain ⟨⟨⟨b1,b2⟩,b3⟩,b4⟩:=hb
       have b1:=Qw b1
       have b2:=Qw b2
       have b4:=Nat.le_of_ble_eq_true b4
       subst b1;subst b2;subst b3
       split at h
       ·rename_i hp2 hst
        cases h
        obtain ⟨b',c2,l1,H2,l2,l3⟩:=QdW (P:=P) (C:=C) hd hst hys
        rw [k5] at l1;cases l1
        obtain ⟨l4,l5⟩:=l3 w hw
        refine ⟨_,_,append_in_run ht hs (by simp;omega) hvl hsw (by simp) l4,?_⟩
        exact Q2h hf l2 l5 (by simp [SV.den,k5])
       · cases h
      ·split at h
       ·rename_i hb
        cases h
        simp only [Bool.and_eq_true] at hb
        obtain ⟨⟨⟨⟨⟨⟨⟨b1,b2⟩,b3⟩,b4⟩,b5⟩,b6⟩,b7⟩,b8⟩:=hb
        have b2:=Qw b2
        have b3:=Qw b3
        have b4:=Qw b4
        have b5:=Qw b5
        have b6:=Qw b6
        subst b1;subst b2;subst b3;subst b4;subst b5;subst b6
        obtain ⟨b',c',w',h1,h2,h3,h4⟩:=append_run (ty:=ty) (c:=c) ht hr b7 hown hvl hsw (ones_den hys b8) (.inr (by simp))
        refine ⟨_,w',by simpa using h1,?_⟩
        have hg:=hf lo (Nat.le_refl _) (by omega)
        have he:=Env.put_ext (e:=(b',c',0)) hg (show lo < hi by omega)
        exact ⟨ρ.put lo (b',c',0),_,he,k4 _ lo _ (rowF e' sz' b' (len+m) c' (xs++vs)) he.le ⟨_,_,_,Env.put_same,SV.dens_mono he.le _ _ (Q7p k6 hys),rfl⟩,Env.put_free hf,by omega,
         hw.swap k1 (fun N F h j hj=>by cases hj;exact h.1) h3 b' h4 (fun N F hN=>⟨hN,h2⟩),_,rfl,by simp [SV.den,Env.put_same]⟩
       ·split at h
        ·rename_i hb
         simp only [Bool.and_eq_true,Bool.not_eq_true'] at hb
         obtain ⟨⟨⟨b1,b2⟩,b3⟩,b4⟩:=hb
         have b2:=Qw b2
         have b4:=Nat.le_of_ble_eq_true b4
         subst b1;subst b2
         split at h
         ·rename_i old hrd
          cases h
          obtain ⟨bb,c2,os,l1,l2,l3,l4⟩:=Qdl (C:=C) hd hrd
          rw [k5] at l1;cases l1
          obtain ⟨c',w',h1,h2,h3,h4⟩:=append_grow (ty:=ty) (c:=c) ht hr b3 (by rw [Q4s l2,l3]) (l4 w hw) hvl hsw b4
          refine ⟨_,w',by simpa using h1,?_⟩
          have hg:=hf lo (Nat.le_refl _) (by omega)
          have he:=Env.put_ext (e:=(w.heap.size,c',0)) hg (show lo < hi by omega)
          exact ⟨ρ.put lo (w.heap.size,c',0),rowF e sz w.heap.size (len+m) c' (os++vs) :: H,he,⟨⟨_,_,_,Env.put_same,SV.dens_mono he.le _ _ (Q7p l2 hys),rfl⟩,hd.mono he.le⟩,Env.put_free hf,by omega,
           hw.pushNew h3 h4 (fun N F hN=>⟨hN,h2⟩),_,rfl,by simp [SV.den,Env.put_same]⟩
         · cases h
        · cases h
     ·rename_i cs e' ho
      obtain ⟨k,φ,k1,k2,k3,k4⟩:=Q2L hd ho
      obtain ⟨b,cc,xs,k5,k6,rfl⟩:=k2
      rw [k5] at hen;cases hen
      obtain ⟨_,_,hop⟩ : ∃ N F,(Fact.blk b xs e').op N F w:=by obtain ⟨F,N,hi⟩:=hw;exact ⟨_,_,hi.owns k _ k1⟩
      split at h
      ·rename_i hb
       cases h
       simp only [Bool.and_eq_true,Bool.not_eq_true'] at hb
       obtain ⟨⟨⟨⟨⟨⟨b1,b2⟩,b3⟩,b4⟩,b5⟩,b6⟩,b7⟩:=hb
       have b2:=Qw b2
       have b3:=Qw b3
       have b4:=Qw b4
       have b5:=Qw b5
       subst b1;subst b2;subst b3;subst b5
       have hxl:=Q4s k6
       have hmax:len≤maxLen:=by
        simp only [okRow,Bool.and_eq_true] at b6
        have:=Nat.le_of_ble_eq_true b6.1.1.1
        unfold maxLen;omega
       have hown:w.ownsRow 0 e' sz (.slice (some ⟨b,0,none⟩) len len) len xs:=⟨by rw [hxl,b4],.inr ⟨b,len,xs.toArray,rfl,Nat.zero_le _,hop.2,Nat.le_refl _,hmax,by simp [hxl,b4],by simp [b4,← hxl]⟩⟩
       obtain ⟨b',c',w',h1,h2,h3,h4⟩:=append_run (ty:=ty) (c:=c) ht hr b6 hown hvl hsw (ones_den hys b7) (.inr (by simp))
       refine ⟨_,w',by simpa using h1,?_⟩
       have hg:=hf lo (Nat.le_refl _) (by omega)
       have he:=Env.put_ext (e:=(b',c',0)) hg (show lo < hi by omega)
       exact ⟨ρ.put lo (b',c',0),_,he,k4 _ lo _ (rowF e' sz b' (len+m) c' (xs++vs)) he.le ⟨_,_,_,Env.put_same,SV.dens_mono he.le _ _ (Q7p k6 hys),rfl⟩,Env.put_free hf,by omega,
        hw.swap (v:=.slice (some ⟨b,0,none⟩) len len) k1 (fun N F h j hj=>by cases hj;exact h.1) h3 b' h4 (fun N F hN=>⟨hN,h2⟩),_,rfl,by simp [SV.den,Env.put_same]⟩
      · cases h
     · cases h
    · cases h
def QcF:Option Nat→Option Value→Prop
 | none,none=>True
 | some j,some v=>∃ k,v=.int k (j:Int)
 | _,_=>False
theorem getB_spec (h:Rel ρ E fr hp S H) {o:Option Operand} {b:Option Nat} (hb:getB fr o=some b) {a:Act} (hf:Frm n S a):QcF b (o.map a.eval):=by
 unfold getB at hb
 split at hb
 · cases hb;trivial
 ·split at hb
  ·rename_i x k j hx
   cases hb
   exact ⟨k,by simp [hf.eval (Q5L h hx)]⟩
  · cases hb
theorem Q57 {k:IntKind} {j y:Nat} {c:BoundsCode} {w:World} (h:j≤y):(Instr.sliceBound (.int k (j:Int)) y c).run P w=.ok j w:=by
 have:(0:Int)≤(j:Int)∧(j:Int)≤(y:Int):=by omega
 simp [Instr.sliceBound,asIntOf,h]
theorem sliceBounds_run {len cap:Nat} {l h m:Option Nat} {lv hv mv:Option Value} {w:World} (hl:QcF l lv)(hh:QcF h hv)(hm:QcF m mv)(hmh:(m.isNone || h.isSome)=true)
  (h1:Q2s l 0≤Q2s h len) (h2:Q2s h len≤Q2s m cap) (h3:Q2s m cap≤cap):(Instr.sliceBounds true len cap lv hv mv).run P w=.ok (Q2s l 0,Q2s h len,Q2s m cap) w:=by
 cases m <;> cases mv <;> first | exact hm.elim | skip
 ·cases h <;> cases hv <;> first | exact hh.elim | skip
  ·cases l <;> cases lv <;> first | exact hl.elim | skip
   · simp [Instr.sliceBounds,Q2s]
   · obtain ⟨k,rfl⟩:=hl;simp only [Q2s] at h1 h2 h3 ⊢;simp [Instr.sliceBounds,Q57 h1]
  ·obtain ⟨kh,rfl⟩:=hh
   cases l <;> cases lv <;> first | exact hl.elim | skip
   · simp only [Q2s] at h1 h2 h3 ⊢;simp [Instr.sliceBounds,Q57 h2]
   · obtain ⟨k,rfl⟩:=hl;simp only [Q2s] at h1 h2 h3 ⊢;simp [Instr.sliceBounds,Q57 h1,Q57 h2]
 ·obtain ⟨km,rfl⟩:=hm
  cases h <;> cases hv <;> first | exact hh.elim | skip
  · cases hmh
  ·obtain ⟨kh,rfl⟩:=hh
   cases l <;> cases lv <;> first | exact hl.elim | skip
   · simp only [Q2s] at h1 h2 h3 ⊢;simp [Instr.sliceBounds,Q57 h2,Q57 h3]
   · obtain ⟨k,rfl⟩:=hl;simp only [Q2s] at h1 h2 h3 ⊢;simp [Instr.sliceBounds,Q57 h1,Q57 h2,Q57 h3]
theorem slice_run {t e sz len cap:Nat} {ad:Option Addr} {l h m:Option Nat} {lv hv mv:Option Value} {w:World} (ht:Q2d P t=some e)(hs:Q1m P e=some sz)(hl:QcF l lv)(hh:QcF h hv)(hm:QcF m mv)(hmh:(m.isNone || h.isSome)=true)
  (h1:Q2s l 0≤Q2s h len) (h2:Q2s h len≤Q2s m cap) (h3:Q2s m cap≤cap):(Instr.sliceAt t (.slice ad len cap) lv hv mv).run P w=.ok (.slice (if Q2s m cap=Q2s l 0 then ad else ad.map (·.add (Q2s l 0 * sz))) (Q2s h len - Q2s l 0) (Q2s m cap - Q2s l 0)) w:=by
 have:=sliceBounds_run (P:=P) (w:=w) hl hh hm hmh h1 h2 h3
 simp [Instr.sliceAt,Instr.slice,run_underlying (Q1A ht),this,Q3f hs]
theorem sliceC_spec {lo hi lo' t:Nat} {x r:SV} {hp' : Q1a} {v:Value} {l h m:Option Nat} {lv hv mv:Option Value} (hf:Q9h ρ lo hi) (hd:Q4q ρ E hp H) (hx:x.den ρ E = some v) (hl:QcF l lv) (hh:QcF h hv) (hm:QcF m mv) (hmh:(m.isNone || h.isSome) = true)
  (he:sliceC P hp lo t x l h m=some (r,hp',lo')) (hlo:lo' ≤hi) {w:World} (hw:QC C [] H w) :
  ∃ val,(Instr.sliceAt t v lv hv mv).run P w=.ok val w∧After C ρ E lo hi (some r) hp' lo' (.value val) w:=by
 unfold sliceC at he
 split at he
 · cases he
 ·rename_i e ht
  split at he
  · cases he
  ·rename_i sz hs
   split at he
   ·cases hx
    split at he
    ·rename_i hb
     cases he
     simp only [Bool.and_eq_true] at hb
     obtain ⟨⟨b1,b2⟩,b3⟩:=hb
     have b1:=Qw b1
     have b2:=Qw b2
     have b3:=Qw b3
     refine ⟨_,slice_run ht hs hl hh hm hmh (by omega) (by omega) (by omega),?_⟩
     rw [b1,b2,b3]
     exact Q2h hf hd hw rfl
    · cases he
   ·rename_i g off len cap own
    simp only [SV.den,Option.map_eq_some_iff] at hx
    obtain ⟨en,hen,rfl⟩:=hx
    have key : ∀ (cp:Nat),(if own then en.2.1 - cap else cap)=cp→Q2s l 0≤Q2s h len→Q2s h len≤Q2s m cp→Q2s m cp≤cp→
      (Instr.sliceAt t (.slice (some ⟨en.1,en.2.2+off,none⟩) len cp) lv hv mv).run P w=.ok (.slice (some ⟨en.1,en.2.2+(if Q2s m cp=Q2s l 0 then off else off+Q2s l 0 * sz),none⟩) (Q2s h len - Q2s l 0) (Q2s m cp - Q2s l 0)) w:=by
     intro cp _ h1 h2 h3
     rw [slice_run ht hs hl hh hm hmh h1 h2 h3]
     split
     · rfl
     · simp [Q4R,Nat.add_assoc]
    split at he
    ·split at he
     ·rename_i hb
      cases he
      simp only [Bool.and_eq_true] at hb
      obtain ⟨⟨b1,b2⟩,b3⟩:=hb
      have b1:=Nat.le_of_ble_eq_true b1
      have b2:=Nat.le_of_ble_eq_true b2
      have b3:=Nat.le_of_ble_eq_true b3
      refine ⟨_,by simpa using key cap rfl b1 b2 b3,Q2h hf hd hw ?_⟩
      cases hbb:Nat.beq (Q2s m cap) (Q2s l 0) with
      | true=>simp [SV.den,hen,Qw hbb]
      | false=>simp [SV.den,hen,Q3E hbb]
     · cases he
    ·split at he
     ·rename_i cs n' sz' e' ho
      obtain ⟨k,φ,k1,k2,k3,k4⟩:=Q2L hd ho
      obtain ⟨b,cc,xs,k5,k6,rfl⟩:=k2
      rw [k5] at hen;cases hen
      obtain ⟨_,_,hop⟩ : ∃ N F,(rowF e' sz' b n' cc xs).op N F w:=by obtain ⟨F,N,hi⟩:=hw;exact ⟨_,_,hi.owns k _ k1⟩
      have hnc:n' ≤cc:=by
       rcases hop.2.2 with ⟨h0,_⟩ | ⟨g',cap',cur,hv',_,_,hnc,_⟩
       · cases h0
       · cases hv';exact hnc
      split at he
      ·rename_i mm
       have e0:Q2s (some mm) (cc - cap)=mm:=rfl
       split at he
       ·rename_i hb
        cases he
        simp only [Bool.and_eq_true] at hb
        obtain ⟨⟨b1,b2⟩,b3⟩:=hb
        have b1:=Nat.le_of_ble_eq_true b1
        have b2:=Nat.le_of_ble_eq_true b2
        have b3:=Nat.le_of_ble_eq_true b3
        have hrun:=key (cc - cap) (by simp) b1 (by rw [e0];exact b2) (by rw [e0];omega)
        rw [e0] at hrun
        refine ⟨_,by simpa using hrun,Q2h hf hd hw ?_⟩
        cases hbb:Nat.beq mm (Q2s l 0) with
        | true=>simp [SV.den,k5,Qw hbb]
        | false=>simp [SV.den,k5,Q3E hbb]
       · cases he
      ·have e0:Q2s none (cc - cap)=cc - cap:=rfl
       split at he
       ·rename_i hb
        simp only [Bool.and_eq_true] at hb
        have b1:=Nat.le_of_ble_eq_true hb.1
        have b2:=Nat.le_of_ble_eq_true hb.2
        have hrun:=key (cc - cap) (by simp) b1 (by rw [e0];omega) (by rw [e0];omega)
        rw [e0] at hrun
        split at he
        ·rename_i h0
         cases he
         have h0:=Qw h0
         refine ⟨_,by simpa using hrun,Q2h hf hd hw ?_⟩
         rw [h0];simp [SV.den,k5]
        ·rename_i h0 hlt
         cases he
         have h0:=Q3E h0
         have hlt:=Nat.le_of_ble_eq_true hlt
         refine ⟨_,by simpa using hrun,Q2h hf hd hw ?_⟩
         rw [if_neg (by omega)]
         simp [SV.den,k5,Nat.sub_add_eq]
        ·rename_i h0 hlt
         cases he
         refine ⟨_,by simpa using hrun,?_⟩
         have hg:=hf lo (Nat.le_refl _) (by omega)
         have he:=Env.put_ext (e:=(b,cc - cap - Q2s l 0,0+(if cc - cap=Q2s l 0 then off else off+Q2s l 0 * sz))) hg (show lo < hi by omega)
         exact ⟨_,H,he,hd.mono he.le,Env.put_free hf,by omega,hw,_,rfl,by simp [SV.den,Env.put_same]⟩
       · cases he
     · cases he
   · cases he
theorem repL_zeros (z:List Value) : ∀ n,repL z n=zeros z n
 | 0=>rfl
 | n+1=>by rw [repL,zeros,repL_zeros z n]
theorem dens_repL {l:List SV} {vs:List Value} (h:SV.dens ρ E l=some vs) : ∀ n,SV.dens ρ E (repL l n)=some (repL vs n)
 | 0=>rfl
 | n+1=>Q7p h (dens_repL h n)
theorem zeroCells_eq (z:Array Value)(hz : 0 < z.size)(n:Nat):(Builtin.zeroCells z n).toList=repL z.toList n:=by
 rw [repL_zeros,← Qdn z z.size n rfl hz];rfl
theorem of_cells (z:Value):SV.dens ρ E (SV.of z).cells=some z.cells.toList:=SV.cells_den (SV.of_den z) (fun i=>by unfold SV.of;split <;> simp)
theorem heavyC_spec (h:Rel ρ E fr hp S H) {lo hi lo' : Nat} {o:Oper} {r:Option SV} {hp' : Q1a} (hf:Q9h ρ lo hi)(he:heavyC P fr hp lo o.op=some (r,hp',lo'))(hlo:lo' ≤hi) :
  ∀ (a:Act) w,Frm n S a→QC C [] H w→∃ nx w',(execOp a.eval o).run P w=.ok nx w' ∧After C ρ E lo hi r hp' lo' nx w':=by
 intro a w hfr hw
 unfold heavyC at he
 split at he
 ·
  rename_i t ho
  unfold hv_alloc at he
  split at he
  ·rename_i z hz
   cases he
   refine ⟨.value (.pointer (some ⟨w.heap.size,0,none⟩)),w.alloc (.cells z.cells.toList.toArray t),?_,Qeg (off:=0) _ hf hlo h.hp hw (of_cells z) (fun ρ' e=>by simp [SV.den,e])⟩
   simp [execOp,ho,Instr.alloc,Q9E hz,newVar,Qam]
  · cases he
 ·
  rename_i t x ho
  unfold hv_box at he
  split at he
  ·rename_i v hx
   obtain ⟨u,h1,h2⟩:=Q1r h hx
   split at he
   ·rename_i hq
    cases he
    refine ⟨.value (.pointer (some ⟨w.heap.size,0,none⟩)),w.alloc (.cells u.cells.toList.toArray t),?_,Qeg (off:=0) _ hf hlo h.hp hw (SV.cells_den h1 (fun i e=>by subst e;cases hq)) (fun ρ' e=>by simp [SV.den,e])⟩
    simp [execOp,ho,Instr.box,hfr.eval h2,newVar,Qam]
   · cases he
  · cases he
 ·
  rename_i t len ps ho
  unfold Qet at he
  split at he
  ·rename_i e ht
   split at he
   ·rename_i sz z parts hs hz hps
    split at he
    ·rename_i out hle hout
     cases he
     obtain ⟨xs,h1,h2⟩:=evCP_spec h hps
     obtain ⟨os,h3,h4⟩:=fillC_spec (dens_v _) h1 hout
     have h0:ps.map (fun x=>(x.1,a.eval x.2))=xs.toArray:=by
      rw [← hfr.evalP h2,← List.map_toArray]
     have h5:=Qe5 ht hs hz hle rfl h4 w
     rw [← h0] at h5
     refine ⟨.value (.slice (some ⟨w.heap.size,0,none⟩) len len),_,?_,Qeg (off:=0) _ hf hlo h.hp hw h3 (fun ρ' e=>by simp [SV.den,e])⟩
     simp only [execOp,ho,Sem.run_bind]
     rw [show (ps.map fun x=>match x with | (i,x)=>(i,a.eval x))=ps.map (fun x=>(x.1,a.eval x.2)) from rfl,h5]
     rfl
    · cases he
   · cases he
  · cases he
 ·
  rename_i t x y ho
  unfold hv_make at he
  split at he
  ·rename_i kx m ky m' e hx hy ht
   split at he
   ·rename_i z sz by_ hr
    split at he
    ·rename_i hb
     cases he
     simp only [Bool.and_eq_true] at hb
     obtain ⟨b1,b2,b3,b4,b5⟩:=hb
     have:=Qw b1
     subst this
     have b2:=Qw b2
     have b3:=Nat.le_of_ble_eq_true b3
     have b4:=Nat.le_of_ble_eq_true b4
     have b5:=Nat.le_of_ble_eq_true b5
     obtain ⟨i,hinfo,hz,hsize,hbytes⟩:=Q9D hr
     subst hbytes
     have hbm:(i.bytes:Int) * (m' : Int)≤281474976710656:=by
      have h:((i.bytes * m' : Nat):Int)≤281474976710656:=by omega
      rwa [Int.natCast_mul] at h
     have hrun:=run_make (P:=P) (w:=w) t e i z (Q1A ht) hinfo hz kx ky (m' : Int) (m' : Int) (by omega) (by omega) hbm (by omega)
     simp only [Int.toNat_natCast,hsize] at hrun
     have hcs:(madeCells z.cells (m' * sz))=(repL z.cells.toList m').toArray:=by
      rw [← Array.toList_inj,Qdn _ sz m' b2 (by omega),repL_zeros]
     rw [hcs] at hrun
     refine ⟨.value (.slice (some ⟨w.heap.size,0,none⟩) m' m'),_,?_,Qeg (off:=0) _ hf hlo h.hp hw (dens_repL (of_cells z) m') (fun ρ' e=>by simp [SV.den,e])⟩
     have h1:a.eval x=.int kx ((m' : Nat):Int):=hfr.eval (Q5L h hx)
     have h2:a.eval y=.int ky ((m' : Nat):Int):=hfr.eval (Q5L h hy)
     simp only [execOp,ho,h1,h2,Sem.run_bind,hrun,Result.andThen_ok]
     rfl
    · cases he
   · cases he
  · cases he
 ·
  rename_i t x y ho
  unfold hv_store at he
  split at he
  ·rename_i g off v hx hy
   split at he
   ·rename_i hb
    simp only [Bool.and_eq_true] at hb
    split at he
    ·rename_i hp2 hst
     cases he
     obtain ⟨p,h1,h2⟩:=Q1r h hx
     obtain ⟨u,h3,h4⟩:=Q1r h hy
     have hc:=SV.cells_den h3 (not_opq hb.1)
     obtain ⟨b,c,h5,H',h6,h7⟩:=QdW (P:=P) (C:=C) h.hp hst hc
     obtain ⟨h8,h9⟩:=h7 w hw
     simp only [SV.den,h5,Option.map_some,Option.some.injEq] at h1
     subst h1
     refine ⟨.skip,_,?_,ρ,H',Ext.refl _ _ _,h6,hf,Nat.le_refl _,h9,rfl⟩
     have hb2:=hb.2
     split at hb2
     ·rename_i sz hs
      have hsz:u.cells.size=sz:=by rw [← Qw hb2,← Q4s hc];simp
      simp only [execOp,ho,hfr.eval h2,hfr.eval h4,Instr.storeAt,Instr.sureAddr,storeVar,Sem.run_bind,Sem.run_pure,Result.andThen_ok,Q3f hs,hsz]
      simp [h8]
     · cases hb2
    · cases he
   · cases he
  · cases he
 ·
  rename_i t x l hh m ho
  unfold hv_slice at he
  split at he
  ·rename_i v l' h' m' hx hl hhb hm
   split at he
   ·rename_i hmh
    split at he
    ·rename_i r' hp2 lo2 hs
     cases he
     obtain ⟨u,h1,h2⟩:=Q1r h hx
     obtain ⟨val,h3,h4⟩:=sliceC_spec (P:=P) hf h.hp h1 (getB_spec h hl hfr) (getB_spec h hhb hfr) (getB_spec h hm hfr) hmh hs hlo hw
     refine ⟨.value val,w,?_,h4⟩
     simp [execOp,ho,hfr.eval h2,h3]
    · cases he
   · cases he
  · cases he
 ·
  rename_i xs ts ho
  unfold hv_append at he
  split at he
  ·rename_i x y t t' hxs hts
   have hxs' : xs=#[x,y]:=by cases xs;simp_all
   have hts' : ts=#[t,t']:=by cases ts;simp_all
   subst hxs';subst hts'
   split at he
   ·rename_i v u hx hy ht
    have:=Qw ht;subst this
    split at he
    ·rename_i r' hp2 lo2 hs
     cases he
     obtain ⟨v',h1,h2⟩:=Q1r h hx
     obtain ⟨u',h3,h4⟩:=Q1r h hy
     obtain ⟨val,w',h5,h6⟩:=appendC_spec (P:=P) (ty:=o.type) hf h.hp h1 h3 hs hlo hw
     refine ⟨.value val,w',?_,h6⟩
     simp [execOp,ho,resolve,invoke,builtin,hfr.eval h2,hfr.eval h4,h5]
    · cases he
   · cases he
  · cases he
 ·
  rename_i xs ts ho
  unfold hv_clear at he
  split at he
  ·rename_i x t hxs hts
   have hxs' : xs=#[x]:=by cases xs;simp_all
   have hts' : ts=#[t]:=by cases ts;simp_all
   subst hxs';subst hts'
   split at he
   ·rename_i nn cc e hx ht
    cases he
    refine ⟨.value (.tuple #[]),w,?_,Q2h hf h.hp hw rfl⟩
    simp [execOp,ho,resolve,invoke,builtin,Builtin.clear_,hfr.eval (Q5L h hx),run_underlying (Q1A ht)]
   ·rename_i g off nn cap own e hx ht
    obtain ⟨u,h1,h2⟩:=Q1r h hx
    simp only [SV.den,Option.map_eq_some_iff] at h1
    obtain ⟨en,hen,rfl⟩:=h1
    split at he
    ·rename_i h0
     cases he
     have:=Qw h0;subst this
     refine ⟨.value (.tuple #[]),w,?_,Q2h hf h.hp hw rfl⟩
     simp [execOp,ho,resolve,invoke,builtin,Builtin.clear_,hfr.eval h2,run_underlying (Q1A ht)]
    ·rename_i z h0 hz
     split at he
     ·rename_i hp2 hzp hst
      cases he
      have hzp:=Nat.le_of_ble_eq_true hzp
      have hzc:=of_cells (ρ:=ρ) (E:=E) z
      obtain ⟨b,c,h5,H',h6,h7⟩:=QdW (P:=P) (C:=C) h.hp hst (dens_repL hzc nn)
      rw [h5] at hen;cases hen
      obtain ⟨h8,h9⟩:=h7 w hw
      refine ⟨.value (.tuple #[]),_,?_,Q2h hf h6 h9 rfl⟩
      have h0':=Q3E h0
      have hzz:=zeroCells_eq z.cells hzp nn
      cases nn with
      | zero=>exact absurd rfl h0'
      | succ k=>simp [execOp,ho,resolve,invoke,builtin,Builtin.clear_,hfr.eval h2,run_underlying (Q1A ht),Q9E hz,hzz,h8]
     · cases he
    · cases he
   · cases he
  · cases he
 · cases he
end heavy
end
end Go.Proofs.YtbgodclhmgmcgaaGreatDoor
