import Derived.Test.YtbgodclhmgmcgaaGreatDoorCeF
import Derived.Test.YtbgodclhmgmcgaaGreatDoorPan
namespace Go.Proofs.YtbgodclhmgmcgaaGreatDoor
open Go Go.RowKit
noncomputable section
theorem QY.frame0 {P:Program} {f:FuncId} {args:List Value} {R:Value→List Fact→List Fact→Prop} (h:QY P f args [] [] R)(H:List Fact):QY P f args [] H (fun v Φr Hr=>∃ Hr0,Hr=Hr0++H∧R v Φr Hr0):=by
 intro F N w hF _ hH hlt hap
 refine (h F N w hF (by simp) (by simp) (by simp) (by simp)).mono ?_
 rintro e w' ⟨v,Φr,Hr0,rfl,hR,hh⟩
 refine ⟨v,Φr,Hr0++H,rfl,⟨Hr0,rfl,hR⟩,?_⟩
 have hi:MInv ⟨w,fun k=>∃ i,i < H.length∧N i k,F⟩ [] H F N w:=⟨hF,fun _ h=>h,fun _ h=>.inl h,by simp,hH,fun i k hi hk=>⟨(hlt i k hi hk).1,.inr ⟨i,hi,hk⟩,(hlt i k hi hk).2⟩,hap,Mod.refl _ _⟩
 have e:(fun k=>∃ i,i < (Q1d H []).length∧N (([] : List Nat).getD i 0) k)=fun k=>∃ i,i < ([] : List Fact).length∧N i k:=by funext k;simp [Q1d]
 have:=hi.after (l:=[]) (m:=List.range H.length) (Φr:=Φr) (Hr:=Hr0) (w':=w') (okIdx_mk (by simp) (by simpa using List.nodup_range)) (by rw [e];exact hh)
 rw [pickH_all,List.append_nil] at this
 exact this
mutual
def SV.up (d:Nat):SV→SV
 | .ptr g off=>.ptr (g+d) off
 | .sl g off len cap own=>.sl (g+d) off len cap own
 | .mp g=>.mp (g+d)
 | .fn f a b=>.fn f (SV.ups d a) (SV.ups d b)
 | .agg l=>.agg (SV.ups d l)
 | .tup l=>.tup (SV.ups d l)
 | x=>x
def SV.ups (d:Nat):List SV→List SV
 | []=>[]
 | x :: l=>SV.up d x :: SV.ups d l
end
def entsUp (d:Nat):List (SV×SV×Nat)→List (SV×SV×Nat)
 | []=>[]
 | (k,v,b) :: r=>(k.up d,v.up d,b) :: entsUp d r
def HO.up (d:Nat):HO→HO
 | .blk cs ty=>.blk (SV.ups d cs) ty
 | .row cs n sz ty=>.row (SV.ups d cs) n sz ty
 | .mp es c=>.mp (entsUp d es) c
 | .it m a b c=>.it (match m with | some g=>some (g+d) | none=>none) a b c
 | .ro cs=>.ro (SV.ups d cs)
def hUp (d:Nat):Q1a→Q1a→Q1a
 | [],r=>r
 | (g,o) :: l,r=>(g+d,o.up d) :: hUp d l r
def Env.at (ρ ρ' : Env)(lo k:Nat):Env:=fun g=>if lo≤g∧g < lo+k then ρ' (g - lo) else ρ g
section up
variable {ρ ρ' : Env} {E:List Value} {lo k:Nat}
theorem Qb7 (hk : ∀ g e,ρ' g=some e→g < k) {g:Nat} {e:Nat×Nat×Nat} (h : ρ' g=some e):Env.at ρ ρ' lo k (g+lo)=some e:=by
 have:=hk g e h
 unfold Env.at
 rw [if_pos ⟨by omega,by omega⟩,Nat.add_sub_cancel];exact h
mutual
theorem SV.up_den (hk : ∀ g e,ρ' g=some e→g < k) : ∀ (v:SV)(x:Value),v.den ρ' E=some x→(v.up lo).den (Env.at ρ ρ' lo k) E=some x
 | .v _,_,e=>e
 | .opq _,_,e=>e
 | .ptr g off,x,e=>by
   simp only [SV.up,SV.den,Option.map_eq_some_iff] at e ⊢
   obtain ⟨a,h1,h2⟩:=e;exact ⟨a,Qb7 hk h1,h2⟩
 | .sl g off len cap own,x,e=>by
   simp only [SV.up,SV.den,Option.map_eq_some_iff] at e ⊢
   obtain ⟨a,h1,h2⟩:=e;exact ⟨a,Qb7 hk h1,h2⟩
 | .mp g,x,e=>by
   simp only [SV.up,SV.den,Option.map_eq_some_iff] at e ⊢
   obtain ⟨a,h1,h2⟩:=e;exact ⟨a,Qb7 hk h1,h2⟩
 | .fn f fi caps,x,e=>by
   obtain ⟨us,vs,h1,h2,rfl⟩:=fn_den e
   exact fn_mk (SV.ups_den hk fi us h1) (SV.ups_den hk caps vs h2)
 | .agg l,x,e=>by
   simp only [SV.up,SV.den,Option.map_eq_some_iff] at e ⊢
   obtain ⟨a,h1,h2⟩:=e;exact ⟨a,SV.ups_den hk l a h1,h2⟩
 | .tup l,x,e=>by
   simp only [SV.up,SV.den,Option.map_eq_some_iff] at e ⊢
   obtain ⟨a,h1,h2⟩:=e;exact ⟨a,SV.ups_den hk l a h1,h2⟩
theorem SV.ups_den (hk : ∀ g e,ρ' g=some e→g < k) : ∀ (l:List SV)(xs:List Value),SV.dens ρ' E l=some xs→SV.dens (Env.at ρ ρ' lo k) E (SV.ups lo l)=some xs
 | [],_,e=>e
 | x :: l,xs,e=>by
   obtain ⟨v,ws,rfl,h1,h2⟩:=Q5A e
   exact Q2B (SV.up_den hk x v h1) (SV.ups_den hk l ws h2)
end
theorem entsUp_d (hk : ∀ g e,ρ' g=some e→g < k) : ∀ {l:List (SV×SV×Nat)} {m:List MapEntry},Q3Z ρ' E l m→Q3Z (Env.at ρ ρ' lo k) E (entsUp lo l) m
 | [],[],_=>trivial
 | (_,_,_) :: _,_ :: _,hd=>⟨SV.up_den hk _ _ hd.1,SV.up_den hk _ _ hd.2.1,hd.2.2.1,entsUp_d hk hd.2.2.2⟩
 | [],_ :: _,hd=>hd.elim
 | _ :: _,[],hd=>hd.elim
theorem HO.up_fact (hk : ∀ g e,ρ' g=some e→g < k) {g:Nat} {o:HO} {φ:Fact} (hf:o.isFact ρ' E g φ):(o.up lo).isFact (Env.at ρ ρ' lo k) E (g+lo) φ:=by
 cases o with
 | blk cs ty=>obtain ⟨b,c,vs,h1,h2,h3⟩:=hf;exact ⟨b,c,vs,Qb7 hk h1,SV.ups_den hk _ _ h2,h3⟩
 | row cs n sz ty=>obtain ⟨b,c,vs,h1,h2,h3⟩:=hf;exact ⟨b,c,vs,Qb7 hk h1,SV.ups_den hk _ _ h2,h3⟩
 | mp es c=>obtain ⟨b,c',es',h1,h2,h3⟩:=hf;exact ⟨b,c',es',Qb7 hk h1,entsUp_d hk h2,h3⟩
 | it m since seen stepped =>
   obtain ⟨b,c,bm,h1,h2,h3⟩:=hf
   refine ⟨b,c,bm,Qb7 hk h1,?_,h3⟩
   cases m <;> cases bm <;> first | exact h2 | (obtain ⟨q,hq⟩:=h2;exact ⟨q,Qb7 hk hq⟩)
 | ro cs=>obtain ⟨b,c,vs,h1,h2,h3⟩:=hf;exact ⟨b,c,vs,Qb7 hk h1,SV.ups_den hk _ _ h2,h3⟩
theorem hUp_d (hk : ∀ g e,ρ' g=some e→g < k) {hq:Q1a} {Hq:List Fact} (hr:Q4q (Env.at ρ ρ' lo k) E hq Hq) : ∀ {hp:Q1a} {H:List Fact},Q4q ρ' E hp H→Q4q (Env.at ρ ρ' lo k) E (hUp lo hp hq) (H++Hq)
 | [],[],_=>hr
 | (_,_) :: _,_ :: _,hd=>⟨HO.up_fact hk hd.1,hUp_d hk hr hd.2⟩
 | [],_ :: _,hd=>hd.elim
 | _ :: _,[],hd=>hd.elim
end up
structure ClE where
 f:Nat
 v:SV
 hp:Q1a
 k:Nat
def findCl:List ClE→Nat→Option ClE
 | [],_=>none
 | e :: r,f=>match Nat.beq e.f f with
   | true=>some e
   | false=>findCl r f
def clC (cl : List ClE)(base : Q7M) : Q7M :=fun f args hp lo hi=> match args with
 | []=>match findCl cl f with
   | some e=>match Nat.ble (lo + e.k) hi with
     | true=>some (e.v.up lo,hUp lo e.hp hp,lo+e.k)
     | false=>none
   | none=>base f args hp lo hi
 | _ :: _=>base f args hp lo hi
def ClOk (P:Program)(E:List Value)(e:ClE):Prop:=∃ call hi,Q8c P E call∧call e.f [] [] 0 hi=some (e.v,e.hp,e.k)
theorem findCl_mem : ∀ {cl:List ClE} {f:Nat} {e:ClE},findCl cl f=some e→e∈cl∧e.f=f
 | [],_,_,h=>by cases h
 | x :: r,f,e,h=>by
   unfold findCl at h
   split at h
   · rename_i hb;cases h;exact ⟨by simp,Qw hb⟩
   · obtain ⟨h1,h2⟩:=findCl_mem h;exact ⟨by simp [h1],h2⟩
theorem clC_ok {P:Program} {E:List Value} {cl:List ClE} {base:Q7M} (hb:Q8c P E base)(hc : ∀ e∈cl,ClOk P E e):Q8c P E (clC cl base):=by
 intro f args hp lo hi v hp' lo' he ρ vals H hargs hH hf
 unfold clC at he
 split at he
 ·split at he
  ·rename_i e hfind
   split at he
   ·rename_i hle
    cases he
    cases hargs
    obtain ⟨h1,rfl⟩:=findCl_mem hfind
    obtain ⟨call,hi0,h2,h3⟩:=hc e h1
    have hle:=Nat.le_of_ble_eq_true hle
    have hs:=(h2 _ _ _ _ _ _ _ _ h3 (fun _=>none) [] [] rfl trivial (fun _ _ _=>rfl)).frame0 H
    intro F N w hF hΦ hHo hlt hap
    refine (hs F N w hF hΦ hHo hlt hap).mono ?_
    rintro en w' ⟨x,Φr,Hr,rfl,⟨Hr0,rfl,rfl,ρ',e1,e2,e3,e4,_⟩,hh⟩
    have hk : ∀ g en,ρ' g=some en→g < e.k:=fun g en hg=>by
     rcases Nat.lt_or_ge g e.k with h | h
     · exact h
     ·rcases Nat.lt_or_ge g hi0 with h' | h'
      · rw [e4 g h h'] at hg;cases hg
      · rw [e1.out g rfl (.inr h')] at hg;cases hg
    have hmono : ρ.le (Env.at ρ ρ' lo e.k):=fun g en hg=>by
     unfold Env.at
     rw [if_neg]
     · exact hg
     ·rintro ⟨a,b⟩
      rw [hf g a (by omega)] at hg;cases hg
    refine ⟨x,[],Hr0++H,rfl,⟨rfl,Env.at ρ ρ' lo e.k,⟨hmono,fun g hg ho=>?_⟩,SV.up_den hk _ _ e2,hUp_d hk (hH.mono hmono) e3,fun g h1 h2=>?_,by omega⟩,hh⟩
    ·unfold Env.at
     rw [if_neg (by omega)];exact hg
    ·unfold Env.at
     rw [if_neg (by omega)];exact hf g (by omega) h2
   · cases he
  · exact hb _ _ _ _ _ _ _ _ he ρ vals H hargs hH hf
 · exact hb _ _ _ _ _ _ _ _ he ρ vals H hargs hH hf
def endC (P:Program)(fn:Func)(hp:Q1a)(lo hi:Nat):Option (Ex×Tr×Q1a×Nat)→Option (SV×Q1a×Nat)
 | some (.exit _,_,_,_)=>none
 | some (_,fr,hp',lo')=>match resC P fr hp' fn.results.toList with
   | some [v]=>some (v,sweep lo hi v hp hp',lo')
   | some vs=>some (.tup vs,sweep lo hi (.tup vs) hp hp',lo')
   | none=>none
 | none=>none
def deferC (P:Program)(call:Q7M)(lf:Nat)(idl:List Nat)(fn:Func)(hi:Nat)(a:Code)(ops:Array Oper)(o1 o2:Oper)(b:Code)(fr:Tr)(hp:Q1a)(lo:Nat):Option (Ex×Tr×Q1a×Nat) :=
 match Q9i P call fn.ntmps lf hi a fr hp lo with
 | some (.normal,fr1,hp1,lo1)=>match oneC P call fn.ntmps ops o1 fr1 hp1 lo1 hi with
   | some (fr2,hp2,lo2)=>match o2.op,o2.guard,o2.dst with
     | .defer { callee:=.value y,args:=xs,argTypes:=_ },none,none=>match evC fr2 y,xs.toList with
       | some (.fn g [] [_]),[]=>match Q7j idl g && Q15 P g with
         | true=>Q9i P call fn.ntmps lf hi b fr2 hp2 lo2
         | false=>none
       | _,_=>none
     | _,_,_=>none
   | none=>none
 | _=>none
def funDC (P : Program)(call : Q7M)(lf : Nat)(idl : List Nat) : Q7M :=fun f args hp lo hi=> match P.funcs[f]? with
 | none=>none
 | some fn=>match fn.body with
   | some (.seq a (.seq (.region _ ops false) b))=>match ops.toList with
     | [o1,o2]=>match o2.op with
       | .defer _=>match Nat.ble args.length fn.ntmps && Nat.blt fn.ntmps 16000 with
         | true=>endC P fn hp lo hi (deferC P call lf idl fn hi a ops o1 o2 b (argsTr 0 args .nil) hp lo)
         | false=>none
       | _=>funC P call lf f args hp lo hi
     | _=>funC P call lf f args hp lo hi
   | _=>funC P call lf f args hp lo hi
theorem args_rel {P:Program} {E:List Value} {ρ:Env} {args:List SV} {vals:List Value} {hp:Q1a} {H:List Fact} (hargs:SV.dens ρ E args=some vals)(hH:Q4q ρ E hp H)(h16:args.length < 16000):Rel ρ E (argsTr 0 args .nil) hp (zipS 0 vals) H:=⟨fun k u hk=>by
 obtain ⟨x,h1,h2⟩:=argsTr_get args vals 0 .nil [] hargs (by omega) (fun j v hj=>by cases hj) k u hk
 rcases h2 with ⟨h2,h3⟩ | ⟨h2,h3⟩
 · omega
 · exact ⟨x,h1,look_zip (Nat.zero_le _) h3⟩,hH⟩
theorem funDC_ok {P:Program} {E:List Value} {call:Q7M} (hcall:Q8c P E call) (lf:Nat) {idl:List Nat} (hI : ∀ g ∈ idl,∀ x,Idle P g #[x]):Q8c P E (funDC P call lf idl):=by
 intro f args hp lo hi v hp' lo' he
 unfold funDC at he
 split at he
 · cases he
 ·rename_i fn hfn
  split at he
  ·rename_i a id ops b hbody
   split at he
   ·rename_i o1 o2 hops
    split at he
    ·rename_i df hdf
     split at he
     ·rename_i hb
      intro ρ vals H hargs hH hf
      simp only [Bool.and_eq_true] at hb
      have hle:=hb.1
      have h16:=Nat.le_of_ble_eq_true hb.2
      rw [← Q4s hargs] at hle
      have hlen:=Q4s hargs
      have hle':=Nat.le_of_ble_eq_true hle
      have hrel:=args_rel (P:=P) hargs hH (by omega)
      refine spec_ofD hfn hbody rfl hle rfl fun C=>?_
      unfold deferC at he
      split at he
      ·rename_i fr1 hp1 lo1 c1
       split at he
       ·rename_i fr2 hp2 lo2 c2
        split at he
        ·rename_i y xs ts d1 d2 d3
         split at he
         ·rename_i g q c3 c4
          split at he
          ·rename_i hg
           simp only [Bool.and_eq_true] at hg
           have hxs:xs=#[]:=by cases xs;simp_all
           subst hxs
           refine Q5 (codeC_spec hcall a _ _ _ _ _ _ _ c1 _ ρ _ H hrel hf fun ρ1 S1 H1 e1 e2 e3 e4=>Qv (Q5 ?_))
           have h0:ops=[o1,o2].toArray:=by rw [← hops]
           have h0' : ops.toList.toArray=ops:=by simp
           rw [← h0',hops]
           refine Qe ?_
           rw [← hops,h0']
           rw [hops]
           refine oneC_spec hcall c2 e2 e3 fun ρ2 S2 H2 f1 f2 f3 f4=>?_
           obtain ⟨x,h1,h2⟩:=Q1r f2 c3
           obtain ⟨us,vs,k1,k2,rfl⟩:=fn_den h1
           cases k1
           obtain ⟨u,us,rfl,k3,k4⟩:=Q5A k2
           cases k4
           refine wl_defer (f:=g) (caps:=#[u]) (by unfold Q18;rw [d2]) d1 d3 h2 (Q2 (Qv ?_))
           unfold endC at he
           split at he
           · cases he
           ·rename_i ex fr3 hp3 lo3 hne c5
            refine codeC_spec hcall b _ _ _ _ _ _ _ c5 _ ρ2 _ H2 f2 f3 fun ρ3 S3 H3 g1 g2 g3 g4=>?_
            have hx:ex.to=.ret∨ex.to=.normal:=by
             cases ex with
             | normal=>exact .inr rfl
             | ret=>exact .inl rfl
             | exit id=>exact absurd rfl (hne id)
            exact we_idle hg.2 (hI g (Q80.1 hg.1) u) hx (fun_end he ((e1.trans f1 e4 (Nat.le_refl _)).trans g1 (by omega) (Nat.le_refl _)) g2 g3 (by omega) hx)
           · cases he
          · cases he
         · cases he
        · cases he
       · cases he
      · cases he
     · cases he
    · exact funC_ok hcall lf _ _ _ _ _ _ _ _ he
   · exact funC_ok hcall lf _ _ _ _ _ _ _ _ he
  · exact funC_ok hcall lf _ _ _ _ _ _ _ _ he
def callK (P:Program)(lf:Nat)(cl:List ClE)(idl:List Nat):Nat→Q7M
 | 0=>fun _ _ _ _ _=>none
 | d+1=>clC cl (funDC P (callK P lf cl idl d) lf idl)
theorem callK_ok {P:Program} {E:List Value} {lf:Nat} {cl:List ClE} {idl:List Nat} (hc : ∀ e∈cl,ClOk P E e)(hI : ∀ g∈idl,∀ x,Idle P g #[x]) : ∀ d,Q8c P E (callK P lf cl idl d)
 | 0=>fun _ _ _ _ _ _ _ _ he=>by cases he
 | d+1=>clC_ok (funDC_ok (callK_ok hc hI d) lf hI) hc
def clSays (e:ClE):Option (SV×Q1a×Nat)→Bool
 | some (v,hp,k)=>SV.beq v e.v && heapB hp e.hp && Nat.beq k e.k
 | none=>false
theorem clOk_of {P:Program} {E:List Value} {e:ClE} {call:Q7M} {hi:Nat} (hc:Q8c P E call)(h:clSays e (call e.f [] [] 0 hi)=true):ClOk P E e:=by
 refine ⟨call,hi,hc,?_⟩
 unfold clSays at h
 split at h
 ·rename_i v hp k he
  simp only [Bool.and_eq_true] at h
  rw [he,SV.beq_eq _ _ h.1.1,heapB_eq h.1.2,Qw h.2]
 · cases h
theorem spec_trueK {P:Program} {E:List Value} {call:Q7M} (hc:Q8c P E call) {f hi:Nat} {args:List SV} {vals:List Value} (hargs:SV.dens (fun _=>none) E args=some vals)(h:saysTrue (call f args [] 0 hi)=true):QY P f vals [] [] (fun v Φr Hr=>v=.bool true∧Φr=[]∧Hr=[]):=by
 unfold saysTrue at h
 split at h
 ·rename_i hp' lo' he
  have:=hc f args [] 0 hi _ _ _ he (fun _=>none) vals [] hargs trivial (fun _ _ _=>rfl)
  intro F N w hF hΦ hH hlt hap
  refine (this F N w hF hΦ hH hlt hap).mono ?_
  rintro e w' ⟨x,Φr,Hr,rfl,⟨rfl,ρ',e1,e2,e3,_⟩,hw⟩
  cases e2
  refine ⟨_,[],[],rfl,⟨rfl,rfl,rfl⟩,?_⟩
  have:=hw.pick [] rfl
  simpa [Q1d] using this
 · cases h
end
end Go.Proofs.YtbgodclhmgmcgaaGreatDoor
