import Derived.WalkKit
import Derived.WalkSpells
import Derived.WalkLawsBesides
import Derived.Deep.QuietTactic
import Derived.BigQuiet
import Derived.Lib.Hide
import Derived.Deep.RegionHeld3
import Derived.StillTailTactics
import Derived.Deep.DeepCutAuto
namespace Go.Proofs.YtbgodclhmgmcgaaGreatDoor
abbrev EB:ByteArray:=⟨#[]⟩
theorem Pj.{u,v} {A:Type u} {B:Type v} {a c:A} {b d:B} (h:(a,b)=(c,d)):a=c∧b=d:=Prod.mk.inj h
theorem Z.{u} {α:Sort u} {a:α}:a=a:=rfl
abbrev V3.{u} {Y:Type u} (a b c:Y):List Y:=[a,b,c]
abbrev V4.{u} {Y:Type u} (a b c d:Y):List Y:=[a,b,c,d]
abbrev V5.{u} {Y:Type u} (a b c d e:Y):List Y:=[a,b,c,d,e]
abbrev V6.{u} {Y:Type u} (a b c d e f:Y):List Y:=[a,b,c,d,e,f]
abbrev V7.{u} {Y:Type u} (a b c d e f g:Y):List Y:=[a,b,c,d,e,f,g]
abbrev V8.{u} {Y:Type u} (a b c d e f g h:Y):List Y:=[a,b,c,d,e,f,g,h]
abbrev V9.{u} {Y:Type u} (a b c d e f g h i:Y):List Y:=[a,b,c,d,e,f,g,h,i]
abbrev V10.{u} {Y:Type u} (a b c d e f g h i j:Y):List Y:=[a,b,c,d,e,f,g,h,i,j]
abbrev V11.{u} {Y:Type u} (a b c d e f g h i j k:Y):List Y:=[a,b,c,d,e,f,g,h,i,j,k]
abbrev V12.{u} {Y:Type u} (a b c d e f g h i j k l:Y):List Y:=[a,b,c,d,e,f,g,h,i,j,k,l]
abbrev V13.{u} {Y:Type u} (a b c d e f g h i j k l m:Y):List Y:=[a,b,c,d,e,f,g,h,i,j,k,l,m]
abbrev V14.{u} {Y:Type u} (a b c d e f g h i j k l m n:Y):List Y:=[a,b,c,d,e,f,g,h,i,j,k,l,m,n]
abbrev V16.{u} {Y:Type u} (a b c d e f g h i j k l m n o p:Y):List Y:=[a,b,c,d,e,f,g,h,i,j,k,l,m,n,o,p]
abbrev V19.{u} {Y:Type u} (a b c d e f g h i j k l m n o p q r s:Y):List Y:=[a,b,c,d,e,f,g,h,i,j,k,l,m,n,o,p,q,r,s]
abbrev V21.{u} {Y:Type u} (a b c d e f g h i j k l m n o p q r s t u:Y):List Y:=[a,b,c,d,e,f,g,h,i,j,k,l,m,n,o,p,q,r,s,t,u]
abbrev V23.{u} {Y:Type u} (a b c d e f g h i j k l m n o p q r s t u v w:Y):List Y:=[a,b,c,d,e,f,g,h,i,j,k,l,m,n,o,p,q,r,s,t,u,v,w]
abbrev OA:=Option Addr
abbrev V1:Value:=.slice none 0 0
theorem Zi.{u} {Y:Type u} {a b:Y} (h:some a=some b):a=b:=Option.some.inj h
open Go.RowKit
abbrev Q1O:=Nat→Prop
attribute [go_sem] World.cell?_alloc_some
def Q2W (F:Q1O)(w w' : World):Prop:=∀ k,F k→w'.heap[k]? =w.heap[k]?
theorem Q2W.refl (F:Q1O)(w:World):Q2W F w w:=fun _ _=>rfl
theorem Q2W.cell {F:Q1O} {w w' : World} (h:Q2W F w w') {b o:Nat} (hb:F b):w'.cell? ⟨b,o,none⟩=w.cell? ⟨b,o,none⟩ :=
 World.cell?_of_block (w:=w) (h b hb)
def Q1h {α:Type} (sz:Nat)(R:List Value→α→Prop):List Value→List α→Prop
 | xs,[]=>xs=[]
 | xs,x :: l=>∃ cs rest,xs=cs++rest∧cs.length=sz∧R cs x∧Q1h sz R rest l
section
variable {α:Type} {sz:Nat} {R R' : List Value → α → Prop}
theorem Q1h.length : ∀ {l:List α} {xs:List Value},Q1h sz R xs l→xs.length=l.length * sz
 | [],xs,h=>by cases (h:xs=[]);simp
 | x :: l,xs,h=>by
   obtain ⟨cs,rest,rfl,h1,_,h2⟩:=h
   rw [List.length_append,h1,Q1h.length h2,List.length_cons,Nat.succ_mul,Nat.add_comm]
theorem Q1h.append : ∀ {l m:List α} {xs ys:List Value},Q1h sz R xs l→Q1h sz R ys m→Q1h sz R (xs++ys) (l++m)
 | [],m,xs,ys,h,k=>by cases (h:xs=[]);exact k
 | x :: l,m,xs,ys,h,k=>by
   obtain ⟨cs,rest,rfl,h1,h3,h2⟩:=h
   exact ⟨cs,rest++ys,by rw [List.append_assoc],h1,h3,Q1h.append h2 k⟩
theorem Q1h.one {x : α} {cs:List Value} (h:R cs x)(hl:cs.length=sz):Q1h sz R cs [x]:=⟨cs,[],by simp,hl,h,rfl⟩
theorem Q1h.mono : ∀ {l:List α} {xs:List Value},Q1h sz R xs l→(∀ cs x,x∈l→R cs x→R' cs x)→Q1h sz R' xs l
 | [],_,h,_=>h
 | x :: l,xs,h,hr=>by
   obtain ⟨cs,rest,rfl,h1,h3,h2⟩:=h
   exact ⟨cs,rest,rfl,h1,hr _ _ (by simp) h3,Q1h.mono h2 fun cs x hx=>hr cs x (by simp [hx])⟩
theorem Q1h.at : ∀ {l:List α} {xs:List Value} {k:Nat} {x : α},Q1h sz R xs l→l[k]? =some x→∃ cs,cs.length=sz∧R cs x∧∀ j u,cs[j]? =some u→xs[k * sz+j]? =some u
 | [],_,_,_,_,hx=>by simp at hx
 | y :: l,xs,0,x,h,hx=>by
   obtain ⟨cs,rest,rfl,h1,h3,_⟩:=h
   simp at hx;subst hx
   refine ⟨cs,h1,h3,fun j u hu=>?_⟩
   have:=(List.getElem?_eq_some_iff.1 hu).1
   rw [Nat.zero_mul,Nat.zero_add,List.getElem?_append_left this];exact hu
 | y :: l,xs,k + 1,x,h,hx=>by
   obtain ⟨cs,rest,rfl,h1,h3,h2⟩:=h
   obtain ⟨ds,e1,e2,e3⟩:=Q1h.at (k:=k) h2 (by simpa using hx)
   refine ⟨ds,e1,e2,fun j u hu=>?_⟩
   rw [List.getElem?_append_right (by rw [h1,Nat.succ_mul];omega)]
   have:=e3 j u hu
   rw [← this];congr 1;rw [h1,Nat.succ_mul];omega
theorem Q1h.take : ∀ {l:List α} {xs:List Value} (k:Nat),Q1h sz R xs l→Q1h sz R (xs.take (k * sz)) (l.take k)
 | [],xs,k,h=>by cases (h:xs=[]);simp [Q1h]
 | x :: l,xs,0,h=>by simp [Q1h]
 | x :: l,xs,k + 1,h=>by
   obtain ⟨cs,rest,rfl,h1,h3,h2⟩:=h
   rw [List.take_succ_cons]
   refine ⟨cs,rest.take (k * sz),?_,h1,h3,Q1h.take k h2⟩
   rw [List.take_append,List.take_of_length_le (by rw [h1,Nat.succ_mul];omega)]
   congr 2;rw [h1,Nat.succ_mul];omega
theorem Q1h.drop : ∀ {l:List α} {xs:List Value} (k:Nat),Q1h sz R xs l→Q1h sz R (xs.drop (k * sz)) (l.drop k)
 | [],xs,k,h=>by cases (h:xs=[]);simp [Q1h]
 | x :: l,xs,0,h=>by simpa using h
 | x :: l,xs,k + 1,h=>by
   obtain ⟨cs,rest,rfl,h1,h3,h2⟩:=h
   rw [List.drop_succ_cons,List.drop_append,List.drop_of_length_le (by rw [h1,Nat.succ_mul];omega),List.nil_append]
   have:(k+1) * sz - cs.length=k * sz:=by rw [h1,Nat.succ_mul];omega
   rw [this]
   exact Q1h.drop k h2
theorem Q1h.all {p:Value→Prop} (hp : ∀ cs x,R cs x→∀ u∈cs,p u) : ∀ {l:List α} {xs:List Value},Q1h sz R xs l→∀ u∈xs,p u
 | [],xs,h,u,hu=>by cases (h:xs=[]);cases hu
 | x :: l,xs,h,u,hu=>by
   obtain ⟨cs,rest,rfl,_,h3,h2⟩:=h
   rcases List.mem_append.1 hu with hu | hu
   · exact hp _ _ h3 u hu
   · exact Q1h.all hp h2 u hu
end
def Q3D (w:World)(b off:Nat)(xs:List Value):Prop:=∀ j u,xs[j]? =some u→w.cell? ⟨b,off+j,none⟩=some u
def Sli {α:Type} (F:Q1O)(w:World)(sz:Nat)(R:List Value→α→Prop)(v:Value)(l:List α):Prop :=
 ∃ p n c xs,v=.slice p n c∧n=l.length∧n≤c∧c≤9223372036854775807∧Q1h sz R xs l∧(0 < n→∃ b off,p=some ⟨b,off,none⟩∧F b∧Q3D w b off xs)
section
variable {α:Type} {F G:Q1O} {w w' : World} {sz:Nat} {R R' : List Value → α → Prop} {v:Value} {l:List α}
theorem Sli.keep (h:Sli F w sz R v l)(ha:Q2W F w w')(hR : ∀ cs x,x∈l→R cs x→R' cs x):Sli F w' sz R' v l:=by
 obtain ⟨p,n,c,xs,hv,hn,hc,hm,hx,hrow⟩:=h
 refine ⟨p,n,c,xs,hv,hn,hc,hm,hx.mono hR,fun hn=>?_⟩
 obtain ⟨b,off,hp,hF,hcell⟩:=hrow hn
 exact ⟨b,off,hp,hF,fun j u hj=>(ha.cell hF).trans (hcell j u hj)⟩
theorem Sli.foot (h:Sli F w sz R v l)(hg : ∀ k,F k→G k):Sli G w sz R v l:=by
 obtain ⟨p,n,c,xs,hv,hn,hc,hm,hx,hrow⟩:=h
 refine ⟨p,n,c,xs,hv,hn,hc,hm,hx,fun hn=>?_⟩
 obtain ⟨b,off,hp,hF,hcell⟩:=hrow hn
 exact ⟨b,off,hp,hg _ hF,hcell⟩
theorem Sli.nil:Sli F w sz R (.slice none 0 0) []:=⟨none,0,0,[],rfl,rfl,Nat.le_refl _,by omega,rfl,fun h=>absurd h (by omega)⟩
end
theorem Q4R (b off j:Nat):(⟨b,off,none⟩ : Addr).add j=⟨b,off+j,none⟩:=by unfold Addr.add;split <;> simp_all
theorem run_indexAt_sl {P:Program} {t e:TypeId} {sz:Nat} {p:Option Addr} {n c k b off:Nat} (ht:P.underlying t=some (.slice e))(hs : ∀ w,(sizeOf e).run P w=.ok sz w)(hp:p=some ⟨b,off,none⟩)(hk:k < n) :
  ∀ w,(Instr.indexAt t (.slice p n c) (.int .i64 (k:Int))).run P w=.ok (.pointer (some ⟨b,off+k * sz,none⟩)) w:=by
 intro w
 subst hp
 have h0:(0:Int)≤k∧(k:Int) < n:=by omega
 simp [Instr.indexAt,asIntOf,run_underlying ht,h0,hs,Addr.add,hk]
structure V where
 k:Int
 n:Int
 s:ByteArray
theorem QcW {a b:ByteArray}:a.toList=b.toList ↔ a=b:=by
 rw [ByteArray.toList_eq,ByteArray.toList_eq]
 constructor
 ·intro h
  obtain ⟨⟨x⟩⟩:=a
  obtain ⟨⟨y⟩⟩:=b
  simp at h
  subst h
  rfl
 · rintro rfl;rfl
instance:DecidableEq V:=fun a b=>by
 rcases a with ⟨k,n,s⟩
 rcases b with ⟨k',n',s'⟩
 exact if h:k=k' ∧n=n' ∧s.toList=s'.toList then .isTrue (by obtain ⟨h1,h2,h3⟩:=h;rw [QcW] at h3;subst h1 h2 h3;rfl) else .isFalse (fun e=>h (by injection e with h1 h2 h3;exact ⟨h1,h2,by rw [h3]⟩))
theorem V.ext_iff' {a b:V}:a=b ↔ a.k=b.k∧a.n=b.n∧a.s.toList=b.s.toList:=by
 rcases a with ⟨k,n,s⟩
 rcases b with ⟨k',n',s'⟩
 simp only [V.mk.injEq,QcW]
def OwnL {α:Type} (B:Nat)(e:TypeId)(sz:Nat)(R:List Value→α→Prop)(l:List α)(v:Value)(w:World):Prop :=
 ∃ xs,w.ownsRow B e sz v l.length xs∧Q1h sz R xs l
section
variable {α:Type} {B B' : Nat} {w w' : World} {e:TypeId} {sz:Nat} {R:List Value → α → Prop} {l:List α} {v:Value}
theorem OwnL.nil:OwnL B e sz R [] (.slice none 0 0) w:=⟨[],World.ownsRow_nil _ _ _ _,rfl⟩
theorem OwnL.shape (h:OwnL B e sz R l v w) : ∃ p n c,v=.slice p n c:=by
 obtain ⟨xs,ho,_⟩:=h
 rcases ho.2 with ⟨h0,_⟩ | ⟨g,cap,cur,hv,_⟩
 · exact ⟨_,_,_,h0⟩
 · exact ⟨_,_,_,hv⟩
theorem OwnL.len {p:Option Addr} {n c:Nat} (h:OwnL B e sz R l (.slice p n c) w):n=l.length:=by
 obtain ⟨xs,ho,_⟩:=h
 rcases ho.2 with ⟨h0,h1⟩ | ⟨g,cap,cur,hv,_⟩
 · cases h0;omega
 · cases hv;rfl
theorem OwnL.keep (h:OwnL B e sz R l v w)(ha : ∀ k,v.ownBlock=some k→w'.heap[k]? =w.heap[k]?):OwnL B e sz R l v w':=by
 obtain ⟨xs,ho,hc⟩:=h
 refine ⟨xs,⟨ho.1,?_⟩,hc⟩
 rcases ho.2 with h0 | ⟨g,cap,cur,hv,hg,hh,rest⟩
 · exact .inl h0
 · exact .inr ⟨g,cap,cur,hv,hg,by rw [ha g (by rw [hv];rfl)];exact hh,rest⟩
theorem OwnL.lt (h:OwnL B e sz R l v w) : ∀ k,v.ownBlock=some k→B≤k∧k < w.heap.size:=by
 obtain ⟨xs,ho,_⟩:=h
 exact ho.lt
end
structure Mod (S:Q1O) (w w' : World):Prop where
 os:w'.os=w.os
 tape:w'.tape=w.tape
 output:w'.output=w.output
 size:w.heap.size≤w'.heap.size
 block : ∀ k,k < w.heap.size→¬ S k→w'.heap[k]? =w.heap[k]?
section
variable {S T:Q1O} {a b c w:World}
theorem Mod.refl (S:Q1O)(w:World):Mod S w w:=⟨rfl,rfl,rfl,Nat.le_refl _,fun _ _ _=>rfl⟩
theorem Mod.trans (h:Mod S a b)(k:Mod S b c):Mod S a c:=⟨k.os.trans h.os,k.tape.trans h.tape,k.output.trans h.output,Nat.le_trans h.size k.size,fun i hi hs=>(k.block i (Nat.lt_of_lt_of_le hi h.size) hs).trans (h.block i hi hs)⟩
theorem Mod.mono (h:Mod S a b)(hs : ∀ k,k < a.heap.size→S k→T k):Mod T a b:=⟨h.os,h.tape,h.output,h.size,fun k hk ht=>h.block k hk fun h=>ht (hs k hk h)⟩
theorem Mod.trans' (h:Mod S a b)(k:Mod T b c)(hT : ∀ i,i < a.heap.size→T i→S i):Mod S a c:=⟨k.os.trans h.os,k.tape.trans h.tape,k.output.trans h.output,Nat.le_trans h.size k.size,fun i hi hs=>(k.block i (Nat.lt_of_lt_of_le hi h.size) fun ht=>hs (hT i hi ht)).trans (h.block i hi hs)⟩
theorem Mod.of_below (h:Below w.heap.size w a):Mod S w a:=⟨h.os,h.tape,h.output,h.size,fun k hk _=>h.block k hk⟩
theorem Mod.to_below {B:Nat} (h:Mod S w a)(hB:B≤w.heap.size)(hS : ∀ k,S k→B≤k):Below B w a:=⟨h.os,h.tape,h.output,h.size,fun k hk=>h.block k (by omega) fun hs=>by have:=hS k hs;omega⟩
theorem Mod.setCell (h:Mod S a w) {p:Addr} (hp:p.block < a.heap.size→S p.block)(u:Value):Mod S a (w.setCell p u) :=
 h.trans' (T:=fun k=>k=p.block) ⟨rfl,rfl,rfl,by simp [World.setCell],fun k _ hk=>Below.heap_setCell _ _ _ _ hk⟩ (fun i hi e=>by subst e;exact hp hi)
end
theorem Q1h.set : ∀ {α:Type} {sz:Nat} {R:List Value→α→Prop} {l:List α} {xs:List Value} (k:Nat) {x : α} {cs:List Value},Q1h sz R xs l→R cs x→cs.length=sz→k < l.length→Q1h sz R (xs.take (k * sz)++cs++xs.drop ((k+1) * sz)) (l.set k x)
 | _,_,_,[],_,_,_,_,_,_,_,hk=>absurd hk (by simp)
 | α,sz,R,y :: l,xs,0,x,cs,h,hr,hc,_=>by
   obtain ⟨ds,rest,rfl,h1,h3,h2⟩:=h
   refine ⟨cs,rest,?_,hc,hr,h2⟩
   rw [Nat.zero_mul,List.take_zero,List.nil_append,Nat.zero_add,Nat.one_mul,← h1,List.drop_left]
 | α,sz,R,y :: l,xs,k + 1,x,cs,h,hr,hc,hk=>by
   obtain ⟨ds,rest,rfl,h1,h3,h2⟩:=h
   refine ⟨ds,rest.take (k * sz)++cs++rest.drop ((k+1) * sz),?_,h1,h3,Q1h.set k h2 hr hc (by simpa using hk)⟩
   have e1:(k+1) * sz=ds.length+k * sz:=by rw [h1,Nat.succ_mul];omega
   have e2:(k+1+1) * sz=ds.length+(k+1) * sz:=by rw [h1,Nat.succ_mul (k+1)];omega
   rw [e2,e1,List.take_length_add_append,List.drop_length_add_append,← e1]
   simp [List.append_assoc]
def QaQ (xs:List Value)(o:Nat):List Value→List Value
 | []=>xs
 | c :: cs=>QaQ (xs.set o c) (o+1) cs
theorem Qd5 : ∀ (cs xs:List Value)(o:Nat),o+cs.length≤xs.length→QaQ xs o cs=xs.take o++cs++xs.drop (o+cs.length)
 | [],xs,o,_=>by simp [QaQ]
 | c :: cs,xs,o,h=>by
   simp only [List.length_cons] at h ⊢
   rw [QaQ,Qd5 cs _ _ (by simp;omega)]
   have:(xs.set o c).take (o+1)=xs.take o++[c]:=by
    rw [List.take_succ_eq_append_getElem (by simp;omega),List.take_set_of_le (Nat.le_refl _)];simp
   rw [this,List.drop_set_of_lt (by omega)]
   simp [Nat.add_assoc,Nat.add_comm 1]
def Q6D (w:World)(b o:Nat):List Value→World
 | []=>w
 | c :: cs=>Q6D (w.setCell ⟨b,o,none⟩ c) b (o+1) cs
theorem OwnL.put {α:Type} {B:Nat} {w:World} {e:TypeId} {sz:Nat} {R:List Value→α→Prop} {l:List α} {g n c:Nat} (h:OwnL B e sz R l (.slice (some ⟨g,0,none⟩) n c) w)(hn:n=l.length)(k:Nat) {x : α} {cs:List Value} (hr:R cs x)(hc:cs.length=sz)(hk:k < l.length) :
  OwnL B e sz R (l.set k x) (.slice (some ⟨g,0,none⟩) n c) (Q6D w g (k * sz) cs)∧Mod (fun i=>i=g) w (Q6D w g (k * sz) cs):=by
 obtain ⟨xs,ho,hx⟩:=h
 have key : ∀ (cs:List Value) (xs:List Value) (w:World) (o:Nat),w.ownsRow B e sz (.slice (some ⟨g,0,none⟩) n c) l.length xs→
    (Q6D w g o cs).ownsRow B e sz (.slice (some ⟨g,0,none⟩) n c) l.length (QaQ xs o cs)∧Mod (fun i=>i=g) w (Q6D w g o cs):=by
  intro cs
  induction cs with
  | nil=>intro xs w o h;exact ⟨h,Mod.refl _ _⟩
  | cons d ds ih =>
    intro xs w o h
    subst hn
    have h1:=h.stored o d
    obtain ⟨i1,i2⟩:=ih _ _ (o+1) h1.1
    exact ⟨i1,Mod.trans (S:=fun i=>i=g) (Mod.setCell (S:=fun i=>i=g) (Mod.refl _ w) (p:=⟨g,o,none⟩) (fun _=>rfl) d) i2⟩
 obtain ⟨k1,k2⟩:=key cs xs w (k * sz) ho
 have hlen:=hx.length
 rw [Qd5 cs xs _ (by rw [hc,hlen,← Nat.succ_mul];exact Nat.mul_le_mul_right _ hk)] at k1
 refine ⟨⟨_,by rw [List.length_set];exact k1,?_⟩,k2⟩
 have:=hx.set k hr hc hk
 rwa [show (k+1) * sz=k * sz+cs.length from by rw [hc,Nat.succ_mul]] at this
theorem OwnL.head {α:Type} {B:Nat} {w:World} {e:TypeId} {sz:Nat} {R:List Value→α→Prop} {l:List α} {p:Option Addr} {n c:Nat} (h:OwnL B e sz R l (.slice p n c) w)(h0 : 0 < l.length) :
  ∃ g,p=some ⟨g,0,none⟩∧n=l.length∧B≤g∧g < w.heap.size∧∀ j,w.frozen? ⟨g,j,none⟩=false:=by
 obtain ⟨xs,ho,hx⟩:=h
 have hf:=ho.2
 rcases ho.2 with ⟨h1,h2⟩ | ⟨g,cap,cur,hv,hg,hh,rest⟩
 · omega
 ·cases hv
  exact ⟨g,rfl,rfl,hg,(Array.getElem?_eq_some_iff.1 hh).1,fun j=>ho.frozenAt j⟩
theorem OwnL.of_block {α:Type} {B:Nat} {w:World} {e:TypeId} {sz g n:Nat} {R:List Value→α→Prop} {l:List α} {cur:Array Value} (hg:w.heap[g]? =some (.cells cur e (0,0)))(hB:B≤g)(hx:Q1h sz R cur.toList l)(hn:n=l.length)(hm:n≤9223372036854775807):OwnL B e sz R l (.slice (some ⟨g,0,none⟩) n n) w:=by
 subst hn
 have hl:=hx.length
 refine ⟨cur.toList,⟨hl,.inr ⟨g,_,cur,rfl,hB,hg,Nat.le_refl _,hm,by simpa using hl,?_⟩⟩,hx⟩
 rw [List.take_of_length_le (by omega)]
end Go.Proofs.YtbgodclhmgmcgaaGreatDoor
