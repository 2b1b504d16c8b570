import Derived.Test.YtbgodclhmgmcgaaGreatDoorLight
namespace Go.Proofs.YtbgodclhmgmcgaaGreatDoor
open Go.RowKit
noncomputable section
inductive SV where
 | v (x:Value)
 | opq (i:Nat)
 | ptr (g off:Nat)
 | sl (g off len cap:Nat) (own:Bool)
 | mp (g:Nat)
 | fn (f:Nat) (fi caps:List SV)
 | agg (l:List SV)
 | tup (l:List SV)
abbrev Env:=Nat→Option (Nat×Nat×Nat)
mutual
def SV.den (ρ:Env)(E:List Value):SV→Option Value
 | .v x=>some x
 | .opq i=>E[i]?
 | .ptr g off=>(ρ g).map fun e=>.pointer (some ⟨e.1,e.2.2+off,none⟩)
 | .sl g off len cap own=>(ρ g).map fun e=>.slice (some ⟨e.1,e.2.2+off,none⟩) len (if own then e.2.1 - cap else cap)
 | .mp g=>(ρ g).map fun e=>.map (some e.1)
 | .fn f fi caps=>match SV.dens ρ E fi,SV.dens ρ E caps with
   | some us,some vs=>some (.func (.func f) us.toArray vs.toArray)
   | _,_=>none
 | .agg l=>(SV.dens ρ E l).map fun vs=>.agg vs.toArray
 | .tup l=>(SV.dens ρ E l).map fun vs=>.tuple vs.toArray
def SV.dens (ρ:Env)(E:List Value):List SV→Option (List Value)
 | []=>some []
 | x :: l=>match SV.den ρ E x,SV.dens ρ E l with
   | some y,some ys=>some (y :: ys)
   | _,_=>none
end
def Env.le (ρ ρ' : Env):Prop:=∀ g e,ρ g=some e→ρ' g=some e
section den
variable {ρ ρ' : Env} {E:List Value}
theorem Q5A {x:SV} {l:List SV} {vs:List Value} (h:SV.dens ρ E (x :: l)=some vs) : ∃ v ws,vs=v :: ws∧x.den ρ E=some v∧SV.dens ρ E l=some ws:=by
 unfold SV.dens at h
 split at h
 · rename_i v ws h1 h2;cases h;exact ⟨v,ws,rfl,h1,h2⟩
 · cases h
theorem fn_den {f:Nat} {fi caps:List SV} {x:Value} (h:(SV.fn f fi caps).den ρ E=some x) : ∃ us vs,SV.dens ρ E fi=some us∧SV.dens ρ E caps=some vs∧x=.func (.func f) us.toArray vs.toArray:=by
 unfold SV.den at h
 split at h
 · rename_i us vs h1 h2;cases h;exact ⟨us,vs,h1,h2,rfl⟩
 · cases h
theorem fn_mk {f:Nat} {fi caps:List SV} {us vs:List Value} (h1:SV.dens ρ E fi=some us)(h2:SV.dens ρ E caps=some vs):(SV.fn f fi caps).den ρ E=some (.func (.func f) us.toArray vs.toArray):=by
 unfold SV.den;rw [h1,h2]
theorem Q2B {x:SV} {l:List SV} {v:Value} {ws:List Value} (h1:x.den ρ E=some v)(h2:SV.dens ρ E l=some ws):SV.dens ρ E (x :: l)=some (v :: ws):=by
 unfold SV.dens;rw [h1,h2]
mutual
theorem SV.den_mono (h : ρ.le ρ') : ∀ (v:SV)(x:Value),v.den ρ E=some x→v.den ρ' E=some x
 | .v _,_,e=>e
 | .opq _,_,e=>e
 | .ptr g off,x,e=>by
   simp only [SV.den,Option.map_eq_some_iff] at e ⊢
   obtain ⟨a,h1,h2⟩:=e;exact ⟨a,h _ _ h1,h2⟩
 | .sl g off len cap own,x,e=>by
   simp only [SV.den,Option.map_eq_some_iff] at e ⊢
   obtain ⟨a,h1,h2⟩:=e;exact ⟨a,h _ _ h1,h2⟩
 | .mp g,x,e=>by
   simp only [SV.den,Option.map_eq_some_iff] at e ⊢
   obtain ⟨a,h1,h2⟩:=e;exact ⟨a,h _ _ h1,h2⟩
 | .fn f fi caps,x,e=>by
   obtain ⟨us,vs,h1,h2,rfl⟩:=fn_den e
   exact fn_mk (SV.dens_mono h fi us h1) (SV.dens_mono h caps vs h2)
 | .agg l,x,e=>by
   simp only [SV.den,Option.map_eq_some_iff] at e ⊢
   obtain ⟨a,h1,h2⟩:=e;exact ⟨a,SV.dens_mono h l a h1,h2⟩
 | .tup l,x,e=>by
   simp only [SV.den,Option.map_eq_some_iff] at e ⊢
   obtain ⟨a,h1,h2⟩:=e;exact ⟨a,SV.dens_mono h l a h1,h2⟩
theorem SV.dens_mono (h : ρ.le ρ') : ∀ (l:List SV)(xs:List Value),SV.dens ρ E l=some xs→SV.dens ρ' E l=some xs
 | [],_,e=>e
 | x :: l,xs,e=>by
   obtain ⟨v,ws,rfl,h1,h2⟩:=Q5A e
   exact Q2B (SV.den_mono h x v h1) (SV.dens_mono h l ws h2)
end
theorem Q4s : ∀ {l:List SV} {vs:List Value},SV.dens ρ E l=some vs→vs.length=l.length
 | [],vs,h=>by cases h;rfl
 | x :: l,vs,h=>by
   obtain ⟨v,ws,rfl,h1,h2⟩:=Q5A h
   simp [Q4s h2]
theorem dens_get : ∀ {l:List SV} {vs:List Value} {i:Nat} {x:SV},SV.dens ρ E l=some vs→l[i]? =some x→∃ y,vs[i]? =some y∧x.den ρ E=some y
 | [],_,_,_,_,hx=>by simp at hx
 | a :: l,vs,i,x,h,hx=>by
   obtain ⟨v,ws,rfl,h1,h2⟩:=Q5A h
   cases i with
   | zero=>simp at hx;subst hx;exact ⟨v,rfl,h1⟩
   | succ i=>simpa using dens_get h2 (by simpa using hx)
theorem Q7p : ∀ {l m:List SV} {vs ws:List Value},SV.dens ρ E l=some vs→SV.dens ρ E m=some ws→SV.dens ρ E (l++m)=some (vs++ws)
 | [],m,vs,ws,h,k=>by cases h;exact k
 | x :: l,m,vs,ws,h,k=>by
   obtain ⟨v,us,rfl,h1,h2⟩:=Q5A h
   exact Q2B h1 (Q7p h2 k)
theorem Qej : ∀ {l:List SV} {vs:List Value} (k:Nat),SV.dens ρ E l=some vs→SV.dens ρ E (l.take k)=some (vs.take k)
 | [],vs,k,h=>by cases h;simp [SV.dens]
 | x :: l,vs,0,h=>by simp [SV.dens]
 | x :: l,vs,k + 1,h=>by
   obtain ⟨v,us,rfl,h1,h2⟩:=Q5A h
   simpa using Q2B h1 (Qej k h2)
theorem Qei : ∀ {l:List SV} {vs:List Value} (k:Nat),SV.dens ρ E l=some vs→SV.dens ρ E (l.drop k)=some (vs.drop k)
 | [],vs,k,h=>by cases h;simp [SV.dens]
 | x :: l,vs,0,h=>by simpa using h
 | x :: l,vs,k + 1,h=>by
   obtain ⟨v,us,rfl,h1,h2⟩:=Q5A h
   simpa using Qei k h2
theorem dens_v : ∀ (l:List Value),SV.dens ρ E (l.map .v)=some l
 | []=>rfl
 | x :: l=>Q2B (x:=.v x) rfl (dens_v l)
theorem dens_mem : ∀ {l:List SV} {vs:List Value},SV.dens ρ E l=some vs→∀ u∈vs,∃ x∈l,x.den ρ E=some u
 | [],vs,h,u,hu=>by cases h;cases hu
 | x :: l,vs,h,u,hu=>by
   obtain ⟨v,ws,rfl,h1,h2⟩:=Q5A h
   rcases List.mem_cons.1 hu with rfl | hu
   · exact ⟨x,by simp,h1⟩
   ·obtain ⟨y,hy,h3⟩:=dens_mem h2 u hu
    exact ⟨y,by simp [hy],h3⟩
def SV.of:Value→SV
 | .agg cs=>.agg (cs.toList.map .v)
 | x=>.v x
theorem SV.of_den (x:Value):(SV.of x).den ρ E=some x:=by
 unfold SV.of
 split
 · simp [SV.den,dens_v]
 · rfl
def SV.cells:SV→List SV
 | .agg l=>l
 | .v (.agg cs)=>cs.toList.map .v
 | x=>[x]
theorem SV.cells_den {v:SV} {x:Value} (h:v.den ρ E=some x)(ho : ∀ i,v≠.opq i):SV.dens ρ E v.cells=some x.cells.toList:=by
 cases v with
 | v y =>
   cases h
   unfold SV.cells
   split
   · rename_i e;cases e
   · rename_i e;cases e;simp [Value.cells,dens_v]
   ·rename_i h1 h2
    have:x.cells=#[x]:=by
     unfold Value.cells
     split
     · rename_i cs;exact absurd rfl (h2 cs)
     · rfl
    rw [this];exact Q2B rfl rfl
 | opq i=>exact absurd rfl (ho i)
 | agg l =>
   simp only [SV.den,Option.map_eq_some_iff] at h
   obtain ⟨vs,h1,rfl⟩:=h
   simpa [SV.cells,Value.cells] using h1
 | ptr g off =>
   have h':=h
   simp only [SV.den,Option.map_eq_some_iff] at h
   obtain ⟨a,h1,rfl⟩:=h;exact Q2B h' rfl
 | sl g off len cap own =>
   have h':=h
   simp only [SV.den,Option.map_eq_some_iff] at h
   obtain ⟨a,h1,rfl⟩:=h;exact Q2B h' rfl
 | mp g =>
   have h':=h
   simp only [SV.den,Option.map_eq_some_iff] at h
   obtain ⟨a,h1,rfl⟩:=h;exact Q2B h' rfl
 | fn f fi l =>
   have h':=h
   obtain ⟨us,vs,h1,h2,rfl⟩:=fn_den h;exact Q2B h' rfl
 | tup l =>
   have h':=h
   simp only [SV.den,Option.map_eq_some_iff] at h
   obtain ⟨a,h1,rfl⟩:=h;exact Q2B h' rfl
def SV.isOpq:SV→Bool
 | .opq _=>true
 | _=>false
def SV.one:SV→Bool
 | .v x=>x.oneCell'
 | .ptr _ _=>true
 | .sl _ _ _ _ _=>true
 | .mp _=>true
 | .fn _ _ _=>true
 | _=>false
theorem SV.one_den {v:SV} {x:Value} (h:v.den ρ E=some x)(h1:v.one=true):x.oneCell' =true:=by
 cases v with
 | v y=>cases h;exact h1
 | ptr g off=>simp only [SV.den,Option.map_eq_some_iff] at h;obtain ⟨a,_,rfl⟩:=h;rfl
 | sl g off len cap own=>simp only [SV.den,Option.map_eq_some_iff] at h;obtain ⟨a,_,rfl⟩:=h;rfl
 | mp g=>simp only [SV.den,Option.map_eq_some_iff] at h;obtain ⟨a,_,rfl⟩:=h;rfl
 | fn f fi l=>obtain ⟨us,vs,_,_,rfl⟩:=fn_den h;rfl
 | _=>cases h1
theorem ones_den {l:List SV} {vs:List Value} (h:SV.dens ρ E l=some vs)(h1:l.all SV.one=true) : ∀ u∈vs,u.oneCell' =true:=fun u hu=>by
 obtain ⟨x,hx,h2⟩:=dens_mem h u hu
 exact SV.one_den h2 (List.all_eq_true.1 h1 x hx)
end den
inductive Tr where
 | nil
 | node (l:Tr) (x:Option SV) (r:Tr)
noncomputable def Tr.get (t:Tr):Nat→Option SV:=Tr.rec (motive:=fun _=>Nat→Option SV) (fun _=>none) (fun _ x _ gl gr k=>Bool.rec (Bool.rec (gr (Nat.sub (Nat.div k 2) 1)) (gl (Nat.div k 2)) (Nat.beq (Nat.mod k 2) 1)) x (Nat.beq k 0)) t
noncomputable def Tr.set (v : SV)(f : Nat) : Tr→Nat→Tr :=Nat.rec (motive :=fun _=> Tr→Nat→Tr) (fun t _=> t) (fun _ ih t k=> Tr.rec (motive :=fun _=> Tr)
 (Bool.rec (Bool.rec (.node .nil none (ih .nil (Nat.sub (Nat.div k 2) 1))) (.node (ih .nil (Nat.div k 2)) none .nil) (Nat.beq (Nat.mod k 2) 1)) (.node .nil (some v) .nil) (Nat.beq k 0))
 (fun l x r _ _=>Bool.rec (Bool.rec (.node l x (ih r (Nat.sub (Nat.div k 2) 1))) (.node (ih l (Nat.div k 2)) x r) (Nat.beq (Nat.mod k 2) 1)) (.node l (some v) r) (Nat.beq k 0)) t) f
theorem Q3E {a b:Nat} (h:Nat.beq a b=false):a≠b:=fun e=>by rw [e,Nat.beq_refl] at h;cases h
theorem Qw {a b:Nat} (h:Nat.beq a b=true):a=b:=Nat.eq_of_beq_eq_true h
theorem Tr.get_node {l r:Tr} {x:Option SV} {k:Nat}:(Tr.node l x r).get k=if k=0 then x else if k % 2=1 then l.get (k / 2) else r.get (k / 2 - 1):=by
 show (Bool.rec (motive:=fun _=>Option SV) (Bool.rec (motive:=fun _=>Option SV) (r.get (k / 2 - 1)) (l.get (k / 2)) (Nat.beq (k % 2) 1)) x (Nat.beq k 0))=_
 cases h0:Nat.beq k 0 with
 | true=>have:=Qw h0;subst this;rfl
 | false =>
   rw [if_neg (Q3E h0)]
   cases h1:Nat.beq (k % 2) 1 with
   | true=>rw [if_pos (Qw h1)]
   | false=>rw [if_neg (Q3E h1)]
theorem Tr.set_node {v:SV} {f:Nat} {l r:Tr} {x:Option SV} {k:Nat}:Tr.set v (f+1) (.node l x r) k=if k=0 then .node l (some v) r else if k % 2=1 then .node (Tr.set v f l (k / 2)) x r else .node l x (Tr.set v f r (k / 2 - 1)):=by
 show (Bool.rec (motive:=fun _=>Tr) (Bool.rec (motive:=fun _=>Tr) (.node l x (Tr.set v f r (k / 2 - 1))) (.node (Tr.set v f l (k / 2)) x r) (Nat.beq (k % 2) 1)) (.node l (some v) r) (Nat.beq k 0))=_
 cases h0:Nat.beq k 0 with
 | true=>have:=Qw h0;subst this;rfl
 | false =>
   rw [if_neg (Q3E h0)]
   cases h1:Nat.beq (k % 2) 1 with
   | true=>rw [if_pos (Qw h1)]
   | false=>rw [if_neg (Q3E h1)]
theorem Tr.set_nil {v:SV} {f:Nat} {k:Nat}:Tr.set v (f+1) .nil k=Tr.set v (f+1) (.node .nil none .nil) k:=rfl
theorem Tr.nil_get {k:Nat}:Tr.nil.get k=(Tr.node .nil none .nil).get k:=by
 rw [Tr.get_node]
 have : ∀ j,Tr.nil.get j=none:=fun _=>rfl
 simp [this]
theorem Tr.get_set {v:SV} : ∀ (f:Nat) (t:Tr) (k j:Nat),k + 1 < 2 ^ f → (Tr.set v f t k).get j = if j = k then some v else t.get j
 | 0,_,k,_,h=>by simp at h
 | f + 1,t,k,j,h=>by
   have key : ∀ l x r,(Tr.set v (f + 1) (.node l x r) k).get j = if j = k then some v else (Tr.node l x r).get j:=by
    intro l x r
    rw [Nat.pow_succ] at h
    rw [Tr.set_node]
    by_cases h0:k=0
    ·subst h0
     rw [if_pos rfl,Tr.get_node,Tr.get_node]
     by_cases hj:j=0 <;> simp [hj]
    ·rw [if_neg h0]
     by_cases h1:k % 2=1
     ·rw [if_pos h1,Tr.get_node,Tr.get_node,Tr.get_set f _ _ _ (by omega)]
      by_cases hj:j=0
      · rw [if_pos hj,if_pos hj,if_neg (by omega)]
      ·rw [if_neg hj,if_neg hj]
       by_cases hj1:j % 2=1
       ·rw [if_pos hj1,if_pos hj1]
        by_cases e:j=k
        · subst e;simp
        · rw [if_neg (by omega),if_neg e]
       · rw [if_neg hj1,if_neg hj1,if_neg (by omega)]
     ·rw [if_neg h1,Tr.get_node,Tr.get_node,Tr.get_set f _ _ _ (by omega)]
      by_cases hj:j=0
      · rw [if_pos hj,if_pos hj,if_neg (by omega)]
      ·rw [if_neg hj,if_neg hj]
       by_cases hj1:j % 2=1
       · rw [if_pos hj1,if_pos hj1,if_neg (by omega)]
       ·rw [if_neg hj1,if_neg hj1]
        by_cases e:j=k
        · subst e;simp
        · rw [if_neg (by omega),if_neg e]
   cases t with
   | nil=>rw [Tr.set_nil,Tr.nil_get];exact key _ _ _
   | node l x r=>exact key l x r
noncomputable def Tr.put (t:Tr)(k:Nat)(v:SV):Tr:=Tr.set v 14 t k
inductive HO where
 | blk (cs:List SV) (ty:Nat)
 | row (cs:List SV) (n sz ty:Nat)
 | mp (es:List (SV×SV×Nat)) (clock:Nat)
 | it (m:Option Nat) (since:Nat) (seen:List Nat) (stepped:Nat)
 | ro (cs:List SV)
abbrev Q1a:=List (Nat×HO)
theorem ownsRow_keep {w w' : World} {e sz b n cap:Nat} {xs:List Value} (h:w.ownsRow 0 e sz (.slice (some ⟨b,0,none⟩) n cap) n xs)(hb:w'.heap[b]? =w.heap[b]?):w'.ownsRow 0 e sz (.slice (some ⟨b,0,none⟩) n cap) n xs:=by
 refine ⟨h.1,?_⟩
 rcases h.2 with ⟨h0,_⟩ | ⟨g,c,cur,hv,h1,h2,h3⟩
 · cases h0
 · cases hv;exact .inr ⟨_,_,cur,rfl,h1,hb.trans h2,h3⟩
def rowF (e sz b n cap:Nat)(xs:List Value):Fact :=
 .raw (fun N w=>N b∧w.ownsRow 0 e sz (.slice (some ⟨b,0,none⟩) n cap) n xs) (fun hN ha h=>⟨hN _ h.1,ownsRow_keep h.2 (ha _ h.1)⟩)
def objF (b:Nat)(o:Obj):Fact:=.raw (fun N w=>N b∧w.heap[b]? =some o) (fun hN ha h=>⟨hN _ h.1,(ha _ h.1).trans h.2⟩)
def cellsF (b:Nat)(vs:List Value):Fact:=.raw (fun N w=>N b∧Q3D w b 0 vs) (fun hN ha h=>⟨hN _ h.1,h.2.agree ha h.1⟩)
def Q3Z (ρ:Env)(E:List Value):List (SV×SV×Nat)→List MapEntry→Prop
 | [],[]=>True
 | (k,v,b) :: r,e :: s=>k.den ρ E=some e.key∧v.den ρ E=some e.val∧b=e.born∧Q3Z ρ E r s
 | _,_=>False
def IterM (ρ:Env):Option Nat→Option Nat→Prop
 | none,none=>True
 | some g,some b=>∃ c,ρ g=some (b,c,0)
 | _,_=>False
def HO.isFact (ρ:Env)(E:List Value)(g:Nat):HO→Fact→Prop
 | .blk cs ty,φ=>∃ b c vs,ρ g=some (b,c,0)∧SV.dens ρ E cs=some vs∧φ=.blk b vs ty
 | .row cs n sz ty,φ=>∃ b c vs,ρ g=some (b,c,0)∧SV.dens ρ E cs=some vs∧φ=rowF ty sz b n c vs
 | .mp es clock,φ=>∃ b c es',ρ g=some (b,c,0)∧Q3Z ρ E es es' ∧φ=objF b (.map es'.toArray clock)
 | .it m since seen stepped,φ=>∃ b c bm,ρ g=some (b,c,0)∧IterM ρ m bm∧φ=objF b (.mapIter bm since seen.toArray stepped)
 | .ro cs,φ=>∃ b c vs,ρ g=some (b,c,0)∧SV.dens ρ E cs=some vs∧φ=cellsF b vs
def Q4q (ρ:Env)(E:List Value):Q1a→List Fact→Prop
 | [],[]=>True
 | (g,o) :: r,φ :: H=>o.isFact ρ E g φ∧Q4q ρ E r H
 | _,_=>False
noncomputable def hget (hp:Q1a)(k:Nat):Option HO:=List.rec (motive:=fun _=>Option HO) none (fun p _ ih=>Bool.rec ih (some p.2) (Nat.beq p.1 k)) hp
theorem hget_cons {g k:Nat} {o:HO} {r:Q1a}:hget ((g,o) :: r) k=match Nat.beq g k with
  | true=>some o
  | false=>hget r k:=by
 show (Bool.rec (motive:=fun _=>Option HO) (hget r k) (some o) (Nat.beq g k))=_
 cases Nat.beq g k <;> rfl
def hset:Q1a→Nat→HO→Q1a
 | [],_,_=>[]
 | (g,o) :: r,k,o'=>match Nat.beq g k with
   | true=>(g,o') :: r
   | false=>(g,o) :: hset r k o'
def hrep:Q1a→Nat→Nat→HO→Q1a
 | [],_,_,_=>[]
 | (g,o) :: r,k,k',o'=>match Nat.beq g k with
   | true=>(k',o') :: r
   | false=>(g,o) :: hrep r k k' o'
section heap
variable {ρ ρ' : Env} {E:List Value}
theorem IterM.mono (h : ρ.le ρ') {m bm:Option Nat} (hm:IterM ρ m bm):IterM ρ' m bm:=by
 cases m <;> cases bm <;> first | exact hm | (obtain ⟨c,hc⟩:=hm;exact ⟨c,h _ _ hc⟩)
theorem Q3Z.mono (h : ρ.le ρ') : ∀ {l:List (SV×SV×Nat)} {m:List MapEntry},Q3Z ρ E l m→Q3Z ρ' E l m
 | [],[],_=>trivial
 | (_,_,_) :: _,_ :: _,hd=>⟨SV.den_mono h _ _ hd.1,SV.den_mono h _ _ hd.2.1,hd.2.2.1,Q3Z.mono h hd.2.2.2⟩
 | [],_ :: _,hd=>hd.elim
 | _ :: _,[],hd=>hd.elim
theorem HO.isFact_mono (h : ρ.le ρ') {g:Nat} {o:HO} {φ:Fact} (hf:o.isFact ρ E g φ):o.isFact ρ' E g φ:=by
 cases o with
 | blk cs ty=>obtain ⟨b,c,vs,h1,h2,h3⟩:=hf;exact ⟨b,c,vs,h _ _ h1,SV.dens_mono h _ _ h2,h3⟩
 | row cs n sz ty=>obtain ⟨b,c,vs,h1,h2,h3⟩:=hf;exact ⟨b,c,vs,h _ _ h1,SV.dens_mono h _ _ h2,h3⟩
 | mp es c=>obtain ⟨b,c',es',h1,h2,h3⟩:=hf;exact ⟨b,c',es',h _ _ h1,h2.mono h,h3⟩
 | it m since seen stepped=>obtain ⟨b,c,bm,h1,h2,h3⟩:=hf;exact ⟨b,c,bm,h _ _ h1,IterM.mono h h2,h3⟩
 | ro cs=>obtain ⟨b,c,vs,h1,h2,h3⟩:=hf;exact ⟨b,c,vs,h _ _ h1,SV.dens_mono h _ _ h2,h3⟩
theorem Q4q.mono (h : ρ.le ρ') : ∀ {hp:Q1a} {H:List Fact},Q4q ρ E hp H→Q4q ρ' E hp H
 | [],[],_=>trivial
 | (_,_) :: _,_ :: _,hd=>⟨HO.isFact_mono h hd.1,Q4q.mono h hd.2⟩
 | [],_ :: _,hd=>hd.elim
 | _ :: _,[],hd=>hd.elim
theorem Q2L : ∀ {hp:Q1a} {H:List Fact} {g:Nat} {o:HO},Q4q ρ E hp H→hget hp g=some o→
   ∃ k φ,H[k]? =some φ∧o.isFact ρ E g φ∧(∀ ρ' o' φ',ρ.le ρ' →o'.isFact ρ' E g φ' →Q4q ρ' E (hset hp g o') (H.set k φ'))∧(∀ ρ' g' o' φ',ρ.le ρ' →o'.isFact ρ' E g' φ' →Q4q ρ' E (hrep hp g g' o') (H.set k φ'))
 | [],_,_,_,_,h=>by cases h
 | (g',o') :: r,[],_,_,hd,_=>hd.elim
 | (g',o') :: r,φ :: H,g,o,hd,h=>by
   rw [hget_cons] at h
   cases hb:Nat.beq g' g with
   | true =>
     simp only [hb,Option.some.injEq] at h
     subst h
     have:=Qw hb;subst this
     refine ⟨0,φ,rfl,hd.1,fun ρ' o2 φ2 hle h2=>?_,fun ρ' g2 o2 φ2 hle h2=>?_⟩
     · simp only [hset,hb];exact ⟨h2,Q4q.mono hle hd.2⟩
     · simp only [hrep,hb];exact ⟨h2,Q4q.mono hle hd.2⟩
   | false =>
     simp only [hb] at h
     obtain ⟨k,ψ,h1,h2,h3,h4⟩:=Q2L hd.2 h
     refine ⟨k+1,ψ,by simpa using h1,h2,fun ρ' o2 φ2 hle h5=>?_,fun ρ' g2 o2 φ2 hle h5=>?_⟩
     · simp only [hset,hb];exact ⟨HO.isFact_mono hle hd.1,h3 ρ' o2 φ2 hle h5⟩
     · simp only [hrep,hb];exact ⟨HO.isFact_mono hle hd.1,h4 ρ' g2 o2 φ2 hle h5⟩
def HO.cs:HO→Option (List SV)
 | .blk cs _=>some cs
 | .row cs _ _ _=>some cs
 | .ro cs=>some cs
 | _=>none
theorem ownsRow_cells {w:World} {e sz b n cap:Nat} {xs:List Value} (h:w.ownsRow 0 e sz (.slice (some ⟨b,0,none⟩) n cap) n xs):Q3D w b 0 xs:=fun j u hu=>by
 have:=h.cells (g:=b) rfl j u hu
 rw [Q4R] at this
 exact this
theorem HO.cells_at {o:HO} {g:Nat} {φ:Fact} {cs:List SV} (hf:o.isFact ρ E g φ)(hc:o.cs=some cs) : ∃ b c vs,ρ g=some (b,c,0)∧SV.dens ρ E cs=some vs∧∀ N F w,φ.op N F w→Q3D w b 0 vs:=by
 cases o with
 | blk cs' ty =>
   cases hc
   obtain ⟨b,c,vs,h1,h2,rfl⟩:=hf
   exact ⟨b,c,vs,h1,h2,fun N F w h=>Qbr h.2⟩
 | row cs' n sz ty =>
   cases hc
   obtain ⟨b,c,vs,h1,h2,rfl⟩:=hf
   exact ⟨b,c,vs,h1,h2,fun N F w h=>ownsRow_cells h.2⟩
 | ro cs' =>
   cases hc
   obtain ⟨b,c,vs,h1,h2,rfl⟩:=hf
   exact ⟨b,c,vs,h1,h2,fun N F w h=>h.2⟩
 | mp es c=>cases hc
 | it m since seen stepped=>cases hc
def Q9h (ρ:Env)(lo hi:Nat):Prop:=∀ g,lo≤g→g < hi→ρ g=none
structure Ext (ρ ρ' : Env) (lo hi:Nat):Prop where
 le : ρ.le ρ'
 out : ∀ g,ρ g=none→g < lo∨hi≤g→ρ' g=none
theorem Ext.refl (ρ:Env)(lo hi:Nat):Ext ρ ρ lo hi:=⟨fun _ _ h=>h,fun _ h _=>h⟩
theorem Ext.trans {ρ ρ' ρ'' : Env} {lo lo' hi hi' : Nat} (h:Ext ρ ρ' lo hi)(k:Ext ρ' ρ'' lo' hi')(hl:lo≤lo')(hh:hi' ≤hi):Ext ρ ρ'' lo hi :=
 ⟨fun g e he=>k.le g e (h.le g e he),fun g hg ho=>k.out g (h.out g hg ho) (by omega)⟩
def Env.put (ρ:Env)(g:Nat)(e:Nat×Nat×Nat):Env:=fun k=>if k=g then some e else ρ k
theorem Env.put_ext {ρ:Env} {g hi:Nat} {e:Nat×Nat×Nat} (hg : ρ g=none)(hlt:g < hi):Ext ρ (ρ.put g e) g hi :=
 ⟨fun k x hk=>by unfold Env.put;split <;> simp_all,fun k hk ho=>by unfold Env.put;rw [if_neg (by omega)];exact hk⟩
theorem Env.put_same {ρ:Env} {g:Nat} {e:Nat×Nat×Nat}:(ρ.put g e) g=some e:=by simp [Env.put]
theorem Env.put_free {ρ:Env} {g hi:Nat} {e:Nat×Nat×Nat} (h:Q9h ρ g hi):Q9h (ρ.put g e) (g+1) hi:=fun k h1 h2=>by unfold Env.put;rw [if_neg (by omega)];exact h k (by omega) h2
end heap
structure Rel (ρ:Env) (E:List Value) (fr:Tr) (hp:Q1a) (S:List (Nat×Value)) (H:List Fact):Prop where
 fr : ∀ k v,fr.get k=some v→∃ x,v.den ρ E=some x∧look S k=some x
 hp:Q4q ρ E hp H
theorem QdY {d k:Nat} (hne:k≠d) : ∀ {S:List (Nat×Value)},look (Q4p d S) k=look S k
 | []=>rfl
 | (j,v) :: r=>by
   unfold Q4p
   split
   ·rename_i hb
    have:=Qw hb
    subst this
    have:Nat.beq j k=false:=by cases h:Nat.beq j k with | false=>rfl | true=>exact absurd (Qw h).symm hne
    simp only [look,this];exact QdY hne
   ·simp only [look]
    cases Nat.beq j k with
    | true=>rfl
    | false=>exact QdY hne
theorem Rel.put {ρ ρ' : Env} {E:List Value} {fr:Tr} {hp hp' : Q1a} {S:List (Nat×Value)} {H H' : List Fact} (h:Rel ρ E fr hp S H)(hle : ρ.le ρ') {d:Nat} {v:SV} {x:Value} (hd:d+1 < 2 ^ 14)(hv:v.den ρ' E=some x)(hH:Q4q ρ' E hp' H') :
  Rel ρ' E (fr.put d v) hp' ((d,x) :: Q4p d S) H':=by
 refine ⟨fun k u hk=>?_,hH⟩
 unfold Tr.put at hk
 rw [Tr.get_set 14 _ _ _ hd] at hk
 split at hk
 ·rename_i e;subst e;cases hk
  exact ⟨x,hv,by simp [look]⟩
 ·rename_i hne
  obtain ⟨y,h1,h2⟩:=h.fr k u hk
  refine ⟨y,SV.den_mono hle _ _ h1,?_⟩
  have:Nat.beq d k=false:=by cases hb:Nat.beq d k with | false=>rfl | true=>exact absurd (Qw hb).symm hne
  simp only [look,this]
  rw [QdY hne];exact h2
theorem Rel.mono {ρ ρ' : Env} {E:List Value} {fr:Tr} {hp hp' : Q1a} {S:List (Nat×Value)} {H H' : List Fact} (h:Rel ρ E fr hp S H)(hle : ρ.le ρ')(hH:Q4q ρ' E hp' H'):Rel ρ' E fr hp' S H' :=
 ⟨fun k u hk=>by obtain ⟨y,h1,h2⟩:=h.fr k u hk;exact ⟨y,SV.den_mono hle _ _ h1,h2⟩,hH⟩
end
end Go.Proofs.YtbgodclhmgmcgaaGreatDoor
