import Derived.Test.YtbgodclhmgmcgaaGreatDoorTokM
import Derived.Test.YtbgodclhmgmcgaaGreatDoorNaivP
namespace Go.Proofs.YtbgodclhmgmcgaaGreatDoor
open Go Go.RowKit
def kE (z:Int):Qc:=⟨0,⟨0,0,(⟨#[]⟩ : ByteArray)⟩,mkd z,0,[],[]⟩
mutual
def sE:Q4→Qc
 | ⟨a,b,c,d,l⟩=>⟨a,b,c,d,sEs l,tlM kE⟩
def sEs:List Q4→List Qc
 | []=>[]
 | x :: l=>sE x :: sEs l
end
theorem sEs_map : ∀ l:List Q4,sEs l=l.map sE
 | []=>by simp [sEs]
 | x :: l=>by simp only [sEs,List.map_cons];rw [sEs_map l]
theorem sE_eq (x:Q4):sE x=⟨x.kind,x.value,x.var,x.op,x.kids.map sE,tlM kE⟩:=by cases x;simp only [sE];rw [sEs_map]
mutual
theorem sE_to : ∀ x:Q4,Q63 (sE x)=x
 | ⟨a,b,c,d,l⟩=>by rw [Q9t];simp only [sE];rw [sEs_to l]
theorem sEs_to : ∀ l:List Q4,(sEs l).map Q63=l
 | []=>by simp [sEs]
 | x :: l=>by simp only [sEs,List.map_cons];rw [sE_to x,sEs_to l]
end
theorem lentExpr_row : ∀ (m N:Nat)(x:Q4),Q8a x≤m→m≤1000000→9223372036854775808+m≤N→
   Q2C N x.kind x.value.k x.value.n x.value.s x.var x.op x.kids=some (Q9x sE kE x.kids):=by
 intro m
 induction m with
 | zero=>intro N x h;rw [Q56] at h;omega
 | succ m ih =>
   intro N x h hm hN
   obtain ⟨N,rfl⟩ : ∃ k,N=k+1:=⟨N - 1,by omega⟩
   have hk:Q2r x.kids≤m:=by rw [Q56] at h;omega
   have hl:=Q4o x.kids
   show Q45 N (Q2C N) _ _ _ _ _ _ _=_
   unfold Q45 Q4W
   rw [Qr (by omega),Qr (by omega),head_is (s:=sE) (l:=x.kids) (by omega) (fun i acc hi hacc=>by
    unfold Q2u
    simp only
    have hc:=Q55 (List.getElem_mem hi)
    rw [if_pos (by simpa using hi),List.getElem?_eq_getElem hi,Q0,ih N x.kids[i] (by omega) (by omega) (by omega),Q0,Qr (by rw [Q8r];omega),Qr (by simp;omega),Qr (by omega)]
    unfold Q9x
    rw [Qd4,Qbt,sE_eq]) (fun acc=>by unfold Q2u;simp only;rw [if_neg (by simp)]),Q0,Qbc (k:=kE) (by omega) (fun i acc hi hacc=>by
    unfold Q2v
    simp only
    simp at hacc
    rw [if_pos (by simpa using hi),show Q1q N 1 ((i:Nat):Int)=some () from rfl,Q0,Qr (by simp;omega),Qr (by omega)]
    rfl) (fun acc=>by unfold Q2v;simp only;rw [if_neg (by simp)]),Q0,Qr (by simp),Q0]
   rfl
theorem lentExprs_row {N:Nat} {l:List Q4} (hl:Q2r l≤1000)(hN : 9223372036854775808+1000000≤N):Q4v N l=some (Q9x sE kE l):=by
 have h0:=Q4o l
 unfold Q4v
 rw [Qr (by omega),Qr (by omega),head_is (s:=sE) (l:=l) (by omega) (fun i acc hi hacc=>by
  unfold Q3n
  simp only
  have hc:=Q55 (List.getElem_mem hi)
  rw [if_pos (by simpa using hi),List.getElem?_eq_getElem hi,Q0,lentExpr_row 1000 N l[i] (by omega) (by omega) (by omega),Q0,Qr (by rw [Q8r];omega),Qr (by simp;omega),Qr (by omega)]
  unfold Q9x
  rw [Qd4,Qbt,sE_eq]) (fun acc=>by unfold Q3n;simp only;rw [if_neg (by simp)]),Q0,Qbc (k:=kE) (by omega) (fun i acc hi hacc=>by
  unfold Q3o
  simp only
  simp at hacc
  rw [if_pos (by simpa using hi),show Q1q N 1 ((i:Nat):Int)=some () from rfl,Q0,Qr (by simp;omega),Qr (by omega)]
  rfl) (fun acc=>by unfold Q3o;simp only;rw [if_neg (by simp)]),Q0,Qr (by simp)]
 rfl
theorem Q9Y : ∀ (m N:Nat)(x:Q4)(t:List Qc),Q8a x≤m→m≤1000000→9223372036854775808+m≤N→
   QK N x.kind x.value.k x.value.n x.value.s x.var x.op (x.kids.map sE++t) x.kids.length x.kind x.value.k x.value.n x.value.s x.var x.op x.kids=some true:=by
 intro m
 induction m with
 | zero=>intro N x t h;rw [Q56] at h;omega
 | succ m ih =>
   intro N x t h hm hN
   obtain ⟨N,rfl⟩ : ∃ k,N=k+1:=⟨N - 1,by omega⟩
   have hk:Q2r x.kids≤m:=by rw [Q56] at h;omega
   have hl:=Q4o x.kids
   show Q3s N (QK N) _ _ _ _ _ _ _ _ _ _ _ _ _ _ _=_
   unfold Q3s Q6O
   have h1:Q4f N (QK N) (x.kids.map sE++t) x.kids.length x.kids=some true :=
    QaC (s:=sE) (E:=fun x y=>QK N x.kind x.value.k x.value.n x.value.s x.var x.op (x.kids++x.kidsT) x.kids.length y.kind y.value.k y.value.n y.value.s y.var y.op y.kids) (by omega) (by omega) (fun y hy=>by
     have hc:=Q55 hy
     rw [sE_eq]
     simp only [List.length_map]
     exact ih N y (tlM kE) (by omega) (by omega) (by omega))
   rw [if_pos (by simp),if_pos (by simp),if_pos (by simp),if_pos (by simp),h1]
   rfl
theorem markExpr_row {N:Nat} (hN : 9223372036854775808≤N)(z:Int):QK (N+1) (kE z).kind (kE z).value.k (kE z).value.n (kE z).value.s (kE z).var (kE z).op ((kE z).kids++(kE z).kidsT) (kE z).kids.length 0 0 0 (⟨#[]⟩ : ByteArray) (mkd z) 0 ([] : List Q4)=some true:=by
 have:=Q9Y 1 (N+1) ⟨0,⟨0,0,⟨#[]⟩⟩,mkd z,0,[]⟩ [] (by simp [Q8a,Q2r]) (by omega) (by omega)
 exact this
theorem keptExpr_row : ∀ (m N:Nat)(x:Q4),Q8a x≤m→m≤1000000→9223372036854775808+m+1≤N→
   Q1y N x.kind x.value.k x.value.n x.value.s x.var x.op (x.kids.map sE++tlM kE) x.kids.length x.kind x.value.k x.value.n x.value.s x.var x.op x.kids=some true:=by
 intro m
 induction m with
 | zero=>intro N x h;rw [Q56] at h;omega
 | succ m ih =>
   intro N x h hm hN
   obtain ⟨N,rfl⟩ : ∃ k,N=k+1:=⟨N - 1,by omega⟩
   have hk:Q2r x.kids≤m:=by rw [Q56] at h;omega
   have hl:=Q4o x.kids
   show Q3k N (Q1y N) _ _ _ _ _ _ _ _ _ _ _ _ _ _ _=_
   unfold Q3k
   have h1:Q4e N (Q1y N) (x.kids.map sE++tlM kE) x.kids.length x.kids=some true :=
    Q9Q (s :=sE) (k :=kE) (E :=fun x y=> Q1y N x.kind x.value.k x.value.n x.value.s x.var x.op (x.kids++x.kidsT) x.kids.length y.kind y.value.k y.value.n y.value.s y.var y.op y.kids) (mk :=Q1q N 1)
     (M:=fun x z=>QK N x.kind x.value.k x.value.n x.value.s x.var x.op (x.kids ++ x.kidsT) x.kids.length 0 0 0 (⟨#[]⟩ : ByteArray) (mkd z) 0 ([] : List Q4)) (by omega) (by omega) (fun y hy=>by
      have hc:=Q55 hy
      rw [sE_eq]
      simp only [List.length_map]
      exact ih N y (by omega) (by omega) (by omega)) (fun _=>rfl) (fun z=>by
      obtain ⟨q,rfl⟩ : ∃ q,N=q+1:=⟨N - 1,by omega⟩
      exact markExpr_row (by omega) z)
   rw [Q9Y (m+1) N x _ h hm (by omega),Q0,if_pos rfl,h1]
   rfl
theorem keptExprs_row {N:Nat} {l:List Q4} (hl:Q2r l≤1000)(hN : 9223372036854775808+1000000≤N):Q5j N (l.map sE++tlM kE) l.length l=some true:=by
 have h0:=Q4o l
 exact Q9Q (s :=sE) (k :=kE) (E :=fun x y=> Q1y N x.kind x.value.k x.value.n x.value.s x.var x.op (x.kids++x.kidsT) x.kids.length y.kind y.value.k y.value.n y.value.s y.var y.op y.kids) (mk :=Q1q N 1)
  (M:=fun x z=>QK N x.kind x.value.k x.value.n x.value.s x.var x.op (x.kids ++ x.kidsT) x.kids.length 0 0 0 (⟨#[]⟩ : ByteArray) (mkd z) 0 ([] : List Q4)) (by omega) (by omega) (fun y hy=>by
   have hc:=Q55 hy
   rw [sE_eq]
   simp only [List.length_map]
   exact keptExpr_row 1000 N y (by omega) (by omega) (by omega)) (fun _=>rfl) (fun z=>by
   obtain ⟨q,rfl⟩ : ∃ q,N=q+1:=⟨N - 1,by omega⟩
   exact markExpr_row (by omega) z)
theorem Qev {N:Nat} {l:List Q4} {t:List Qc} (hl:Q2r l≤1000)(hN : 9223372036854775808+1000000≤N):Q3N N (l.map sE++t) l.length l=some true:=by
 have h0:=Q4o l
 exact QaC (s:=sE) (E:=fun x y=>QK N x.kind x.value.k x.value.n x.value.s x.var x.op (x.kids++x.kidsT) x.kids.length y.kind y.value.k y.value.n y.value.s y.var y.op y.kids) (by omega) (by omega) (fun y hy=>by
  have hc:=Q55 hy
  rw [sE_eq]
  simp only [List.length_map]
  exact Q9Y 1000 N y (tlM kE) (by omega) (by omega) (by omega))
section
variable {N:Nat} (hN : 9223372036854775808 + 1000000 ≤ N)
def sCd (c:Qn):QM:=⟨c.kind,c.type,c.args,tlM kA,sE c.test⟩
def kCd (z:Int):QM:=⟨0,mkd z,[],[],⟨0,⟨0,0,(⟨#[]⟩ : ByteArray)⟩,0,0,[],[]⟩⟩
def okC (c:Qn):Prop:=c.args.length≤1000∧Q8a c.test≤1000
def okA (a:QO):Prop:=Q2r a.exprs≤1000
include hN
theorem sameCond_row {c:Qn} (hc:okC c):Q1j N c.kind c.type (c.args++tlM kA) c.args.length c.test.kind c.test.value.k c.test.value.n c.test.value.s c.test.var c.test.op (c.test.kids.map sE++tlM kE) c.test.kids.length c.kind c.type c.args c.test.kind c.test.value.k c.test.value.n c.test.value.s c.test.var c.test.op c.test.kids=some true:=by
 obtain ⟨h1,h2⟩:=hc
 unfold Q1j Q4G
 rw [if_pos (by simp),if_pos (by simp),sameArgs_row (by omega) (by omega),Q0,if_pos rfl,Q9Y 1000 N c.test _ h2 (by omega) (by omega)]
 rfl
theorem lentConds_row {l:List Qn} (hl:l.length≤1172812402949)(hc : ∀ c∈l,okC c):Q4u N l=some (Q9x sCd kCd l):=by
 unfold Q4u
 rw [Qr (by omega),Qr (by omega),head_is (s:=sCd) (l:=l) (by omega) (fun i acc hi hacc=>by
  unfold Q3l Q6J
  simp only
  obtain ⟨h1,h2⟩:=hc _ (List.getElem_mem hi)
  have h3:=Q56 l[i].test
  have h4:=Q4o l[i].test.kids
  rw [if_pos (by simpa using hi),List.getElem?_eq_getElem hi,Q0,LentArgs_row (by omega) (by omega),Q0,lentExpr_row 1000 N l[i].test h2 (by omega) (by omega),Q0,Q0]
  simp only
  rw [Qr (by simp),Qr (by rw [Q8r];omega),Qr (by simp;omega),Qr (by omega),List.take_left' rfl,List.drop_left' rfl]
  unfold Q9x
  rw [Qd4,Qbt]
  unfold sCd
  rw [sE_eq]) (fun acc=>by unfold Q3l;simp only;rw [if_neg (by simp)]),Q0,Qbc (k:=kCd) (by omega) (fun i acc hi hacc=>by
  unfold Q3m
  simp only
  simp at hacc
  rw [if_pos (by simpa using hi),show Q2D N 1 ((i:Nat):Int)=some () from rfl,Q0,Qr (by simp;omega),Qr (by omega)]
  rfl) (fun acc=>by unfold Q3m;simp only;rw [if_neg (by simp)]),Q0,Qr (by simp)]
 rfl
theorem keptConds_row {l:List Qn} (hl:l.length≤1172812402949)(hc : ∀ c∈l,okC c):Q5i N (l.map sCd++tlM kCd) l.length l=some true :=
 Q9Q (s :=sCd) (k :=kCd) (E :=fun x y=> Q43 N x.kind x.type (x.args++x.argsT) x.args.length x.test.kind x.test.value.k x.test.value.n x.test.value.s x.test.var x.test.op (x.test.kids++x.test.kidsT) x.test.kids.length y.kind y.type y.args y.test.kind y.test.value.k y.test.value.n y.test.value.s y.test.var y.test.op y.test.kids) (mk :=Q2D N 1)
  (M:=fun x z=>Q1j N x.kind x.type (x.args ++ x.argsT) x.args.length x.test.kind x.test.value.k x.test.value.n x.test.value.s x.test.var x.test.op (x.test.kids ++ x.test.kidsT) x.test.kids.length 0 (mkd z) ([] : List Q1n) 0 0 0 (⟨#[]⟩ : ByteArray) 0 0 ([] : List Q4)) (by omega) (by omega) (fun c hm=>by
   have hk:=hc _ hm
   unfold sCd
   rw [sE_eq]
   simp only [List.length_map]
   unfold Q43
   rw [sameCond_row hN hk,Q0,if_pos rfl,keptArgs_row (by have:=hk.1;omega) (by omega),Q0,if_pos rfl,keptExpr_row 1000 N c.test hk.2 (by omega) (by omega)]
   rfl) (fun _=>rfl) (fun z=>by
   have e:QK N 0 0 0 (⟨#[]⟩ : ByteArray) 0 0 [] 0 0 0 0 (⟨#[]⟩ : ByteArray) 0 0 []=some true:=Q9Y 1 N ⟨0,⟨0,0,⟨#[]⟩⟩,0,0,[]⟩ [] (by simp [Q8a,Q2r]) (by omega) (by omega)
   unfold Q1j Q4G
   rw [if_pos (by simp [kCd]),if_pos (by simp [kCd]),show Q48 N ((kCd z).args++(kCd z).argsT) (kCd z).args.length []=some true from sameArgs_row (l:=[]) (t:=[]) (by simp) (by omega),Q0,if_pos rfl,
    show QK N (kCd z).test.kind (kCd z).test.value.k (kCd z).test.value.n (kCd z).test.value.s (kCd z).test.var (kCd z).test.op ((kCd z).test.kids++(kCd z).test.kidsT) (kCd z).test.kids.length 0 0 0 (⟨#[]⟩ : ByteArray) 0 0 []=some true from e]
   rfl)
theorem Qeu {l:List Qn} {t:List QM} (hl:l.length≤1172812402949)(hc : ∀ c∈l,okC c):Q3M N (l.map sCd++t) l.length l=some true :=
 QaC (s:=sCd) (E:=fun x y=>Q1j N x.kind x.type (x.args++x.argsT) x.args.length x.test.kind x.test.value.k x.test.value.n x.test.value.s x.test.var x.test.op (x.test.kids++x.test.kidsT) x.test.kids.length y.kind y.type y.args y.test.kind y.test.value.k y.test.value.n y.test.value.s y.test.var y.test.op y.test.kids) (by omega) (by omega) (fun c hm=>by
  have hk:=hc _ hm
  unfold sCd
  rw [sE_eq]
  simp only [List.length_map]
  exact sameCond_row hN hk)
omit hN in
def sAc (a:QO):QS:=⟨a.kind,a.type,a.which,a.exprs.map sE,tlM kE⟩
omit hN in
def kAc (z:Int):QS:=⟨0,mkd z,0,[],[]⟩
theorem sameAct_row {a:QO} (ha:okA a):Q1s N a.kind a.type a.which (a.exprs.map sE++tlM kE) a.exprs.length a.kind a.type a.which a.exprs=some true:=by
 unfold Q1s Q4X
 rw [if_pos (by simp),if_pos (by simp),if_pos (by simp),Qev ha hN]
 rfl
theorem lentActs_row {l:List QO} (hl:l.length≤2932031007389)(hc : ∀ a∈l,okA a):Q4U N l=some (Q9x sAc kAc l):=by
 unfold Q4U
 rw [Qr (by omega),Qr (by omega),head_is (s:=sAc) (l:=l) (by omega) (fun i acc hi hacc=>by
  unfold Q3I Q7d
  simp only
  have h2:=hc _ (List.getElem_mem hi)
  rw [if_pos (by simpa using hi),List.getElem?_eq_getElem hi,Q0,lentExprs_row h2 hN,Q0,Q0,Qr (by rw [Q8r];omega),Qr (by simp;omega),Qr (by omega)]
  unfold Q9x
  rw [Qd4,Qbt]
  rfl) (fun acc=>by unfold Q3I;simp only;rw [if_neg (by simp)]),Q0,Qbc (k:=kAc) (by omega) (fun i acc hi hacc=>by
  unfold Q3J
  simp only
  simp at hacc
  rw [if_pos (by simpa using hi),show Q30 N 1 ((i:Nat):Int)=some () from rfl,Q0,Qr (by simp;omega),Qr (by omega)]
  rfl) (fun acc=>by unfold Q3J;simp only;rw [if_neg (by simp)]),Q0,Qr (by simp)]
 rfl
theorem keptActs_row {l:List QO} (hl:l.length≤2932031007389)(hc : ∀ a∈l,okA a):Q5R N (l.map sAc++tlM kAc) l.length l=some true :=
 Q9Q (s :=sAc) (k :=kAc) (E :=fun x y=> Q4t N x.kind x.type x.which (x.exprs++x.exprsT) x.exprs.length y.kind y.type y.which y.exprs) (mk :=Q30 N 1)
  (M:=fun x z=>Q1s N x.kind x.type x.which (x.exprs ++ x.exprsT) x.exprs.length 0 (mkd z) 0 ([] : List Q4)) (by omega) (by omega) (fun a hm=>by
   have hk:=hc _ hm
   simp only [sAc,List.length_map]
   unfold Q4t
   rw [sameAct_row hN hk,Q0,if_pos rfl,keptExprs_row hk hN]
   rfl) (fun _=>rfl) (fun z=>by
   unfold Q1s Q4X
   rw [if_pos (by simp [kAc]),if_pos (by simp [kAc]),if_pos (by simp [kAc]),show Q3N N ((kAc z).exprs++(kAc z).exprsT) (kAc z).exprs.length []=some true from Qev (l:=[]) (t:=[]) (by simp [Q2r]) hN]
   rfl)
theorem sameActs_row {l:List QO} {t:List QS} (hl:l.length≤2932031007389)(hc : ∀ a∈l,okA a):Q47 N (l.map sAc++t) l.length l=some true :=
 QaC (s:=sAc) (E:=fun x y=>Q1s N x.kind x.type x.which (x.exprs++x.exprsT) x.exprs.length y.kind y.type y.which y.exprs) (by omega) (by omega) (fun a hm=>by
  simp only [sAc,List.length_map]
  exact sameAct_row hN (hc _ hm))
omit hN in
def sRl (r:Qf):Q11:=⟨r.name,r.salience,r.vars,r.conds.map sCd,tlM kCd,r.acts.map sAc,tlM kAc⟩
omit hN in
def kRl (z:Int):Q11:=⟨(⟨#[]⟩ : ByteArray),0,mkd z,[],[],[],[]⟩
omit hN in
structure OkR (r:Qf):Prop where
 cl:r.conds.length≤1172812402949
 c : ∀ x∈r.conds,okC x
 al:r.acts.length≤2932031007389
 a : ∀ x∈r.acts,okA x
theorem sameRule_row {r:Qf} (h:OkR r):Q1k N r.name r.salience r.vars (r.conds.map sCd++tlM kCd) r.conds.length (r.acts.map sAc++tlM kAc) r.acts.length r.name r.salience r.vars r.conds r.acts=some true:=by
 unfold Q1k Q4I
 rw [if_pos (by simp),if_pos (by simp),if_pos (by simp),Qeu hN h.cl h.c,Q0,if_pos rfl,sameActs_row hN h.al h.a]
 rfl
theorem lentRuleRow_row {l:List Qf} (hl:l.length≤1759218604400)(hc : ∀ r∈l,OkR r):Q3L N l=some (Q9x sRl kRl l):=by
 unfold Q3L
 rw [Qr (by omega),Qr (by omega),head_is (s:=sRl) (l:=l) (by omega) (fun i acc hi hacc=>by
  unfold Q2I Q6L
  simp only
  have h2:=hc _ (List.getElem_mem hi)
  rw [if_pos (by simpa using hi),List.getElem?_eq_getElem hi,Q0,lentConds_row hN h2.cl h2.c,Q0,lentActs_row hN h2.al h2.a,Q0,Q0]
  simp only
  rw [Qr (by rw [Q8r];omega),Qr (by rw [Q8r];omega),Qr (by simp;omega),Qr (by omega)]
  unfold Q9x
  rw [Qd4,Qbt,Qd4,Qbt]
  rfl) (fun acc=>by unfold Q2I;simp only;rw [if_neg (by simp)]),Q0,Qbc (k:=kRl) (by omega) (fun i acc hi hacc=>by
  unfold Q2J
  simp only
  simp at hacc
  rw [if_pos (by simpa using hi),show Q2F N 1 ((i:Nat):Int)=some () from rfl,Q0,Qr (by simp;omega),Qr (by omega)]
  rfl) (fun acc=>by unfold Q2J;simp only;rw [if_neg (by simp)]),Q0,Qr (by simp)]
 rfl
theorem keptRuleRow_row {l:List Qf} (hl:l.length≤1759218604400)(hc : ∀ r∈l,OkR r):Q4F N (Q9x sRl kRl l) l.length l=some true :=
 Q9Q (s :=sRl) (k :=kRl) (E :=fun x y=> Q44 N x.name x.salience x.vars (x.conds++x.condsT) x.conds.length (x.acts++x.actsT) x.acts.length y.name y.salience y.vars y.conds y.acts) (mk :=Q2F N 1)
  (M:=fun x z=>Q1k N x.name x.salience x.vars (x.conds ++ x.condsT) x.conds.length (x.acts ++ x.actsT) x.acts.length (⟨#[]⟩ : ByteArray) 0 (mkd z) ([] : List Qn) ([] : List QO)) (by omega) (by omega) (fun r hm=>by
   have h:=hc _ hm
   simp only [sRl,List.length_map]
   unfold Q44
   rw [sameRule_row hN h,Q0,if_pos rfl,keptConds_row hN h.cl h.c,Q0,if_pos rfl,keptActs_row hN h.al h.a]
   rfl) (fun _=>rfl) (fun z=>by
   unfold Q1k Q4I
   rw [if_pos (by simp [kRl]),if_pos (by simp [kRl]),if_pos (by simp [kRl]),show Q3M N ((kRl z).conds++(kRl z).condsT) (kRl z).conds.length []=some true from Qeu hN (l:=[]) (t:=[]) (by simp) (by simp),Q0,if_pos rfl,
    show Q47 N ((kRl z).acts++(kRl z).actsT) (kRl z).acts.length []=some true from sameActs_row hN (l:=[]) (t:=[]) (by simp) (by simp)]
   rfl)
theorem lentRules_row {ts:List Q8} {l:List Qf} (ht:ts.length≤5864062014700)(hl:l.length≤1759218604400)(hc : ∀ r∈l,OkR r):Q4x N ts l=some (ts++tlM kT,Q9x sRl kRl l):=by
 unfold Q4x
 rw [LentTypes_row ht (by omega),Q0,lentRuleRow_row hN hl hc]
 rfl
theorem keptRules_row {ts:List Q8} {l:List Qf} (ht:ts.length≤5864062014700)(hl:l.length≤1759218604400)(hc : ∀ r∈l,OkR r):Q3H N (ts++tlM kT) ts.length (Q9x sRl kRl l) l.length ts l=some true:=by
 have h:Q4H N (Q9x sRl kRl l) l.length l=some true :=
  QaC (s:=sRl) (E:=fun x y=>Q1k N x.name x.salience x.vars (x.conds++x.condsT) x.conds.length (x.acts++x.actsT) x.acts.length y.name y.salience y.vars y.conds y.acts) (by omega) (by omega) (fun r hm=>by
   simp only [sRl,List.length_map]
   exact sameRule_row hN (hc _ hm))
 unfold Q3H Q5m
 rw [sameTypes_row (by omega) (by omega),Q0,if_pos rfl,h,Q0,Q0,if_pos rfl,keptTypes_row (by omega) (by omega),Q0,if_pos rfl,keptRuleRow_row hN hl hc]
 rfl
end
theorem toRules_row {l:List Qf}:((Q9x sRl kRl l).map Q6U).take l.length=l:=by
 have hC : ∀ cs:List Qn,(cs.map sCd).map Q96=cs:=fun cs=>by
  rw [List.map_map,show (Q96 ∘ sCd)=id from funext fun c=>by cases c;simp only [Function.comp,sCd,Q96,id];rw [← Q9t,sE_to],List.map_id]
 have hA : ∀ ls:List QO,(ls.map sAc).map Q9G=ls:=fun ls=>by
  rw [List.map_map,show (Q9G ∘ sAc)=id from funext fun a=>by
   cases a
   simp only [Function.comp,sAc,Q9G,id]
   rw [← sEs_map,sEs_to],List.map_id]
 unfold Q9x
 rw [List.map_append,List.map_map,show (Q6U ∘ sRl)=id from funext fun r=>by
  cases r
  simp only [Function.comp,sRl,Q6U,id]
  rw [hC,hA],List.map_id]
 exact List.take_left' rfl
end Go.Proofs.YtbgodclhmgmcgaaGreatDoor
namespace Go.Proofs.YtbgodclhmgmcgaaGreatDoor
open Go Go.RowKit
theorem naivtok_arg (R:Q9u)(hR:QcH R)(l:List QP)(hl:l.length≤140737488351232∧∀ y∈l,Qe1 y):Q38 9223372036860000000 R.types R.rules l=some true:=by
 have hN : 9223372036854775808+2000000≤NF:=by decide
 show Q38 NF R.types R.rules l=some true
 unfold Q38
 obtain ⟨b,hb,hL⟩:=light_is (N:=NF) (by omega) hR hl.1
 rw [hb,Q0]
 cases b with
 | false=>rfl
 | true =>
   obtain ⟨hq,h40⟩:=hL rfl
   have hok : ∀ r∈R.rules,OkR r:=fun r hr=>by
    have hk:=hR.2.2 r hr
    obtain ⟨q1,q2⟩:=hq r hr
    exact ⟨by have:=hk.2.2.2.1.1;omega,fun c hc=>⟨by have:=(q1 c hc).1;omega,by have:=(q1 c hc).2;omega⟩,by have:=hk.2.2.2.2.1;omega,fun a ha=>by have:=q2 a ha;unfold LightA at this;unfold okA;omega⟩
   have htl:R.types.length≤5864062014700:=by have:=hR.1.1;omega
   have hrl:R.rules.length≤1759218604400:=by have:=hR.2.1;omega
   have hargs : ∀ f∈l,f.args.length≤4398046510976:=fun f hf=>(hl.2 f hf).2.2.1
   have hI:LightIn R.types R.rules l:=lightIn_of hR.1.2 hR.2.2 hl.2 hq h40
   rw [if_neg (by simp),lentRules_row (by omega) htl hrl hok,Q0]
   simp only
   rw [lentFacts_row (by omega) (by omega) hargs,Q0]
   rw [Qr (by simp),Qr (by rw [Q8r];omega),Qr (by rw [Q8r];omega),List.take_left' rfl,toRules_row,toFacts_row,
    tokens_is hN (fun r hr=>⟨hq r hr,lightC_of (hq r hr) (hR.2.2 r hr) h40 hl.2⟩) (by omega) (fun f hf=>(hl.2 f hf).2.2.1),Q0,rtokens_is hN hI,Q0]
   generalize hA:(if rightT R.types R.rules l=true then (if sumR l R.rules≤4096 then (Qa8 l R.rules 0,0) else (([] : List Ql),204)) else (([] : List Ql),2))=A
   obtain ⟨la,ea⟩:=A
   have hla:la.length≤100000∧∀ x∈la,x.ids.length≤8:=by
    split at hA
    ·rename_i hT
     unfold rightT at hT
     simp only [Bool.and_eq_true] at hT
     obtain ⟨h64,h8⟩:=Qe3 hT.1
     split at hA
     ·cases hA
      have:=flatR_len l R.rules 0
      exact ⟨by omega,fun x hx=>flatR_ids h8 hx⟩
     · cases hA;exact ⟨by simp,by simp⟩
    · cases hA;exact ⟨by simp,by simp⟩
   simp only
   unfold Q5G
   rw [if_pos (by simp),(sameToks_is (N:=NF) (by omega) (by omega) (fun x hx=>by have:=hla.2 x hx;omega)).eq_true rfl,Q0,if_pos rfl,keptRules_row (by omega) htl hrl hok,Q0,if_pos rfl,keptFacts_row (by omega) (by omega) hargs,Q0,Q0]
end Go.Proofs.YtbgodclhmgmcgaaGreatDoor
