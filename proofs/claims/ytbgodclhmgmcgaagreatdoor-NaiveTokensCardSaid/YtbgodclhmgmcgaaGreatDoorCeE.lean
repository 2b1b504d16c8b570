import Derived.Test.YtbgodclhmgmcgaaGreatDoorCeD
namespace Go.Proofs.YtbgodclhmgmcgaaGreatDoor
open Go.RowKit
noncomputable section
def DD (ρ:Env)(E:List Value):List (Nat×Nat×HO)→List (Nat×Fact)→Prop
 | [],[]=>True
 | (i,g,o) :: r,(j,φ) :: s=>i=j∧o.isFact ρ E g φ∧DD ρ E r s
 | _,_=>False
section
variable {ρ ρ' : Env} {E:List Value}
theorem IterM.det {m a b:Option Nat} (h:IterM ρ m a)(k:IterM ρ m b):a=b:=by
 cases m <;> cases a <;> cases b <;> first | rfl | exact h.elim | exact k.elim | (obtain ⟨c,hc⟩:=h;obtain ⟨d,hd⟩:=k;rw [hc] at hd;cases hd;rfl)
theorem Q3Z.det : ∀ {l:List (SV×SV×Nat)} {m m' : List MapEntry},Q3Z ρ E l m→Q3Z ρ E l m' →m=m'
 | [],[],[],_,_=>rfl
 | (k,v,b) :: r,⟨ek,ev,eb⟩ :: s,⟨ek',ev',eb'⟩ :: s',h,h'=>by
   obtain ⟨h1,h2,h3,h4⟩:=h
   obtain ⟨k1,k2,k3,k4⟩:=h'
   simp only at h1 h2 h3 k1 k2 k3
   rw [h1] at k1;cases k1
   rw [h2] at k2;cases k2
   subst h3;subst k3
   rw [Q3Z.det h4 k4]
 | [],_ :: _,_,h,_=>h.elim
 | [],[],_ :: _,_,h=>h.elim
 | _ :: _,[],_,h,_=>h.elim
 | _ :: _,_ :: _,[],_,h=>h.elim
theorem HO.isFact_det {g:Nat} {o:HO} {φ ψ:Fact} (h:o.isFact ρ E g φ)(k:o.isFact ρ E g ψ) : φ=ψ:=by
 cases o with
 | blk cs ty =>
   obtain ⟨b,c,vs,h1,h2,rfl⟩:=h
   obtain ⟨b',c',vs',k1,k2,rfl⟩:=k
   rw [h1] at k1;cases k1;rw [h2] at k2;cases k2;rfl
 | row cs n sz ty =>
   obtain ⟨b,c,vs,h1,h2,rfl⟩:=h
   obtain ⟨b',c',vs',k1,k2,rfl⟩:=k
   rw [h1] at k1;cases k1;rw [h2] at k2;cases k2;rfl
 | mp es c =>
   obtain ⟨b,c1,es1,h1,h2,rfl⟩:=h
   obtain ⟨b',c',es',k1,k2,rfl⟩:=k
   rw [h1] at k1;cases k1;rw [Q3Z.det h2 k2]
 | it m since seen stepped =>
   obtain ⟨b,c,bm,h1,h2,rfl⟩:=h
   obtain ⟨b',c',bm',k1,k2,rfl⟩:=k
   rw [h1] at k1;cases k1;rw [IterM.det h2 k2]
 | ro cs =>
   obtain ⟨b,c,vs,h1,h2,rfl⟩:=h
   obtain ⟨b',c',vs',k1,k2,rfl⟩:=k
   rw [h1] at k1;cases k1;rw [h2] at k2;cases k2;rfl
theorem DD.mono (h : ρ.le ρ') : ∀ {l:List (Nat×Nat×HO)} {m:List (Nat×Fact)},DD ρ E l m→DD ρ' E l m
 | [],[],_=>trivial
 | (_,_,_) :: _,(_,_) :: _,hd=>⟨hd.1,HO.isFact_mono h hd.2.1,DD.mono h hd.2.2⟩
 | [],_ :: _,hd=>hd.elim
 | _ :: _,[],hd=>hd.elim
theorem DD.mem : ∀ {l:List (Nat×Nat×HO)} {m:List (Nat×Fact)},DD ρ E l m→∀ x∈m,∃ g o,(x.1,g,o)∈l∧o.isFact ρ E g x.2
 | [],[],_,x,hx=>by cases hx
 | (i,g,o) :: r,(j,φ) :: s,hd,x,hx=>by
   rcases List.mem_cons.1 hx with rfl | hx
   · obtain ⟨rfl,h1,_⟩:=hd;exact ⟨g,o,by simp,h1⟩
   ·obtain ⟨g',o',h1,h2⟩:=DD.mem hd.2.2 x hx
    exact ⟨g',o',by simp [h1],h2⟩
 | [],_ :: _,hd,_,_=>hd.elim
 | _ :: _,[],hd,_,_=>hd.elim
theorem DD.mem' : ∀ {l:List (Nat×Nat×HO)} {m:List (Nat×Fact)},DD ρ E l m→∀ i g o,(i,g,o)∈l→∃ φ,(i,φ)∈m∧o.isFact ρ E g φ
 | [],[],_,_,_,_,hx=>by cases hx
 | (i,g,o) :: r,(j,φ) :: s,hd,i',g',o',hx=>by
   rcases List.mem_cons.1 hx with hx | hx
   · cases hx;obtain ⟨rfl,h1,_⟩:=hd;exact ⟨φ,by simp,h1⟩
   ·obtain ⟨ψ,h1,h2⟩:=DD.mem' hd.2.2 i' g' o' hx
    exact ⟨ψ,by simp [h1],h2⟩
 | [],_ :: _,hd,_,_,_,_=>hd.elim
 | _ :: _,[],hd,_,_,_,_=>hd.elim
theorem DD.ex {l:List (Nat×Nat×HO)} (hall : ∀ i g o,(i,g,o)∈l→∃ φ,HO.isFact ρ E g o φ) : ∃ m,DD ρ E l m:=by
 induction l with
 | nil=>exact ⟨[],trivial⟩
 | cons x r ih =>
   obtain ⟨i,g,o⟩:=x
   obtain ⟨φ,h1⟩:=hall i g o (by simp)
   obtain ⟨m,h2⟩:=ih fun i' g' o' h=>hall i' g' o' (by simp [h])
   exact ⟨(i,φ) :: m,rfl,h1,h2⟩
theorem subD_mem {a b:List (Nat×Nat×HO)} (h:subD a b=true) : ∀ x∈a,x∈b:=fun x hx=>by
 have:=List.all_eq_true.1 h x hx
 obtain ⟨y,hy,h1⟩:=List.any_eq_true.1 this
 simp only [depB,Bool.and_eq_true] at h1
 have e:x=y:=by
  obtain ⟨x1,x2,x3⟩:=x
  obtain ⟨y1,y2,y3⟩:=y
  simp only at h1
  rw [Qw h1.1.1,Qw h1.1.2,HO.beq_eq h1.2]
 rw [e];exact hy
end
theorem pick_mid (A B D:List Fact):(List.range B.length).filterMap (fun i=>(A++B++D)[A.length+i]?)=B:=by
 have h:(List.range B.length).filterMap (fun i=>(A ++ B ++ D)[A.length + i]?) = (List.range B.length).filterMap (fun i=>B[i]?):=by
  have : ∀ l:List Nat,(∀ i ∈ l,i < B.length) → l.filterMap (fun i=>(A ++ B ++ D)[A.length + i]?) = l.filterMap (fun i=>B[i]?):=by
   intro l
   induction l with
   | nil=>intro _;rfl
   | cons i l ih =>
     intro h
     have h1:(A++B++D)[A.length+i]? =B[i]?:=by
         have:=h i (by simp)
         rw [List.append_assoc,List.getElem?_append_right (by omega),Nat.add_sub_cancel_left,List.getElem?_append_left this]
     simp only [List.filterMap_cons,h1,ih (fun j hj=>h j (by simp [hj]))]
  exact this _ (fun i hi=>List.mem_range.1 hi)
 rw [h];exact pickH_all B
theorem QC.swapAdj {C:Ctx} {Φ pre post:List Fact} {a b:Fact} {w:World} (h:QC C Φ (pre++a :: b :: post) w):QC C Φ (pre++b :: a :: post) w:=by
 have hl:(pre++a :: b :: post).length=pre.length+post.length+2:=by simp;omega
 have:=h.pick (List.range pre.length++[pre.length+1,pre.length]++(List.range post.length).map (· +(pre.length+2))) (okIdx_mk (fun i hi=>by
  rw [hl]
  simp only [List.mem_append,List.mem_range,List.mem_cons,List.not_mem_nil,or_false,List.mem_map] at hi
  rcases hi with (hi | hi | hi) | ⟨j,hj,rfl⟩ <;> omega) (by
  rw [List.nodup_append,List.nodup_append]
  refine ⟨⟨List.nodup_range,by simp,?_⟩,?_,?_⟩
  ·intro x hx y hy
   simp only [List.mem_range,List.mem_cons,List.not_mem_nil,or_false] at hx hy
   omega
  · exact List.Pairwise.map _ (fun x y hxy=>by omega) List.nodup_range
  ·intro x hx y hy
   simp only [List.mem_append,List.mem_range,List.mem_cons,List.not_mem_nil,or_false,List.mem_map] at hx hy
   obtain ⟨j,hj,rfl⟩:=hy
   omega))
 have e:Q1d (pre++a :: b :: post) (List.range pre.length++[pre.length+1,pre.length]++(List.range post.length).map (· +(pre.length+2)))=pre++b :: a :: post:=by
  unfold Q1d
  rw [List.filterMap_append,List.filterMap_append,List.filterMap_map]
  have h1:=pick_mid [] pre (a :: b :: post)
  have h2:=pick_mid (pre++[a,b]) post []
  simp only [List.nil_append,List.length_nil,Nat.zero_add] at h1
  simp only [List.append_nil,List.length_append,List.length_cons,List.length_nil,List.append_assoc,List.cons_append,List.nil_append] at h2
  rw [h1]
  have h3:((fun i=>(pre++a :: b :: post)[i]?) ∘ (· +(pre.length+2)))=fun i=>(pre++a :: b :: post)[pre.length+(0+1+1)+i]?:=by
   funext i
   simp only [Function.comp]
   rw [show i+(pre.length+2)=pre.length+(0+1+1)+i from by omega]
  rw [h3,h2]
  simp
 rw [e] at this
 exact this
theorem hins_spec {ρ:Env} {E:List Value} {C:Ctx} {g:Nat} {o:HO} {φ:Fact} (hf:o.isFact ρ E g φ) : ∀ {hp:Q1a} {H:List Fact},Q4q ρ E hp H→∃ H',Q4q ρ E (hins g o hp) H' ∧∀ pre w,QC C [] (pre++φ :: H) w→QC C [] (pre++H') w
 | [],[],_=>⟨[φ],⟨hf,trivial⟩,fun _ _ h=>h⟩
 | (g',o') :: r,ψ :: H,hd=>by
   unfold hins
   split
   · exact ⟨φ :: ψ :: H,⟨hf,hd⟩,fun _ _ h=>h⟩
   ·obtain ⟨H',h1,h2⟩:=hins_spec (C:=C) hf hd.2
    refine ⟨ψ :: H',⟨hd.1,h1⟩,fun pre w h=>?_⟩
    have:=h2 (pre++[ψ]) w (by simpa using h.swapAdj)
    simpa using this
 | [],_ :: _,hd=>hd.elim
 | _ :: _,[],hd=>hd.elim
theorem hsort_spec {ρ:Env} {E:List Value} {C:Ctx} : ∀ {hp:Q1a} {H:List Fact},Q4q ρ E hp H→∃ H',Q4q ρ E (hsort hp) H' ∧∀ pre w,QC C [] (pre++H) w→QC C [] (pre++H') w
 | [],[],_=>⟨[],trivial,fun _ _ h=>h⟩
 | (g,o) :: r,φ :: H,hd=>by
   obtain ⟨H1,h1,h2⟩:=hsort_spec (C:=C) hd.2
   obtain ⟨H2,h3,h4⟩:=hins_spec (C:=C) hd.1 h1
   refine ⟨H2,h3,fun pre w h=>h4 pre w ?_⟩
   have:=h2 (pre++[φ]) w (by simpa using h)
   simpa using this
 | [],_ :: _,hd=>hd.elim
 | _ :: _,[],hd=>hd.elim
section draw
variable {P:Program} {C:Ctx} {n:FD} {Q:Exit → Act → World → Prop} {E:List Value} {call:Q7M} {ops:Array Oper} {lights:List Nat} {lo hi w:Nat}
theorem wx_congr {L L1:List Nat} {D D1:List (Nat×Fact)} {Φ H:List Fact} {S:List (Nat×Value)} (h:WX P C n Q ops lights L1 D1 Φ H S)(hL : ∀ i,i∈L ↔ i∈L1)(hD : ∀ x,x∈D ↔ x∈D1):WX P C n Q ops lights L D Φ H S:=by
 intro listed a av w hr
 refine h listed a av w ⟨hr.frm,hr.asize,hr.adef,hr.holds,hr.lsize,fun i hi=>(hL i).1 (hr.sub i hi),fun i hi=>hr.inL i ((hL i).2 hi),fun x hx=>hr.agree x fun i o hi=>hx i o ((hL i).1 hi),?_,fun x hx=>hr.deps x ((hD x).2 hx)⟩
 intro i hi hu
 obtain ⟨o,d',v,Φi,B,h1,h2,h3,h4,h5,h6,h7,h8,h9⟩:=(hr.owed i ((hL i).2 hi) hu).ex
 exact ⟨o,d',v,Φi,B,h1,h2,h3,h4,h5,fun e he hb=>(hL _).1 (h6 e he hb),h7,fun b hb=>(hD _).1 (h8 b hb),h9⟩
structure NdR (ρ0:Env) (E:List Value) (ops:Array Oper) (lo hi w:Nat) (ρ:Env) (nd:Nd) (S:List (Nat×Value)) (H:List Fact) (D:List (Nat×Fact)):Prop where
 rel:Rel ρ E nd.fr nd.hp S H
 ext:Ext ρ0 ρ lo hi
 free : ∀ j,j < ops.size→j ∉ nd.L→Q9h ρ (lo+j * w) (lo+j * w+w)
 rest:Q9h ρ (lo+ops.size * w) hi
 dd:DD ρ E nd.D D
def Well (P:Program)(C:Ctx)(n:FD)(Q:Exit→Act→World→Prop)(ρ0:Env)(E:List Value)(ops:Array Oper)(lights:List Nat)(lo hi w:Nat)(nd:Nd):Prop :=
 ∀ ρ S H D,NdR ρ0 E ops lo hi w ρ nd S H D→WX P C n Q ops lights nd.L D [] H S
variable {ρ0:Env}
theorem lightC_spec (hok:Q22 ops lights=true) {i:Nat} {o:Oper} {nd nd' : Nd} (ho:ops[i]? =some o)(he:lightC P n ops lights i o nd=some nd')(hw:Well P C n Q ρ0 E ops lights lo hi w nd'):Well P C n Q ρ0 E ops lights lo hi w nd:=by
 intro ρ S H D hr
 unfold lightC at he
 split at he
 · cases he
 ·rename_i d hd
  split at he
  · cases he
  ·rename_i hb
   simp only [Bool.and_eq_true] at hb
   have h16:=Nat.le_of_ble_eq_true hb.2
   have hfree : ∀ j,j < ops.size→j ∉ i :: nd.L→Q9h ρ (lo+j * w) (lo+j * w+w):=fun j hj hn=>hr.free j hj fun hm=>hn (List.mem_cons_of_mem _ hm)
   split at he
   ·rename_i hwant
    cases he
    exact wx_off hok i ho hd hb.1 rfl (QdG hr.rel hwant) (hw ρ _ H D ⟨hr.rel.put (fun _ _ h=>h) (by omega) rfl hr.rel.hp,hr.ext,hfree,hr.rest,hr.dd⟩)
   ·rename_i hwant
    have hg:=QdG hr.rel hwant
    split at he
    ·rename_i v hv
     cases he
     obtain ⟨x,h1,h2⟩:=pureC_spec hr.rel hv
     exact wx_pure hok i ho hd hb.1 rfl hg h2 (hw ρ _ H D ⟨hr.rel.put (fun _ _ h=>h) (by omega) h1 hr.rel.hp,hr.ext,hfree,hr.rest,hr.dd⟩)
    ·split at he
     ·rename_i v hv
      cases he
      obtain ⟨x,B,m,h1,h2,h3,_,h4⟩:=readA_spec (P:=P) (n:=n) hr.rel hv
      have hB:=h3 rfl
      subst hB
      exact Qc6 hok i [] m ho hd hb.1 rfl h2 hg h4 (hw ρ _ H D ⟨hr.rel.put (fun _ _ h=>h) (by omega) h1 hr.rel.hp,hr.ext,hfree,hr.rest,hr.dd⟩)
     ·rename_i v g hv
      split at he
      ·rename_i ob hob
       cases he
       obtain ⟨x,B,m,h1,h2,_,h3,h4⟩:=readA_spec (P:=P) (n:=n) hr.rel hv
       obtain ⟨ob',φ,h5,h6,rfl⟩:=h3 g rfl
       rw [hob] at h5;cases h5
       exact Qc6 hok i [φ] m ho hd hb.1 rfl h2 hg h4 (hw ρ _ H ((i,φ) :: D) ⟨hr.rel.put (fun _ _ h=>h) (by omega) h1 hr.rel.hp,hr.ext,hfree,hr.rest,⟨rfl,h6,hr.dd⟩⟩)
      · cases he
     · cases he
   · cases he
theorem Qdr (hok:Q22 ops lights=true) : ∀ {l:List Nat} {nd nd' : Nd},passC P n ops lights l nd=some nd' →Well P C n Q ρ0 E ops lights lo hi w nd' →Well P C n Q ρ0 E ops lights lo hi w nd
 | [],nd,nd',he,hw=>by cases he;exact hw
 | i :: r,nd,nd',he,hw=>by
   unfold passC at he
   split at he
   ·rename_i o ho
    split at he
    ·split at he
     ·rename_i nd2 h2
      exact lightC_spec hok ho h2 (Qdr hok he hw)
     · cases he
    · exact Qdr hok he hw
   · cases he
theorem metC_spec (hcall:Q8c P E call)(hok:Q22 ops lights=true)(hlo:lo+ops.size * w≤hi) {k:Nat} {nd nd' : Nd} (hk:k < ops.size)(hkL:k ∉ nd.L)(he:metC P call n ops lights lo w k nd=some nd')(hw:Well P C n Q ρ0 E ops lights lo hi w nd') :
  ∀ ρ S H D,NdR ρ0 E ops lo hi w ρ nd S H D→∀ o,ops[k]? =some o→WL P C n (QX P C n Q ops lights nd.L D [] k) [] H S ops [o]:=by
 intro ρ S H D hr o ho
 unfold metC at he
 rw [ho] at he
 simp only at he
 split at he
 ·rename_i fr' hp' lo' h1
  split at he
  ·rename_i hD
   have hw2:=Qdr hok he hw
   refine oneC_spec hcall h1 hr.rel (hr.free k hk hkL) fun ρ' S' H' e1 e2 e3 e4=>Q2 fun a w' hf hw'=>?_
   obtain ⟨H2,d1,d2⟩:=hsort_spec (C:=C) e2.hp
   have e2':=e2.mono (fun _ _ h=>h) d1
   have hw2':=d2 [] w' (by simpa using hw')
   simp only [List.nil_append] at hw2'
   have hkw:k * w+w≤ops.size * w:=by rw [← Nat.succ_mul];exact Nat.mul_le_mul_right _ hk
   refine ⟨[],H2,S',hf,hw2',(fun φ hφ=>by cases hφ),fun x hx hp=>?_,hw2 ρ' S' H2 D ⟨e2',hr.ext.trans e1 (by omega) (by omega),fun j hj hn g g1 g2=>?_,fun g g1 g2=>?_,hr.dd.mono e1.le⟩⟩
   ·obtain ⟨g,ob,h2,h3⟩:=hr.dd.mem x hx
    have h4:=List.all_eq_true.1 hD _ h2
    simp only [hp,Bool.false_or] at h4
    split at h4
    ·rename_i ob' h5
     obtain ⟨q,ψ,h6,h7,_,_⟩:=Q2L d1 h5
     rw [HO.beq_eq h4] at h7
     rw [HO.isFact_det (HO.isFact_mono e1.le h3) h7]
     exact List.mem_of_getElem? h6
    · cases h4
   ·have hjk:j≠k:=fun e=>hn (by rw [e];simp)
    have hj0:=hr.free j hj (fun hm=>hn (List.mem_cons_of_mem _ hm)) g g1 g2
    refine e1.out g hj0 ?_
    rcases Nat.lt_or_ge j k with hlt | hge
    ·have:j * w+w≤k * w:=by rw [← Nat.succ_mul];exact Nat.mul_le_mul_right _ hlt
     omega
    ·have:k * w+w≤j * w:=by rw [← Nat.succ_mul];exact Nat.mul_le_mul_right _ (by omega)
     omega
   · exact e1.out g (hr.rest g g1 g2) (by omega)
  · cases he
 · cases he
theorem metsC_spec : ∀ {l:List Nat} {nd:Nd} {ns:List Nd},metsC P call n ops lights lo w nd l=some ns→∀ k∈l,∃ nd' ∈ns,metC P call n ops lights lo w k nd=some nd'
 | [],_,_,_,k,hk=>by cases hk
 | j :: r,nd,ns,he,k,hk=>by
   unfold metsC at he
   split at he
   ·rename_i x l h1 h2
    cases he
    rcases List.mem_cons.1 hk with rfl | hk
    · exact ⟨x,by simp,h1⟩
    ·obtain ⟨y,h3,h4⟩:=metsC_spec h2 k hk
     exact ⟨y,by simp [h3],h4⟩
   · cases he
theorem expandC_spec (hcall:Q8c P E call)(hok:Q22 ops lights=true)(hlo:lo+ops.size * w≤hi) : ∀ {nds ns:List Nd},expandC P call n ops lights lo w nds=some ns→(∀ nd∈ns,Well P C n Q ρ0 E ops lights lo hi w nd)→∀ nd∈nds,Well P C n Q ρ0 E ops lights lo hi w nd
 | [],_,_,_,nd,h=>by cases h
 | x :: r,ns,he,hw,nd,h=>by
   unfold expandC at he
   split at he
   ·rename_i hb
    split at he
    ·rename_i l m h1 h2
     cases he
     rcases List.mem_cons.1 h with rfl | h
     ·intro ρ S H D hr
      simp only [Bool.and_eq_true,Bool.not_eq_true'] at hb
      refine wx_step hok (readyX ops lights nd.L) rfl hb.2 hb.1 fun k hk o ho=>?_
      obtain ⟨nd',h3,h4⟩:=metsC_spec h1 k hk
      have hk':=List.mem_filter.1 hk
      have hkL:k ∉ nd.L:=fun hm=>by
       have:=hk'.2
       simp only [Bool.and_eq_true,Bool.not_eq_true'] at this
       rw [Q80.2 hm] at this;cases this.1
      exact metC_spec hcall hok hlo (List.mem_range.1 hk'.1) hkL h4 (hw nd' (by simp [h3])) ρ S H D hr o ho
     · exact expandC_spec hcall hok hlo h2 (fun nd hn=>hw nd (by simp [hn])) nd h
    · cases he
   · cases he
theorem same_well {a b:Nd} (h:Nd.same a b=true)(hw:Well P C n Q ρ0 E ops lights lo hi w b):Well P C n Q ρ0 E ops lights lo hi w a:=by
 intro ρ S H D hr
 simp only [Nd.same,Bool.and_eq_true] at h
 obtain ⟨⟨⟨⟨⟨h1,h2⟩,h3⟩,h4⟩,h5⟩,h6⟩:=h
 have l1 : ∀ i,i∈a.L ↔ i∈b.L:=fun i=>⟨fun hi=>Q80.1 (List.all_eq_true.1 h1 i hi),fun hi=>Q80.1 (List.all_eq_true.1 h2 i hi)⟩
 obtain ⟨D1,hD1⟩ : ∃ m,DD ρ E b.D m:=DD.ex fun i g o hm=>by
  obtain ⟨φ,_,hφ⟩:=hr.dd.mem' i g o (subD_mem h4 _ hm)
  exact ⟨φ,hφ⟩
 refine wx_congr (hw ρ S H D1 ⟨by rw [← Tr.beq_eq h5,← heapB_eq h6];exact hr.rel,hr.ext,fun j hj hn=>hr.free j hj fun hm=>hn ((l1 j).1 hm),hr.rest,hD1⟩) l1 fun x=>⟨fun hx=>?_,fun hx=>?_⟩
 ·obtain ⟨g,o,k1,k2⟩:=hr.dd.mem x hx
  obtain ⟨φ,k3,k4⟩:=hD1.mem' _ _ _ (subD_mem h3 _ k1)
  rw [← HO.isFact_det k2 k4] at k3;exact k3
 ·obtain ⟨g,o,k1,k2⟩:=hD1.mem x hx
  obtain ⟨φ,k3,k4⟩:=hr.dd.mem' _ _ _ (subD_mem h4 _ k1)
  rw [← HO.isFact_det k2 k4] at k3;exact k3
theorem QdS : ∀ {l:List Nd},(∀ nd∈dedupC l,Well P C n Q ρ0 E ops lights lo hi w nd)→∀ nd∈l,Well P C n Q ρ0 E ops lights lo hi w nd
 | [],_,nd,h=>by cases h
 | x :: r,hw,nd,h=>by
   unfold dedupC insN at hw
   split at hw
   ·rename_i hb
    rcases List.mem_cons.1 h with rfl | h
    ·obtain ⟨y,hy,h1⟩:=List.any_eq_true.1 hb
     exact same_well h1 (hw y hy)
    · exact QdS hw nd h
   ·rcases List.mem_cons.1 h with rfl | h
    · exact hw nd (by simp)
    · exact QdS (fun y hy=>hw y (by simp [hy])) nd h
theorem levC_spec (hcall:Q8c P E call)(hok:Q22 ops lights=true)(hlo:lo+ops.size * w≤hi) {fin:Nd} (hfin : ∀ ρ' S' H',Ext ρ0 ρ' lo hi→Rel ρ' E fin.fr fin.hp S' H' →Q9h ρ' (lo+ops.size * w) hi→WE C n Q [] H' S' .normal) :
   ∀ {f:Nat} {nds:List Nd},levC P call n ops lights lo w f nds=some fin→∀ nd∈nds,Well P C n Q ρ0 E ops lights lo hi w nd
 | 0,_,he,_,_=>by cases he
 | f + 1,nds,he,nd,h=>by
   unfold levC at he
   split at he
   · cases h
   ·rename_i x rest
    split at he
    ·rename_i hall
     split at he
     ·rename_i hb
      obtain rfl:x=fin:=Option.some.inj he
      have key : ∀ y,allIn ops y.L=true→y.fr=x.fr→y.hp=x.hp→Well P C n Q ρ0 E ops lights lo hi w y:=fun y h1 h2 h3 ρ S H D hr=>
       Qu hok h1 (hfin ρ S H hr.ext (by rw [← h2,← h3];exact hr.rel) hr.rest)
      rcases List.mem_cons.1 h with rfl | h
      · exact key _ hall rfl rfl
      ·have:=List.all_eq_true.1 hb nd h
       simp only [Bool.and_eq_true] at this
       exact key nd this.1.1 (Tr.beq_eq this.1.2) (heapB_eq this.2)
     · cases he
    ·split at he
     ·rename_i ns h1
      exact expandC_spec hcall hok hlo h1 (QdS (levC_spec hcall hok hlo hfin he)) nd h
     · cases he
theorem drawC_spec (hcall:Q8c P E call) {id:Nat} {fr fr' : Tr} {hp hp' : Q1a} {lo' : Nat} (he:drawC P call n ops hi fr hp lo=some (fr',hp',lo')) {ρ:Env} {S:List (Nat×Value)} {H:List Fact} (h:Rel ρ E fr hp S H)(hf:Q9h ρ lo hi)
  (next : ∀ ρ' S' H',Ext ρ ρ' lo hi→Rel ρ' E fr' hp' S' H' →Q9h ρ' lo' hi→lo≤lo' →WE C n Q [] H' S' .normal):WC P C n Q [] H S (.region id ops true):=by
 unfold drawC at he
 split at he
 ·rename_i hb
  simp only [Bool.and_eq_true] at hb
  obtain ⟨⟨hm,hok⟩,hle⟩:=hb
  have hle:=Nat.le_of_ble_eq_true hle
  split at he
  ·rename_i nd hnd
   split at he
   ·rename_i fin hfin
    cases he
    have hw:ops.size * ((hi - lo) / (65536 * (ops.size+1)))≤hi - lo:=by
     generalize hi - lo=m
     calc ops.size * (m / (65536 * (ops.size+1)))≤(65536 * (ops.size+1)) * (m / (65536 * (ops.size+1))) :=Nat.mul_le_mul_right _ (by omega)
      _≤m:=Nat.mul_div_le _ _
    have h1:=levC_spec (ρ0:=ρ) (C:=C) (Q:=Q) hcall hok (hi:=hi) (by omega) (fun ρ' S' H' e1 e2 e3=>next ρ' S' H' e1 e2 e3 (by omega)) hfin nd (by simp)
    have h2:=Qdr hok hnd h1
    have h0:ops=ops.toList.toArray:=by simp
    rw [h0]
    refine QG (lightsC ops) hm (by rw [← h0];exact hok) fun hok'=>?_
    have h3:=h2 ρ S H [] ⟨h,Ext.refl _ _ _,fun j hj _ g g1 g2=>hf g (by omega) ?_,fun g g1 g2=>hf g (by omega) g2,trivial⟩
    · simpa using h3
    ·have:j * ((hi - lo) / (65536 * (ops.size+1)))+(hi - lo) / (65536 * (ops.size+1))≤ops.size * ((hi - lo) / (65536 * (ops.size+1))):=by rw [← Nat.succ_mul];exact Nat.mul_le_mul_right _ hj
     omega
   · cases he
  · cases he
 · cases he
end draw
end
end Go.Proofs.YtbgodclhmgmcgaaGreatDoor
