import Derived.Test.YtbgodclhmgmcgaaGreatDoorDraw
namespace Go.Proofs.YtbgodclhmgmcgaaGreatDoor
open Go.RowKit
noncomputable section
def Q4L (ops:Array Oper)(lights L:List Nat)(i n d:Nat)(o:Oper):Bool :=
 Q7j lights i && !Q7j L i && (o.after.toList.all fun e=>!Region.binds .any e || Q7j L e.on) && Nat.blt d n
section
variable {P:Program} {C:Ctx} {n:FD} {Q:Exit → Act → World → Prop} {ops:Array Oper} {lights L:List Nat} {D:List (Nat × Fact)} {Φ H:List Fact} {S S' : List (Nat × Value)}
theorem Qc6 (hok:Q22 ops lights=true)(i:Nat) {o:Oper} {d:Nat} {v:Value} (B:List Fact)(m:List Nat)(hi:ops[i]? =some o)(hd:o.dst=some d)(hl:Q4L ops lights L i n d o=true)(hS:Q4p d S=S')(hB:Q1d H m=B)(hg:Q18 ops S o=some true)
  (det : ∀ a w,Frm n S a→DepW Φ B w→(execOp a.eval o).run P w=.ok (.value v) w)
  (next:WX P C n Q ops lights (i :: L) (B.map (fun b=>(i,b))++D) Φ H ((d,v) :: S')):WX P C n Q ops lights L D Φ H S:=by
 simp only [Q4L,Bool.and_eq_true,Bool.not_eq_true'] at hl
 obtain ⟨⟨⟨h1,h2⟩,h3⟩,h4⟩:=hl
 exact wx_light hok i B m hi h1 h2 h3 hd h4 hS hB (.inl ⟨hg,det⟩) next
theorem wx_off (hok:Q22 ops lights=true)(i:Nat) {o:Oper} {d:Nat} (hi:ops[i]? =some o)(hd:o.dst=some d)(hl:Q4L ops lights L i n d o=true)(hS:Q4p d S=S')(hg:Q18 ops S o=some false)
  (next:WX P C n Q ops lights (i :: L) D Φ H ((d,undef) :: S')):WX P C n Q ops lights L D Φ H S:=by
 simp only [Q4L,Bool.and_eq_true,Bool.not_eq_true'] at hl
 obtain ⟨⟨⟨h1,h2⟩,h3⟩,h4⟩:=hl
 exact wx_light hok i [] [] hi h1 h2 h3 hd h4 hS rfl (.inr ⟨hg,rfl⟩) next
theorem wx_pure (hok:Q22 ops lights=true)(i:Nat) {o:Oper} {d:Nat} {v:Value} (hi:ops[i]? =some o)(hd:o.dst=some d)(hl:Q4L ops lights L i n d o=true)(hS:Q4p d S=S')(hg:Q18 ops S o=some true)(hv:Q8T S o.op=some v)
  (next:WX P C n Q ops lights (i :: L) D Φ H ((d,v) :: S')):WX P C n Q ops lights L D Φ H S :=
 Qc6 hok i [] [] hi hd hl hS rfl hg (fun a w hf _=>pureOp_run hf hv w) next
theorem wx_len (hok:Q22 ops lights=true)(i:Nat) {o:Oper} {d t:Nat} {x:Operand} {p:Option Addr} {k c e:Nat} (hi:ops[i]? =some o)(hd:o.dst=some d)(hl:Q4L ops lights L i n d o=true)(hS:Q4p d S=S')(hg:Q18 ops S o=some true)
  (ho:o.op=.call { callee:=.builtin .len,args:=#[x],argTypes:=#[t] }) (hx:evS S x=some (.slice p k c)) (ht:Q2d P t=some e)
  (next:WX P C n Q ops lights (i :: L) D Φ H ((d,.int .i64 (k:Int)) :: S')):WX P C n Q ops lights L D Φ H S :=
 Qc6 hok i [] [] hi hd hl hS rfl hg (fun a w hf _=>by simp [execOp,ho,resolve,invoke,builtin,Builtin.len_,hf.eval hx,run_underlying (Q1A ht),goInt]) next
theorem wx_fieldAddr (hok:Q22 ops lights=true)(i:Nat) {o:Oper} {d t k off b q:Nat} {x:Operand} (hi:ops[i]? =some o)(hd:o.dst=some d)(hl:Q4L ops lights L i n d o=true)(hS:Q4p d S=S')(hg:Q18 ops S o=some true)
  (ho:o.op=.fieldAddr t x k) (hx:evS S x=some (.pointer (some ⟨b,q,none⟩))) (hk:Q1H P t k=some off)
  (next:WX P C n Q ops lights (i :: L) D Φ H ((d,.pointer (some ⟨b,q+off,none⟩)) :: S')):WX P C n Q ops lights L D Φ H S :=
 Qc6 hok i [] [] hi hd hl hS rfl hg (fun a w hf _=>by simp [execOp,ho,hf.eval hx,fldOff_run hk]) next
theorem QaN (hok:Q22 ops lights=true)(i:Nat) {o:Oper} {d t:Nat} {ps:Array (Nat×Operand)} {z:Value} {pl:List (Nat×Nat)} {parts:List (Nat×Value)} {out:List Value} (hi:ops[i]? =some o)(hd:o.dst=some d)(hl:Q4L ops lights L i n d o=true)(hS:Q4p d S=S')(hg:Q18 ops S o=some true)
  (ho:o.op=.build t ps) (hz:Q4P P t=some z) (hp:Q62 P t=some pl) (he:evP S ps.toList=some parts) (hf:fillG (Qd0 pl) z.cells.toList parts=some out)
  (next:WX P C n Q ops lights (i :: L) D Φ H ((d,.agg out.toArray) :: S')):WX P C n Q ops lights L D Φ H S :=
 Qc6 hok i [] [] hi hd hl hS rfl hg (fun a w hfr _=>by
  have h0:ps.map (fun x=>(x.1,a.eval x.2))=parts.toArray:=by
   rw [← hfr.evalP he,← List.map_toArray]
  have h1:=run_build hz hp hf w
  rw [← h0] at h1
  simp only [execOp,ho,Sem.run_bind]
  rw [show (ps.map fun x=>match x with | (i,x)=>(i,a.eval x))=ps.map (fun x=>(x.1,a.eval x.2)) from rfl,h1]
  rfl) next
theorem wx_load_by (hok:Q22 ops lights=true)(i:Nat) {o:Oper} {d t sz b q:Nat} {x:Operand} {g:Bool} {cs:List Value} {v:Value} (B:List Fact)(m:List Nat)(hi:ops[i]? =some o)(hd:o.dst=some d)(hl:Q4L ops lights L i n d o=true)(hS:Q4p d S=S')(hB:Q1d H m=B)(hg:Q18 ops S o=some true)
  (ho:o.op=.load t x) (hx:evS S x=some (.pointer (some ⟨b,q,none⟩))) (hc : ∀ w,DepW Φ B w→Q3D w b q cs) (hs:Q1m P t=some sz) (ha:Q58 P t=some g) (hlen:cs.length=sz) (hv:Q8V g cs=some v)
  (next:WX P C n Q ops lights (i :: L) (B.map (fun b=>(i,b))++D) Φ H ((d,v) :: S')):WX P C n Q ops lights L D Φ H S :=
 Qc6 hok i B m hi hd hl hS hB hg (fun a w hf hw=>by simp [execOp,ho,hf.eval hx,Instr.loadAt,Instr.sureAddr,Q6l (hc w hw) hs ha hlen hv]) next
theorem Qeo {w:World} {b q j sz:Nat} {all cs:List Value} (h:Q3D w b q all)(hcs:(all.drop j).take sz=cs):Q3D w b (q+j) cs:=fun i u hu=>by
 have:=h (j+i) u (by rw [← hcs,List.getElem?_take] at hu;split at hu <;> first | (rw [List.getElem?_drop] at hu;exact hu) | cases hu)
 rwa [← Nat.add_assoc] at this
theorem wx_load (hok:Q22 ops lights=true)(i:Nat) {o:Oper} {d t sz b q:Nat} {x:Operand} {g:Bool} {all cs:List Value} {v:Value} (k j:Nat)(hi:ops[i]? =some o)(hd:o.dst=some d)(hl:Q4L ops lights L i n d o=true)(hS:Q4p d S=S')(hg:Q18 ops S o=some true)
  (ho:o.op=.load t x) (hφ : Φ[k]? =some (.cells b q all)) (hx:evS S x=some (.pointer (some ⟨b,q+j,none⟩))) (hcs:(all.drop j).take sz=cs) (hs:Q1m P t=some sz) (ha:Q58 P t=some g) (hlen:cs.length=sz) (hv:Q8V g cs=some v)
  (next:WX P C n Q ops lights (i :: L) D Φ H ((d,v) :: S')):WX P C n Q ops lights L D Φ H S :=
 wx_load_by hok i [] [] hi hd hl hS rfl hg ho hx (fun w ⟨⟨F,h⟩,_⟩=>Qeo (h _ (Q1f hφ)).2 hcs) hs ha hlen hv next
theorem wx_loadH (hok:Q22 ops lights=true)(i:Nat) {o:Oper} {d t sz b tb:Nat} {x:Operand} {g:Bool} {all cs:List Value} {v:Value} (k j:Nat)(hi:ops[i]? =some o)(hd:o.dst=some d)(hl:Q4L ops lights L i n d o=true)(hS:Q4p d S=S')(hg:Q18 ops S o=some true)
  (ho:o.op=.load t x) (hφ:Q1d H [k]=[.blk b all tb]) (hx:evS S x=some (.pointer (some ⟨b,j,none⟩))) (hcs:(all.drop j).take sz=cs) (hs:Q1m P t=some sz) (ha:Q58 P t=some g) (hlen:cs.length=sz) (hv:Q8V g cs=some v)
  (next:WX P C n Q ops lights (i :: L) ((i,.blk b all tb) :: D) Φ H ((d,v) :: S')):WX P C n Q ops lights L D Φ H S :=
 wx_load_by hok i [.blk b all tb] [k] hi hd hl hS hφ hg ho hx (fun w ⟨_,h⟩=>by
  obtain ⟨N,F,h1⟩:=h _ (List.mem_singleton.2 rfl)
  have:=Qeo (Qbr h1.2) hcs;rwa [Nat.zero_add] at this) hs ha hlen hv next
theorem wx_index {α:Type} (hok:Q22 ops lights=true)(i:Nat) {o:Oper} {d t e sz:Nat} {x y:Operand} {R:Rep α} {p:Option Addr} {cp:Nat} {l:List α} {ik:IntKind} {z:Int} (k j:Nat)(hi:ops[i]? =some o)(hd:o.dst=some d)(hl:Q4L ops lights L i n d o=true)(hS:Q4p d S=S')(hg:Q18 ops S o=some true)
  (ho:o.op=.indexAddr t x y) (hφ : Φ[k]? =some (.sli sz R p cp l)) (hx:evS S x=some (.slice p l.length cp)) (hy:evS S y=some (.int ik z)) (hz:z=(j:Int)) (hj:j < l.length) (he:Q2d P t=some e) (hs:Q1m P e=some sz)
  (next : ∀ b q cs u,l[j]? =some u→cs.length=sz→WX P C n Q ops lights (i :: L) D (.cells b q cs :: .rep R cs u :: Φ) H ((d,.pointer (some ⟨b,q,none⟩)) :: S')):WX P C n Q ops lights L D Φ H S:=by
 subst hz
 refine wx_open (Λ:=Nat×Nat×List Value) (pure:=fun r=>p=some ⟨r.1,r.2.1,none⟩∧r.2.2.length=sz) (facts:=fun r=>[.cells r.1 (r.2.1+j * sz) r.2.2,.rep R r.2.2 l[j]]) (fun F w hΦ=>?_) ?_
 ·obtain ⟨p',n',c',xs,he',hn',hc,hm,hch,hrow⟩:=(hΦ _ (Q1f hφ):Sli F w sz (R.p F w) (.slice p l.length cp) l)
  cases he'
  obtain ⟨b,off,hp,hF,hcell⟩:=hrow (by omega)
  obtain ⟨cs,hcl,hr,hu⟩:=hch.at (List.getElem?_eq_getElem hj)
  refine ⟨(b,off,cs),⟨hp,hcl⟩,fun φ hφ'=>?_⟩
  simp only [List.mem_cons,List.not_mem_nil,or_false] at hφ'
  rcases hφ' with rfl | rfl
  ·refine ⟨hF,fun i u hi2=>?_⟩
   rw [Nat.add_assoc];exact hcell _ u (hu i u hi2)
  · exact hr
 ·rintro ⟨b,off,cs⟩ ⟨rfl,hcl⟩
  refine Qc6 hok i [] [] hi hd hl hS rfl hg (fun a w hf _=>?_) (next b (off+j * sz) cs _ (List.getElem?_eq_getElem hj) hcl)
  have h1:(0:Int)≤j∧(j:Int) < l.length:=by omega
  simp [execOp,ho,hf.eval hx,hf.eval hy,Instr.indexAt,asIntOf,run_underlying (Q1A he),h1,Q3f hs,Addr.add,hj]
theorem QJ {α Λ:Type} {R:Rep α} {cells : α→Λ→List Value} {pure : α→Λ→Prop} {facts : α→Λ→List Fact} {cs:List Value} {x : α} (op:Q8B R cells pure facts)(k:Nat)(hk : Φ[k]? =some (.rep R cs x))
  (next : ∀ r : Λ,cs=cells x r→pure x r→WX P C n Q ops lights L D (facts x r++Φ) H S):WX P C n Q ops lights L D Φ H S :=
 wx_open (pure:=fun r=>cs=cells x r∧pure x r) (facts:=facts x) (fun F w hΦ=>by obtain ⟨r,h1,h2,h3⟩:=op F w cs x (hΦ _ (Q1f hk));exact ⟨r,⟨h1,h2⟩,h3⟩) fun r ⟨h1,h2⟩=>next r h1 h2
theorem Q9g {o:Oper} {rest:List Oper} {d:Nat} {op:BinOp} {t u:TypeId} {x y:Operand} {a b v:Value} (hg:Q18 ops S o=some true)(hd:o.dst=some d)(hn:Nat.blt d n=true)(hS:Q4p d S=S')(ho:o.op=.binOp op t x y u)(hx:evS S x=some a)(hy:evS S y=some b)
  (hr : ∀ w,(do eqGuard op t x y a b;binOp op t a b:Sem Value).run P w=.ok v w) (next:WL P C n Q Φ H ((d,v) :: S') ops rest):WL P C n Q Φ H S ops (o :: rest) :=
 Qc5 hg hd hn hS (fun _ w hf _=>by
  have h1:=hr w
  unfold execOp
  simp only [ho,hf.eval hx,hf.eval hy]
  rw [Sem.run_bind,h1];rfl) next
theorem Q8l (hok:Q22 ops lights=true)(i:Nat) {o:Oper} {d:Nat} {op:BinOp} {t u:TypeId} {x y:Operand} {a b v:Value} (hi:ops[i]? =some o)(hd:o.dst=some d)(hl:Q4L ops lights L i n d o=true)(hS:Q4p d S=S')(hg:Q18 ops S o=some true)
  (ho:o.op=.binOp op t x y u) (hx:evS S x=some a) (hy:evS S y=some b) (hr : ∀ w,(do eqGuard op t x y a b;binOp op t a b:Sem Value).run P w=.ok v w)
  (next:WX P C n Q ops lights (i :: L) D Φ H ((d,v) :: S')):WX P C n Q ops lights L D Φ H S :=
 Qc6 hok i [] [] hi hd hl hS rfl hg (fun _ w hf _=>by
  have h1:=hr w
  unfold execOp
  simp only [ho,hf.eval hx,hf.eval hy]
  rw [Sem.run_bind,h1];rfl) next
theorem run_eqlNil {P:Program} {t e:Nat} (ht:Q2d P t=some e)(x y:Operand)(p:Option Addr)(m c m' c' : Nat)(w:World):(do eqGuard .eql t x y (.slice p m c) (.slice none m' c');binOp .eql t (.slice p m c) (.slice none m' c'):Sem Value).run P w=.ok (.bool (Option.isNone p)) w:=by
 have h:=Lib.run_eql_slice_nil (P:=P) w t e p m c m' c' (Q1A ht)
 rw [Sem.run_bind,show (eqGuard .eql t x y (.slice p m c) (.slice none m' c')).run P w=.ok () w from rfl]
 exact h
theorem run_neqNil {P:Program} {t e:Nat} (ht:Q2d P t=some e)(x y:Operand)(p:Option Addr)(m c m' c' : Nat)(w:World):(do eqGuard .neq t x y (.slice p m c) (.slice none m' c');binOp .neq t (.slice p m c) (.slice none m' c'):Sem Value).run P w=.ok (.bool (!Option.isNone p)) w:=by
 have h:=run_neq_slice_nil_any (P:=P) w t e p m c m' c' (Q1A ht)
 rw [Sem.run_bind,show (eqGuard .neq t x y (.slice p m c) (.slice none m' c')).run P w=.ok () w from rfl]
 exact h
theorem wl_eqlNil {o:Oper} {rest:List Oper} {d:Nat} {t u e:TypeId} {x y:Operand} {p:Option Addr} {m c m' c' : Nat} (hg:Q18 ops S o=some true)(hd:o.dst=some d)(hn:Nat.blt d n=true)(hS:Q4p d S=S')(ho:o.op=.binOp .eql t x y u)(hx:evS S x=some (.slice p m c))(hy:evS S y=some (.slice none m' c'))(ht:Q2d P t=some e)
 (next:WL P C n Q Φ H ((d,.bool (Option.isNone p)) :: S') ops rest):WL P C n Q Φ H S ops (o :: rest):=Q9g hg hd hn hS ho hx hy (run_eqlNil ht x y p m c m' c') next
theorem Qdq {w:World} {α:Type} {e sz m:Nat} {R:Rep α} {p:Option Addr} {cp:Nat} {l:List α} {k:Nat} (hw:QC C Φ H w)(hφ:H[k]? =some (.own e sz R (.slice p m cp) l)):m=l.length∧(0 < l.length→∃ g,p=some ⟨g,0,none⟩):=by
 obtain ⟨F,N,hi⟩:=hw
 obtain ⟨_,hown⟩:=hi.owns k _ hφ
 exact ⟨hown.len,fun h=>by obtain ⟨g,hp,_⟩:=hown.head h;exact ⟨g,hp⟩⟩
theorem wx_ownLen {α:Type} {e sz m:Nat} {R:Rep α} {p:Option Addr} {cp:Nat} {l:List α} (k:Nat)(hφ:H[k]? =some (.own e sz R (.slice p m cp) l))(next:m=l.length→(0 < l.length→∃ g,p=some ⟨g,0,none⟩)→WX P C n Q ops lights L D Φ H S):WX P C n Q ops lights L D Φ H S :=
 fun listed a av w hr=>next (Qdq hr.holds hφ).1 (Qdq hr.holds hφ).2 listed a av w hr
theorem Q1Z {α:Type} {e sz m:Nat} {R:Rep α} {p:Option Addr} {cp:Nat} {l:List α} {rest:List Oper} (k:Nat)(hφ:H[k]? =some (.own e sz R (.slice p m cp) l))(next:m=l.length→(0 < l.length→∃ g,p=some ⟨g,0,none⟩)→WL P C n Q Φ H S ops rest):WL P C n Q Φ H S ops rest :=
 fun a w hf hw=>next (Qdq hw hφ).1 (Qdq hw hφ).2 a w hf hw
theorem Qas {α:Type} (hok:Q22 ops lights=true)(i:Nat) {o:Oper} {d t e sz m:Nat} {x y:Operand} {R:Rep α} {p:Option Addr} {cp:Nat} {l:List α} {ik:IntKind} {z:Int} (k j:Nat)(hi:ops[i]? =some o)(hd:o.dst=some d)(hl:Q4L ops lights L i n d o=true)(hS:Q4p d S=S')(hg:Q18 ops S o=some true)
  (ho:o.op=.indexAddr t x y) (hφ:H[k]? =some (.own e sz R (.slice p m cp) l)) (hx:evS S x=some (.slice p m cp)) (hy:evS S y=some (.int ik z)) (hz:z=(j:Int)) (hj:j < l.length) (he:Q2d P t=some e) (hs:Q1m P e=some sz)
  (next : ∀ g,p=some ⟨g,0,none⟩→WX P C n Q ops lights (i :: L) D Φ H ((d,.pointer (some ⟨g,j * sz,none⟩)) :: S')):WX P C n Q ops lights L D Φ H S :=
 wx_ownLen k hφ fun hm hp=>by
  obtain ⟨g,rfl⟩:=hp (by omega)
  subst hz
  refine Qc6 hok i [] [] hi hd hl hS rfl hg (fun a w hf _=>?_) (next g rfl)
  have h1:(0:Int)≤j∧(j:Int) < m:=by omega
  have h2:j < m:=by omega
  simp [execOp,ho,hf.eval hx,hf.eval hy,Instr.indexAt,asIntOf,run_underlying (Q1A he),h1,h2,Q3f hs]
  unfold Addr.add;split <;> simp_all
theorem QdJ {α:Type} (hok:Q22 ops lights=true)(i:Nat) {o:Oper} {d t e sz st m g:Nat} {x:Operand} {R:Rep α} {cp:Nat} {l:List α} {ag:Bool} {y : α} {cells : α→Unit→List Value} {pure : α→Unit→Prop} {facts : α→Unit→List Fact} {v:Value} (op:Q8B R cells pure facts)(k j q:Nat)
  (hi:ops[i]? =some o) (hd:o.dst=some d) (hl:Q4L ops lights L i n d o=true) (hS:Q4p d S=S') (hg:Q18 ops S o=some true) (ho:o.op=.load t x)
  (hφ:Q1d H [k]=[.own e sz R (.slice (some ⟨g,0,none⟩) m cp) l]) (hx:evS S x=some (.pointer (some ⟨g,j * sz+q,none⟩))) (hj:l[j]? =some y) (hs:Q1m P t=some st) (ha:Q58 P t=some ag)
  (hv:Q8V ag (((cells y ()).drop q).take st)=some v) (hlen:(((cells y ()).drop q).take st).length=st)
  (next:pure y ()→WX P C n Q ops lights (i :: L) ((i,.own e sz R (.slice (some ⟨g,0,none⟩) m cp) l) :: D) Φ H ((d,v) :: S')):WX P C n Q ops lights L D Φ H S:=by
 have hread : ∀ N F w,(Fact.own e sz R (.slice (some ⟨g,0,none⟩) m cp) l).op N F w→Q3D w g (j * sz+q) (((cells y ()).drop q).take st)∧pure y ():=by
  intro N F w ⟨_,xs,ho',hch⟩
  obtain ⟨cs,hcl,hr,hu⟩:=hch.at hj
  obtain ⟨r,h1,h2,_⟩:=op F w cs y hr
  subst h1
  refine ⟨fun z u hq=>?_,h2⟩
  have:=ho'.cells (g:=g) rfl (j * sz+(q+z)) u (hu _ u (by rw [List.getElem?_take] at hq;split at hq <;> first | (rw [List.getElem?_drop] at hq;exact hq) | cases hq))
  rw [Q4R] at this
  rw [Nat.zero_add] at this
  rwa [Nat.add_assoc]
 intro listed a av w hr
 have hpure:pure y ():=by
  obtain ⟨F,N,hm⟩:=hr.holds
  have hk:H[k]? =some (.own e sz R (.slice (some ⟨g,0,none⟩) m cp) l):=by
   simp only [Q1d,List.filterMap_cons,List.filterMap_nil] at hφ
   split at hφ
   · cases hφ
   · rename_i b hb;rw [hb];simpa using hφ
  exact (hread _ _ _ (hm.owns k _ hk)).2
 exact wx_load_by hok i [.own e sz R (.slice (some ⟨g,0,none⟩) m cp) l] [k] hi hd hl hS hφ hg ho hx (fun w ⟨_,h⟩=>by
  obtain ⟨N,F,h1⟩:=h _ (List.mem_singleton.2 rfl)
  exact (hread N F w h1).1) hs ha hlen hv (next hpure) listed a av w hr
end
end
end Go.Proofs.YtbgodclhmgmcgaaGreatDoor
