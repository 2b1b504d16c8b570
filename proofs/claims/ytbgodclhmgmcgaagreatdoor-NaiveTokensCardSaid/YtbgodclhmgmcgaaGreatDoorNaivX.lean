import Derived.Test.YtbgodclhmgmcgaaGreatDoorNaivW
namespace Go.Proofs.YtbgodclhmgmcgaaGreatDoor
open Go Go.RowKit
theorem rmatch_step {N:Nat} {b:Bool} {al:List Q1n} {xs vars:List V} {i:Nat} (hi:i < al.length)(hx:i < xs.length)(hv:vars.length≤1000000)(ha:(Q8M b ((vars.length:Nat):Int) al[i]).1=true) :
  Q5W N al i xs vars=match QaO al[i] xs[i] vars with | some v=>some (.inl v) | none=>some (.inr (.inr (.inr ([],false)))):=by
 unfold Q5W QaO
 rw [List.getElem?_eq_getElem hi,Q0]
 unfold Q8M at ha
 by_cases k2:al[i].k=2
 · rw [if_pos (by simpa using k2),if_pos k2,List.getElem?_eq_getElem hx,Q0,Qr (by simp;omega)]
 rw [if_neg (by simpa using k2),if_neg k2]
 by_cases k3:al[i].k=3
 ·rw [if_neg (by omega),if_neg k2,if_pos k3] at ha
  simp only [decide_eq_true_eq] at ha
  have hk:al[i].var.toNat < vars.length:=by omega
  rw [if_pos (by simpa using k3),if_pos k3,Qr ha.1,List.getElem?_eq_getElem hk,Q0,List.getElem?_eq_getElem hx,Q0]
  by_cases he:vars[al[i].var.toNat]=xs[i]
  · rw [if_neg (by simp [he]),if_pos (by rw [he])]
  · rw [if_pos (by simpa using he),if_neg (fun h=>he (Option.some.inj h))]
 rw [if_neg (by simpa using k3),if_neg k3]
 by_cases k4:al[i].k=4
 ·rw [if_pos (by simpa using k4),if_pos k4,List.getElem?_eq_getElem hx,Q0]
  by_cases he:al[i].v=xs[i]
  · rw [if_neg (by simp [he]),if_pos he]
  · rw [if_pos (by simpa using he),if_neg he]
 · rw [if_neg (by simpa using k4),if_neg k4]
theorem rmatch_iter {N:Nat} {b:Bool} {al:List Q1n} {xs:List V} (hlen:al.length=xs.length)(hal:al.length≤100000) :
   ∀ (m i fuel:Nat) (vars:List V),i + m = al.length → m < fuel → vars.length ≤ 1000 + i → (Q5K b (al.drop i) ((vars.length:Nat):Int)).1 = true →
     Q1e (Q2b N al xs) fuel (i,vars)=some (match Qat (al.drop i) (xs.drop i) vars with | some v=>.inl v | none=>.inr ([],false)):=by
 intro m
 induction m with
 | zero =>
   intro i fuel vars hi hf _ _
   obtain ⟨fuel,rfl⟩ : ∃ q,fuel=q+1:=⟨fuel - 1,by omega⟩
   obtain rfl:i=al.length:=by omega
   rw [Q1c (o:=.inl vars) (by unfold Q2b;simp only;rw [if_neg (by simp)]),List.drop_length];rfl
 | succ m ih =>
   intro i fuel vars hi hf hv ha
   obtain ⟨fuel,rfl⟩ : ∃ q,fuel=q+1:=⟨fuel - 1,by omega⟩
   have h1:i < al.length:=by omega
   have h2:i < xs.length:=by omega
   rw [List.drop_eq_getElem_cons h1] at ha
   obtain ⟨ha1,ha2⟩:=argsB_cons ha
   rw [ha2] at ha
   have hst:Q2b N al xs (i,vars)=match QaO al[i] xs[i] vars with | some v=>some (.inl (i+1,v)) | none=>some (.inr (.inr ([],false))):=by
     unfold Q2b
     simp only
     rw [if_pos (by simpa using h1),rmatch_step h1 h2 (by omega) ha1]
     cases QaO al[i] xs[i] vars with
     | none=>simp only;rw [Q1K]
     | some v=>simp only;rw [Q1b,Qr (by omega)]
   rw [List.drop_eq_getElem_cons h1,List.drop_eq_getElem_cons h2]
   unfold Qat
   cases hd:QaO al[i] xs[i] vars with
   | none =>
     rw [hd] at hst
     rw [Q1c hst]
   | some v =>
     rw [hd] at hst
     have hl:=docOne_len ha1 hd
     have hav:=QdR b ((vars.length:Nat):Int) al[i]
     rw [Q2c hst]
     exact ih (i+1) fuel v (by omega) (by omega) (by omega) (by rw [hl];exact ha)
theorem rmatch_is {N:Nat} (hN : 9223372036854775808≤N) {types:List Q8} {c:Qn} {f:QP} {vars:List V} (hc:CondR types ((vars.length:Nat):Int) c)(h3:c.kind≠3)(hf:Q3T types f.ty ((f.args.length:Nat):Int)=true)(hv:vars.length≤1000)(ha:c.args.length≤1000) :
  Q5y N c.kind c.type c.args c.test.kind c.test.value.k c.test.value.n c.test.value.s c.test.var c.test.op c.test.kids f.id f.ty f.args vars=some (match docM c f vars with | some v=>(v,true) | none=>([],false)):=by
 obtain ⟨t1,t2⟩:=hc.typed h3
 unfold Q5y docM
 by_cases ht:f.ty=c.type
 ·rw [if_neg (by simpa using ht),if_pos ht,Qr (by simp;omega)]
  rw [ht] at hf
  have:=typed_len t1 hf
  have hi:=rmatch_iter (N:=N) (b:=c.kind==1) (al:=c.args) (xs:=f.args) (by omega) (by omega) c.args.length 0 N vars (by omega) (by omega) (by omega) (by rw [List.drop_zero];exact t2)
  rw [List.drop_zero,List.drop_zero] at hi
  rw [hi]
  cases Qat c.args f.args vars with
  | none=>simp only;rw [Q1K]
  | some v=>simp only;rw [Q1b]
 · rw [if_pos (by simpa using ht),if_neg ht]
structure WayOk (w:Q9):Prop where
 ids:w.ids.length≤1000
 vars:w.vars.length≤1000
 vals : ∀ v∈w.vars,okV v
structure CondL (c:Qn):Prop where
 args:c.args.length≤1000
 test:Q8a c.test≤1000∧ok_Api_ExprD c.test
theorem on_iter {N:Nat} (hN : 9223372036854775808≤N) {types:List Q8} {facts:List QP} {c:Qn} {w:Q9} (hc:CondR types ((w.vars.length:Nat):Int) c)(h3:c.kind≠3)(hf : ∀ f∈facts,Q3T types f.ty ((f.args.length:Nat):Int)=true)(hfl:facts.length≤1000)(hw:WayOk w)(ha:c.args.length≤1000) :
   ∀ (m i fuel:Nat) (out:List Q9),i + m = facts.length → m < fuel → out.length ≤ i →
     Q1e (Q32 N facts c.kind c.type c.args c.test.kind c.test.value.k c.test.value.n c.test.value.s c.test.var c.test.op c.test.kids w.vars w.ids) fuel (i,out)=some (if c.kind=2 then (if ((facts.drop i).any fun f=>(docM c f w.vars).isSome)=true then .inr [] else .inl out) else .inl (out++(facts.drop i).filterMap fun f=>(docM c f w.vars).map fun v=>⟨w.ids++[f.id],v⟩)):=by
 intro m
 induction m with
 | zero =>
   intro i fuel out hi hfu _
   obtain ⟨fuel,rfl⟩ : ∃ q,fuel=q+1:=⟨fuel - 1,by omega⟩
   obtain rfl:i=facts.length:=by omega
   rw [Q1c (o:=.inl out) (by unfold Q32;simp only;rw [if_neg (by simp)]),List.drop_length]
   simp
 | succ m ih =>
   intro i fuel out hi hfu ho
   obtain ⟨fuel,rfl⟩ : ∃ q,fuel=q+1:=⟨fuel - 1,by omega⟩
   have h:i < facts.length:=by omega
   have hm:=rmatch_is (N:=N) hN hc h3 (hf _ (List.getElem_mem h)) hw.vars ha
   have h1:=hw.ids
   rw [List.drop_eq_getElem_cons h,List.any_cons,List.filterMap_cons]
   have hst:Q32 N facts c.kind c.type c.args c.test.kind c.test.value.k c.test.value.n c.test.value.s c.test.var c.test.op c.test.kids w.vars w.ids (i,out)=match docM c facts[i] w.vars with
       | some v=>if c.kind=2 then some (.inr (.inr [])) else some (.inl (i+1,out++[⟨w.ids++[facts[i].id],v⟩]))
       | none=>some (.inl (i+1,out)):=by
     unfold Q32 Q8A
     simp only
     rw [if_pos (by simpa using h),List.getElem?_eq_getElem h,Q0,hm,Q0]
     cases docM c facts[i] w.vars with
     | none=>simp only [Bool.not_false,if_true];rw [Q1b,Qr (by omega)]
     | some v =>
       simp only [Bool.not_true,Bool.false_eq_true,if_false]
       by_cases h2:c.kind=2
       · rw [if_pos (by simpa using h2),Q1K,if_pos h2]
       · rw [if_neg (by simpa using h2),if_neg h2,Qr (by simp;omega),Q0,Qr (by simp;omega),Qr (by simp;omega),Q1b,Qr (by omega)]
   cases hd:docM c facts[i] w.vars with
   | none =>
     rw [hd] at hst
     rw [Q2c hst,ih (i+1) fuel out (by omega) (by omega) (by omega)]
     simp
   | some v =>
     rw [hd] at hst
     by_cases h2:c.kind=2
     · simp only [if_pos h2] at hst ⊢
       rw [Q1c hst]
       simp
     · simp only [if_neg h2] at hst ⊢
       rw [Q2c hst,ih (i+1) fuel _ (by omega) (by omega) (by simp;omega),if_neg h2]
       simp
theorem ron_is {N:Nat} (hN : 9223372036855775808≤N) {types:List Q8} {facts:List QP} {c:Qn} {w:Q9} (hc:CondR types ((w.vars.length:Nat):Int) c)(hf : ∀ f∈facts,Q3T types f.ty ((f.args.length:Nat):Int)=true)(hfl:facts.length≤1000)(hw:WayOk w)(hl:CondL c) :
  Q78 N c.kind c.type c.args c.test.kind c.test.value.k c.test.value.n c.test.value.s c.test.var c.test.op c.test.kids w.ids w.vars facts=some (Q9a facts c w):=by
 unfold Q78 Q9a
 by_cases h3:c.kind=3
 ·rw [if_pos (by simpa using h3),if_pos h3]
  obtain ⟨t1,t2⟩:=hl.test
  have hvl:=hw.vars
  obtain ⟨⟨k,n,s,e⟩,hr,hr2,_⟩:=both 1000 N c.test w.vars t2 t1 (by omega) (by omega) hw.vals (by omega)
  have hsame:=both2 1000 N N0 c.test w.vars t2 t1 (by omega) (by omega) (by unfold N0;omega) hw.vals (by omega)
  have hd:docEv c w.vars=(e==0 && (k==1 && n !=0)):=by
   unfold docEv
   rw [← hsame,hr];rfl
  have hr3:Q2x N c.test.kind c.test.value.k c.test.value.n c.test.value.s c.test.var c.test.op c.test.kids w.vars=some (k,n,s,e):=hr2
  rw [hr3,Q0]
  simp only
  rw [hd]
  cases (e==0) <;> cases (k==1) <;> cases (n !=0) <;> rfl
 ·rw [if_neg (by simpa using h3),if_neg h3,on_iter (by omega) hc h3 hf hfl hw hl.args facts.length 0 N [] (by omega) (by omega) (by simp),List.drop_zero]
  by_cases h2:c.kind=2
  ·rw [if_pos h2,if_pos h2]
   cases (facts.any fun f=>(docM c f w.vars).isSome) with
   | true=>rw [if_pos rfl,if_pos rfl,Q1K]
   | false=>rw [if_neg (by simp),if_neg (by simp),Q1b,if_pos (by simpa using h2)]
  · rw [if_neg h2,if_neg h2,Q1b,if_neg (by simpa using h2),List.nil_append]
theorem docArgs_ok : ∀ {al:List Q1n} {xs vars v:List V},(∀ x∈xs,okV x)→(∀ x∈vars,okV x)→Qat al xs vars=some v→∀ x∈v,okV x
 | [],_,vars,v,_,hv,h=>by cases h;exact hv
 | _ :: _,[],_,_,_,_,h=>by cases h
 | a :: al,y :: xs,vars,v,hx,hv,h=>by
   unfold Qat at h
   split at h
   ·rename_i u hu
    refine docArgs_ok (fun z hz=>hx z (List.mem_cons_of_mem _ hz)) ?_ h
    unfold QaO at hu
    split at hu
    ·cases hu
     intro z hz
     rcases List.mem_append.1 hz with hz | hz
     · exact hv z hz
     · rw [List.mem_singleton.1 hz];exact hx y List.mem_cons_self
    ·split at hu
     ·split at hu
      · cases hu;exact hv
      · cases hu
     ·split at hu
      ·split at hu
       · cases hu;exact hv
       · cases hu
      · cases hu;exact hv
   · cases h
theorem docOn_ok {facts:List QP} {c:Qn} {w x:Q9} (hf : ∀ f∈facts,∀ v∈f.args,okV v)(hw : ∀ v∈w.vars,okV v)(h:x∈Q9a facts c w):(∀ v∈x.vars,okV v)∧x.ids.length≤w.ids.length+1:=by
 unfold Q9a at h
 split at h
 ·split at h
  · rw [List.mem_singleton.1 h];exact ⟨hw,by omega⟩
  · cases h
 ·split at h
  ·split at h
   · cases h
   · rw [List.mem_singleton.1 h];exact ⟨hw,by omega⟩
  ·obtain ⟨f,hfm,hd⟩:=List.mem_filterMap.1 h
   cases hm:docM c f w.vars with
   | none=>rw [hm] at hd;cases hd
   | some v =>
     rw [hm] at hd
     simp only [Option.map_some,Option.some.injEq] at hd
     rw [← hd]
     refine ⟨?_,by simp⟩
     unfold docM at hm
     split at hm
     · exact docArgs_ok (hf f hfm) hw hm
     · cases hm
theorem docOn_few {facts:List QP} {c:Qn} {w:Q9} (hf:facts.length≤1000):(Q9a facts c w).length≤1000:=by
 unfold Q9a
 split
 · split <;> simp
 ·split
  · split <;> simp
  · exact Nat.le_trans (List.length_filterMap_le _ _) hf
structure FactsOk (types:List Q8) (facts:List QP):Prop where
 few:facts.length≤1000
 typed : ∀ f∈facts,Q3T types f.ty ((f.args.length:Nat):Int)=true
 vals : ∀ f∈facts,∀ v∈f.args,okV v
theorem flat_take_le {α β:Type} {g : α→List β} (l:List α)(i:Nat):((l.take i).flatMap g).length≤(l.flatMap g).length:=by
 have:=congrArg (fun z=>(z.flatMap g).length) (List.take_append_drop i l)
 simp only [List.flatMap_append,List.length_append] at this
 omega
theorem inner_iter {N:Nat} (hN : 9223372036855775808≤N) {types:List Q8} {facts:List QP} (hF:FactsOk types facts) {conds:List Qn} {k:Nat} (hk:k < conds.length) {v:Nat} (hc:CondR types ((v:Nat):Int) conds[k])(hl:CondL conds[k]) {ws:List Q9} (hw : ∀ w∈ws,WayOk w∧w.vars.length=v) {n:Nat} (hn:n≤1000000)(hwl:ws.length≤1000000) :
   ∀ (m i fuel:Nat) (out:List Q9),i + m = ws.length → m < fuel → out.length ≤ 5096 → out = (ws.take i).flatMap (Q9a facts conds[k]) →
     ∃ o,Q1e (Q2m N ws n conds k facts) fuel (i,out)=some o∧o.length≤5096∧(o=ws.flatMap (Q9a facts conds[k])∨(4096 < n+o.length∧o.length≤(ws.flatMap (Q9a facts conds[k])).length)):=by
 intro m
 induction m with
 | zero =>
   intro i fuel out hi hfu hs ho
   obtain ⟨fuel,rfl⟩ : ∃ q,fuel=q+1:=⟨fuel - 1,by omega⟩
   obtain rfl:i=ws.length:=by omega
   rw [List.take_length] at ho
   refine ⟨out,?_,hs,.inl ho⟩
   rw [Q1c (o:=out) (by unfold Q2m;simp only;rw [if_neg (by simp),Q0,if_neg (by simp)])]
 | succ m ih =>
   intro i fuel out hi hfu hs ho
   obtain ⟨fuel,rfl⟩ : ∃ q,fuel=q+1:=⟨fuel - 1,by omega⟩
   have h:i < ws.length:=by omega
   by_cases hmore:n+out.length≤4096
   · have hmem:=List.getElem_mem h
     obtain ⟨w1,w2⟩:=hw _ hmem
     have hon:=ron_is (N:=N) hN (facts:=facts) (c:=conds[k]) (w:=ws[i]) (by rw [w2];exact hc) hF.typed hF.few w1 hl
     have hfew:=docOn_few (c:=conds[k]) (w:=ws[i]) hF.few
     obtain ⟨o,h1,h2,h4⟩:=ih (i+1) fuel (out++Q9a facts conds[k] ws[i]) (by omega) (by omega) (by simp;omega) (by rw [ho,List.take_add_one,List.getElem?_eq_getElem h,List.flatMap_append];simp only [Option.toList,List.flatMap_cons,List.flatMap_nil,List.append_nil])
     refine ⟨o,?_,h2,h4⟩
     ·rw [Q2c (s':=(i+1,out++Q9a facts conds[k] ws[i]))]
      · exact h1
      ·unfold Q2m
       simp only
       rw [if_pos (by simpa using h),Qr (by omega),Q0,if_pos (by simpa using hmore),List.getElem?_eq_getElem hk,Q0,List.getElem?_eq_getElem h,Q0,hon,Q0,Qr (by omega),Qr (by omega)]
   · refine ⟨out,?_,hs,.inr ⟨by omega,?_⟩⟩
     · rw [Q1c (o:=out) (by unfold Q2m;simp only;rw [if_pos (by simpa using h),Qr (by omega),Q0,if_neg (by simpa using hmore)])]
     · rw [ho];exact flat_take_le ws i
theorem sum_flat {facts:List QP} {c:Qn} {cs:List Qn} (ws:List Q9):(ws.map (Q7O facts (c :: cs))).sum=(ws.flatMap (Q9a facts c)).length+((ws.flatMap (Q9a facts c)).map (Q7O facts cs)).sum:=by
 induction ws with
 | nil=>rfl
 | cons w ws ih =>
   rw [List.map_cons,List.sum_cons,ih,List.flatMap_cons,List.length_append,List.map_append,List.sum_append]
   have : ∀ l:List Q9,(l.map fun x=>1+Q7O facts cs x).sum=l.length+(l.map (Q7O facts cs)).sum:=by
    intro l
    induction l with
    | nil=>rfl
    | cons x l ihl=>rw [List.map_cons,List.sum_cons,ihl,List.map_cons,List.sum_cons,List.length_cons];omega
   rw [Q7O,this]
   omega
theorem flat_flat {facts:List QP} {c:Qn} {cs:List Qn} (ws:List Q9):ws.flatMap (docGo facts (c :: cs))=(ws.flatMap (Q9a facts c)).flatMap (docGo facts cs):=by
 induction ws with
 | nil=>rfl
 | cons w ws ih=>rw [List.flatMap_cons,ih,List.flatMap_cons,List.flatMap_append,docGo]
theorem flat_nil {facts:List QP} : ∀ ws:List Q9,ws.flatMap (docGo facts [])=ws
 | []=>rfl
 | w :: ws=>by rw [List.flatMap_cons,flat_nil ws];rfl
theorem sum_nil {facts:List QP} : ∀ ws:List Q9,(ws.map (Q7O facts [])).sum=0
 | []=>rfl
 | w :: ws=>by rw [List.map_cons,List.sum_cons,sum_nil ws];rfl
theorem ways_iter {N:Nat} (hN : 9223372036855775808≤N) {types:List Q8} {facts:List QP} (hF:FactsOk types facts) {conds:List Qn} (hcl:conds.length≤100)(hcs : ∀ c∈conds,CondL c) :
   ∀ (m k fuel n:Nat) (ws:List Q9) (v:Nat) (kf:Int),k + m = conds.length → m < fuel → n ≤ 5096 * k → ws.length ≤ 5096 → (∀ w ∈ ws,(w.ids.length ≤ k ∧ ∀ x ∈ w.vars,okV x) ∧ w.vars.length = v) → (Q4m types (conds.drop k) ((v:Nat):Int) kf).1 = true → (Q4m types (conds.drop k) ((v:Nat):Int) kf).2.1 ≤ 1000 →
     ∃ L n',Q1e (Q1L N conds facts) fuel (k,n,ws)=some (L,n')∧n' ≤5096 * conds.length∧((L=ws.flatMap (docGo facts (conds.drop k))∧n' =n+(ws.map (Q7O facts (conds.drop k))).sum)∨(4096 < n' ∧4096 < n+(ws.map (Q7O facts (conds.drop k))).sum)):=by
 intro m
 induction m with
 | zero =>
   intro k fuel n ws v kf hk hfu hn hwl hw hc hv
   obtain ⟨fuel,rfl⟩ : ∃ q,fuel=q+1:=⟨fuel - 1,by omega⟩
   obtain rfl:k=conds.length:=by omega
   refine ⟨ws,n,?_,hn,.inl ?_⟩
   · rw [Q1c (o:=(ws,n)) (by unfold Q1L;simp only;rw [if_neg (by simp),Q0,if_neg (by simp)])]
   · rw [List.drop_length,flat_nil,sum_nil];exact ⟨rfl,rfl⟩
 | succ m ih =>
   intro k fuel n ws v kf hk hfu hn hwl hw hc hv
   obtain ⟨fuel,rfl⟩ : ∃ q,fuel=q+1:=⟨fuel - 1,by omega⟩
   have h:k < conds.length:=by omega
   have hn2:n≤5096 * conds.length:=Nat.le_trans hn (Nat.mul_le_mul_left _ (by omega))
   by_cases hmore:n≤4096
   · rw [List.drop_eq_getElem_cons h] at hc hv ⊢
     obtain ⟨h1,h2⟩:=conds_cons hc
     rw [h2] at hc hv
     obtain ⟨hcr,hcv⟩:=condR_of h1
     have hcvb:=QaA types (conds.drop (k+1)) (Q3C types ((v:Nat):Int) kf conds[k]).2.1 (Q3C types ((v:Nat):Int) kf conds[k]).2.2
     have hcv2:=Qeh types ((v:Nat):Int) kf conds[k]
     obtain ⟨o,o1,o2,o3⟩:=inner_iter hN hF h hcr (hcs _ (List.getElem_mem h)) (ws:=ws) (fun w hwm=>by
      obtain ⟨⟨a,b⟩,c⟩:=hw w hwm
      exact ⟨⟨by omega,by omega,b⟩,c⟩) (n:=n) (by omega) (by omega) ws.length 0 N [] (by omega) (by omega) (by simp) (by simp)
     have hst:Q1L N conds facts (k,n,ws)=some (.inl (k+1,n+o.length,o)):=by
      unfold Q1L
      simp only
      rw [if_pos (by simpa using h),Q0,if_pos (by simpa using hmore),o1,Q0,Qr (by omega),Qr (by omega)]
     rw [Q2c hst,flat_flat,sum_flat]
     rcases o3 with o3 | ⟨o3,o4⟩
     ·obtain ⟨L,n',l1,l2,l3⟩:=ih (k+1) fuel (n+o.length) o (Q3C types ((v:Nat):Int) kf conds[k]).2.1.toNat (Q3C types ((v:Nat):Int) kf conds[k]).2.2 (by omega) (by omega) (by omega) o2 (fun x hx=>by
       rw [o3] at hx
       obtain ⟨w,hwm,hxw⟩:=List.mem_flatMap.1 hx
       obtain ⟨⟨a,b⟩,c⟩:=hw w hwm
       obtain ⟨d1,d2⟩:=docOn_ok hF.vals b hxw
       refine ⟨⟨by omega,d1⟩,?_⟩
       have hl:=docOn_len (types:=types) (by rw [c];exact hcr) hxw
       rw [c,← hcv] at hl
       omega) (by rw [Int.toNat_of_nonneg (by omega)];exact hc) (by rw [Int.toNat_of_nonneg (by omega)];exact hv)
      refine ⟨L,n',l1,l2,?_⟩
      rw [← o3]
      rcases l3 with ⟨l3,l4⟩ | ⟨l3,l4⟩
      · exact .inl ⟨l3,by omega⟩
      · exact .inr ⟨l3,by omega⟩
     ·refine ⟨o,n+o.length,?_,?_,.inr ⟨by omega,by omega⟩⟩
      ·obtain ⟨fuel,rfl⟩ : ∃ q,fuel=q+1:=⟨fuel - 1,by omega⟩
       rw [Q1c (o:=(o,n+o.length))]
       unfold Q1L
       simp only
       by_cases hlast:k+1 < conds.length
       · rw [if_pos (by simpa using hlast),Q0,if_neg (by simp;omega)]
       · rw [if_neg (by simpa using hlast),Q0,if_neg (by simp)]
      ·have : 5096 * (k+1)≤5096 * conds.length:=Nat.mul_le_mul_left _ (by omega)
       omega
   · refine ⟨ws,n,?_,hn2,.inr ⟨by omega,by omega⟩⟩
     rw [Q1c (o:=(ws,n)) (by unfold Q1L;simp only;rw [if_pos (by simpa using h),Q0,if_neg (by simpa using hmore)])]
theorem ways_is {N:Nat} (hN : 9223372036855775808≤N) {types:List Q8} {facts:List QP} (hF:FactsOk types facts) {r:Qf} (hr:Qa5 types r=true)(hcs : ∀ c∈r.conds,CondL c) :
  ∃ L n,Q6a N r.name r.salience r.vars r.conds r.acts facts=some (L,n)∧n≤1000000∧((L=docGo facts r.conds ⟨[],[]⟩∧n=Q7O facts r.conds ⟨[],[]⟩)∨(4096 < n∧4096 < Q7O facts r.conds ⟨[],[]⟩)):=by
 unfold Qa5 at hr
 simp only [Bool.and_eq_true,decide_eq_true_eq] at hr
 obtain ⟨⟨_,_,_,h8,_⟩,hb,⟨_,h16⟩,_⟩:=hr
 obtain ⟨L,n,l1,l2,l3⟩:=ways_iter hN hF (conds:=r.conds) (by omega) hcs r.conds.length 0 N 0 [⟨[],[]⟩] 0 0 (by omega) (by omega) (by omega) (by simp) (by simp) (by rw [List.drop_zero];exact hb) (by rw [List.drop_zero];exact Int.le_trans h16 (by decide))
 rw [List.drop_zero] at l3
 simp only [List.flatMap_cons,List.flatMap_nil,List.append_nil,List.map_cons,List.map_nil,List.sum_cons,List.sum_nil,Nat.add_zero,Nat.zero_add] at l3
 unfold Q6a
 rw [l1,Q0]
 exact ⟨L,n,rfl,by have : 5096 * r.conds.length≤5096 * 8:=Nat.mul_le_mul_left _ h8;omega,l3⟩
end Go.Proofs.YtbgodclhmgmcgaaGreatDoor
