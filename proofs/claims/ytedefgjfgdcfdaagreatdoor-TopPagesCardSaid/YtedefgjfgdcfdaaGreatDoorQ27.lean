/- Walks and laws for TopPages. -/
import Derived.Test.YtedefgjfgdcfdaaGreatDoorQ04
import Derived.DeepKeys4
namespace Go.Proofs.YtedefgjfgdcfdaaGreatDoor
open Go.RowKit Go.Proofs.Tryz
set_option maxRecDepth 100000
set_option maxHeartbeats 4000000
section
open Go.ChangeMaps (setBlock heap_setBlock_same heap_setBlock_other)
open Go.WideElems (Fit rd rg pl rd_val rd_key rg_of)
open Go.Maps (Keyed)
theorem YH:laidOutB prog=true:=qh
theorem JS:(263:TypeId)<prog.types.size:=XBY qh
theorem Xg:prog.keyTypeAt 2 263=true:=qh
theorem Xi:(match prog.underlying 263 with|some (.array _ _)|some (.struct _)=>true|_=>false)=true:=by rw [XCO]
theorem law:Keyed prog 263:=Keyed.of_law (deep_law_laid YH (m:=2) qd JS Xg Xi)
theorem JT:prog.keyType 263=true:=qh
theorem yV:prog.cellsOf 263=2:=qh
theorem JE:prog.cellsOf 3=1:=qh
theorem types_size:∃n,prog.types.size=n+2:=⟨prog.types.size-2,by have:=JS;have h:(2:Nat)<=prog.types.size:=XBY qh;omega⟩
def aY(x:Int):Prop:=(Lit.int .i64 x).wf=true
theorem pX{x:Int} :aY x↔ -9223372036854775808<=x/\x<=9223372036854775807:=by
 unfold aY;rw [Lit.wf_int_iff];simp [IntKind.min,IntKind.max,IntKind.bits,IntKind.signed]
theorem Xh{x y:Int}(hx:aY x)(hy:aY y):∃kl,keyOf prog 263 (.agg #[.int .i64 x,.int .i64 y])=some kl:=by
 obtain⟨n,hn⟩:=types_size;unfold keyOf;rw [XCO];refine⟨.string (keyBytes [.int .i64 x,.int .i64 y]),?_⟩;have hf:(Value.agg #[Value.int .i64 x,Value.int .i64 y]).formed prog 263=true:=by simp [Value.formed,underlying263,yV]
 have hx':(Lit.int .i64 x).wf=true:=hx;have hy':(Lit.int .i64 y).wf=true:=hy;simp [JT,hf,hn,Program.keyLits,underlying263,underlying3,yV,JE,Value.cells,List.range_succ,hx',hy']
theorem Ke{d:Nat}{c:Value}{ls:List Lit}(h:prog.keyLits (d+1) 3 [c]=some ls):∃x,c=.int .i64 x/\aY x:=by
 unfold Program.keyLits at h;rw [XAW] at h;cases c<;>simp at h;obtain⟨⟨rfl,h2⟩,-⟩:=h;exact⟨_,R,h2⟩
theorem JR{v:Value}{kl:Lit}(h:keyOf prog 263 v=some kl):∃x y,v=.agg #[.int .i64 x,.int .i64 y]/\aY x/\aY y:=by
 obtain⟨n,hn⟩:=types_size;unfold keyOf at h;rw [XCO] at h;simp only [JT,XCt] at h;split at h
 .rename_i hf;cases v<;>simp [Value.formed,underlying263,yV] at hf;rename_i cs;obtain⟨l⟩:=cs
  match l,hf with
  | [a,b],_=>
   have e:prog.keyLits (n+2+1) 263 [a,b]=((List.range 2).mapM λi=>prog.keyLits (n+2) 3 (([a,b].drop (i*1)).take 1)).map List.flatten:=by
    rw [Program.keyLits]
    case heq=>exact XCO
    simp [yV,JE]
   simp only [Value.cells,hn] at h;rw [e] at h;obtain⟨ls,h1,-⟩:=XEh.1 h;obtain⟨lss,h2,-⟩:=XEh.1 h1;cases h3:prog.keyLits (n+2) 3 [a] with
   |none=>simp [XBz,h3] at h2
   |some la=>
    cases h4:prog.keyLits (n+2) 3 [b] with
    |none=>simp [XBz,h3,h4] at h2
    |some lb=>
     obtain⟨x,rfl,hx⟩:=Ke h3;obtain⟨y,rfl,hy⟩:=Ke h4;exact⟨x,y,R,hx,hy⟩
 .cases h
noncomputable def gD (x y:Int):Lit:=(keyOf prog 263 (.agg #[.int .i64 x,.int .i64 y])).getD (.bool false)
theorem mL{x y:Int}(hx:aY x)(hy:aY y):keyOf prog 263 (.agg #[.int .i64 x,.int .i64 y])=some (gD x y):=by
 obtain⟨kl,h⟩:=Xh hx hy;unfold gD;rw [h];rfl
theorem Di{x y x' y':Int}(hx:aY x)(hy:aY y)(hx':aY x')(hy':aY y')(h:gD x y=gD x' y'):x=x'/\y=y':=by
 have h1:=law.inj (mL hx hy) (h ▸ mL hx' hy');simpa using h1
theorem yW{x y:Int}(hx:aY x)(hy:aY y):WideAt.IsKeyLit (gD x y):=law.key (mL hx hy)
theorem Xo{x y x' y':Int}(hx:aY x)(hy:aY y)(hx':aY x')(hy':aY y'):(gD x y).sameKey (gD x' y')=decide (x=x'/\y=y'):=by
 by_cases h:x=x'/\y=y'
 .obtain⟨rfl,rfl⟩:=h;rw [XEa (yW hx hy)];simp
 .rw [Maps.sameKey_ne (λe=>h (Di hx hy hx' hy' e)),XAS h]
def lv(D:DataW Unit)(F:Int->Int->Int):Prop:=∀x y,aY x->aY y->D.atKey (gD x y) (.lit (.int .i64 0))=.lit (.int .i64 (F x y))/\Maps.has D (gD x y)=decide (F x y≠0)
def fB(F:Int->Int->Int)(x y g:Int):Int->Int->Int:=λa c=>if a=x/\c=y then g else F a c
theorem lv.empty:lv (.map []) (λ_ _=>0):=λx y _ _=>⟨R,by simp [Maps.has]⟩
theorem lv.put{D:DataW Unit}{F:Int->Int->Int}(h:lv D F)(hD:Maps.IsMap D){x y g:Int}(hx:aY x)(hy:aY y)(hg:g≠0):lv (D.put (gD x y) (.lit (.int .i64 g))) (fB F x y g):=λa c ha hc=>by
 unfold fB;by_cases e:a=x/\c=y
 .obtain⟨rfl,rfl⟩:=e;rw [XAE ⟨R,R⟩,Maps.atKey_put_same hD (yW hx hy),Maps.has_put_same hD (yW hx hy)];exact⟨R,by simp [hg]⟩
 .have hne:gD a c≠gD x y:=λe'=>e (Di ha hc hx hy e');rw [XAD e,Maps.atKey_put_other hne,Maps.has_put_other hne];exact h a c ha hc
theorem lv.del{D:DataW Unit}{F:Int->Int->Int}(h:lv D F){x y:Int}(hx:aY x)(hy:aY y):lv (D.del (gD x y)) (fB F x y 0):=λa c ha hc=>by
 unfold fB;by_cases e:a=x/\c=y
 .obtain⟨rfl,rfl⟩:=e;rw [XAE ⟨R,R⟩,Maps.atKey_del_same,Maps.has_del_same];exact⟨R,ql⟩
 .have hne:gD a c≠gD x y:=λe'=>e (Di ha hc hx hy e');rw [XAD e,Maps.atKey_del_other hne,Maps.has_del_other hne];exact h a c ha hc
def cH(w:World)(b n:Nat)(F:Int->Int->Int):Prop:=∃D:DataW Unit,w.ownsMap prog 263 (plainElem prog 3) b n D/\lv D F
section
variable{w w':World}{b n:Nat}{F:Int->Int->Int}
theorem cH.new(w:World):cH (w.alloc (.map #[] 0)) w.heap.size 0 (λ_ _=>0):=⟨.map [],World.ownsMap_made _ _ _ _,lv.empty⟩
theorem cH.lt(h:cH w b n F):b<w.heap.size:=by obtain⟨D,h1,-⟩:=h;exact h1.lt
theorem cH.mono(h:cH w b n F){n':Nat}(hn:n<=n'):cH w b n' F:=qgw
theorem cH.heap(h:cH w b n F)(e:w'.heap[b]? =w.heap[b]?):cH w' b n F:=by
 obtain⟨D,⟨es,clock,hb,r⟩,h2⟩:=h;exact⟨D,⟨es,clock,e.trans hb,r⟩,h2⟩
theorem cH.below(h:cH w b n F)(hb:Below w w w'):cH w' b n F:=h.heap (hb.block b h.lt)
theorem cH.alloc(h:cH w b n F)(o:Obj):cH (w.alloc o) b n F:=h.heap (XAX w o b h.lt)
theorem cH.setCell(h:cH w b n F){p:Addr}(hp:b≠p.block)(u:Value):cH (w.setCell p u) b n F:=h.heap (XAN w p u b hp)
theorem cH.congr(h:cH w b n F){G:Int->Int->Int}(e:∀x y,aY x->aY y->G x y=F x y):cH w b n G:=by
 obtain⟨D,h1,h2⟩:=h;exact⟨D,h1,λx y hx hy=>by rw [e x y hx hy];exact h2 x y hx hy⟩
end
theorem C7(w:World):(zeroValue 3).run prog w=.ok (.int .i64 0) w:=qh
theorem cH.look{w:World}{b n:Nat}{F:Int->Int->Int}(h:cH w b n F){x y:Int}(hx:aY x)(hy:aY y)(w':World)(e:w'.heap[b]? =w.heap[b]?):
  (Instr.lookup 125 (.map (some b)) (.agg #[.int .i64 x,.int .i64 y]) true).run prog w'=.ok (.tuple #[.int .i64 (F x y),.bool (decide (F x y≠0))]) w':=by
 obtain⟨D,h1,h2⟩:=h.heap e;obtain⟨v,ps,hrun,hv⟩:=h1.look_ok law XB2 (C7 w') (zd:=.lit (.int .i64 0)) (plainElem_int XAW qf) (mL hx hy);obtain⟨e1,e2⟩:=h2 x y hx hy;rw [e1] at hv;obtain⟨c,rfl,hc,hwc⟩:=XEm XAW hv;rw [hrun,e2];simp at hc;rw [hc.1]
theorem cH.wf{w:World}{b n:Nat}{F:Int->Int->Int}(h:cH w b n F){x y:Int}(hx:aY x)(hy:aY y):aY (F x y):=by
 obtain⟨D,h1,h2⟩:=h;obtain⟨c,hrun,hc,hwc⟩:=h1.lookup_int law XB2 XAW (C7 w) (mL hx hy);rw [(h2 x y hx hy).1] at hc;simp at hc;rw [hc];exact hwc
theorem cH.look1{w:World}{b n:Nat}{F:Int->Int->Int}(h:cH w b n F){x y:Int}(hx:aY x)(hy:aY y)(w':World)(e:w'.heap[b]? =w.heap[b]?):
  (Instr.lookup 125 (.map (some b)) (.agg #[.int .i64 x,.int .i64 y]) false).run prog w'=.ok (.int .i64 (F x y)) w':=by
 obtain⟨D,h1,h2⟩:=h.heap e;obtain⟨c,hrun,hc,hwc⟩:=h1.lookup_int law XB2 XAW (C7 w') (mL hx hy);rw [(h2 x y hx hy).1] at hc;simp at hc;rw [hrun,hc]
section
variable{w:World}{b n:Nat}{F:Int->Int->Int}{ops:Array Oper}{rest:List Oper}{o:Oper}{a:Act}{Q:Exit->Act->World->Prop}
theorem aaR(hg:o.guard=none)(m x v:Operand)(hop:o.op=Op.mapUpdate 125 m x v)(hm:a.eval m=.map (some b))(h:cH w b n F)(hn:n<maxLen)(X af g:Int)
 (hx:a.eval x=.agg #[.int .i64 X,.int .i64 af])(hv:a.eval v=.int .i64 g)(hX:aY X)(hY:aY af)(hg1:aY g)(hg0:g≠0)
 (hK:∀w',cH w' b (n+1) (fB F X af g)->w.mapTurned w' b->wpList prog ops Q rest (a.put o.dst undef) w'):wpList prog ops Q (o::rest) a w:=by
 obtain⟨D,h1,h2⟩:=h;exact wpList_mapUpdate_in w hg m x v _ hop _ _ law XB2 _ b n D hm h1 hn _ _ _ hx hv (mL hX hY) _ [] (plainElem_int XAW hg1) λw' h3 h4=>hK w' ⟨_,h3,h2.put h1.isMap hX hY hg0⟩ h4
theorem aaQ(hg:o.guard=none)(m x:Operand)(hop:o.op=Op.call { callee:=Callee.builtin Builtin.delete,args:=#[m,x],argTypes:=#[125,263] })(hm:a.eval m=.map (some b))(h:cH w b n F)(X af:Int)
 (hx:a.eval x=.agg #[.int .i64 X,.int .i64 af])(hX:aY X)(hY:aY af)
 (hK:∀w',cH w' b n (fB F X af 0)->w.mapTurned w' b->wpList prog ops Q rest (a.put o.dst (.tuple #[])) w'):wpList prog ops Q (o::rest) a w:=by
 obtain⟨D,h1,h2⟩:=h;exact wpList_delete_own w hg m x _ _ hop _ law XB2 _ b n D hm h1 _ _ hx (mL hX hY) λw' h3 h4=>hK w' ⟨_,h3,h2.del hX hY⟩ h4
end
end
section
open Go.ChangeMaps (setBlock heap_setBlock_same heap_setBlock_other modify_eq_set)
open Go.WideElems (Fit rd rg pl rd_val rd_key rg_of rd_mk other_key)
open Go.Maps (Keyed)
theorem Kd(A:Array MapEntry)(seen:Array Nat):(leftOf A seen).size=A.toList.countP (λe=> !seen.contains e.born):=by
 unfold leftOf;rw [<-Array.countP_eq_size_filter,Array.countP_toList]
section
variable{H:Type}{P:Program}{k:TypeId}{ah:Value->Option (DataW H × List MemPlace)}{w:World}{b r n:Nat}{D:DataW H}{left:Lit->Bool}{cnt:Nat}
theorem Z_{t e:TypeId}(h:w.ranges P k ah b r n D left cnt)(K:Keyed P k)(ht:P.underlying t=some (.map k e)){key val:Value}{kl:Lit}(hkey:keyOf P k key=some kl)(hin:Maps.has D kl=true)(hn:n<maxLen){d:DataW H}{ps:List MemPlace}(hv:ah val=some (d,ps)):
  ∃w',(Instr.mapUpdate t (.map (some b)) key val).run P w=.ok () w'/\w'.ranges P k ah b r n (D.put kl d) left cnt/\w.mapTurned w' b:=by
 have hne:=h.ne;obtain⟨es,clock,since,seen,c0,hb,F,hs,rfl,hr,hold,rfl,hl1,hl2,hsc,hsk⟩:=h;rcases K.find w hkey es.toList F.keys with⟨h1,h2⟩|⟨j,e0,h1,h2,h3⟩
 .exfalso;obtain⟨p,hp,hpk⟩:=XCI.1 hin;obtain⟨x,hx,rfl⟩:=XBR.1 (mem_sorted.1 hp);obtain⟨y,hy⟩:=F.reads x hx;have e1:=WideAt.sameKey_eq hpk;rw [rg_of hy] at e1;exact h2 x hx (K.inj (rd_key hy) (by rw [e1];exact hkey))
 .have hj:es[j]? =some e0:=by simpa using h2
  have hm0:e0∈es.toList:=XAi h2;obtain⟨es',clock',hrun,F',hput,-,-,-⟩:=Maps.fit_store (R':=ah) K ht hb F (Nat.lt_of_le_of_lt hs hn) (λ_ _ _ _ hz=>hz) hkey hv;have hrun2:(Instr.mapUpdate t (.map (some b)) key val).run P w=.ok () (setBlock w b (.map (es.modify j (λe'=> { e' with key:=key,val:=val })) clock)):=by simp [Instr.mapUpdate,XBv ht,XCY hb,K.check w false hkey,h1,hj,h3,K.stays w hkey,MapKept.run_setObj_map _ hb,Result.andThen,setBlock]
  have hw:setBlock w b (.map es' clock')=setBlock w b (.map (es.modify j (λe'=> { e' with key:=key,val:=val })) clock):=by rw [hrun] at hrun2;simpa using hrun2
  have hob:some (Obj.map es' clock')=some (.map (es.modify j (λe'=> { e' with key:=key,val:=val })) clock):=by rw [<-heap_setBlock_same hb (.map es' clock'),hw,heap_setBlock_same hb]
  simp only [XEN,Obj.map.injEq] at hob;obtain⟨rfl,rfl⟩:=hob;have hlist:(es.modify j (λe'=> { e' with key:=key,val:=val })).toList=es.toList.set j { e0 with key:=key,val:=val } :=by rw [Array.toList_modify,modify_eq_set _ _ _ _ h2]
  have hjl:j<es.toList.length:=(XDZ.1 h2).1;have G4:(rg P k ah { e0 with key:=key,val:=val }).1=(rg P k ah e0).1:=by obtain⟨y0,hy0⟩:=F.reads e0 hm0;have m0:=rd_key hy0;rw [h3,hkey] at m0;rw [rg_of (rd_mk hkey hv),rg_of hy0];exact XAl m0
  have who:∀x∈es.toList.set j { e0 with key:=key,val:=val },∃x0∈es.toList,x0.born=x.born/\(rg P k ah x).1=(rg P k ah x0).1:=by
   intro x hx;obtain⟨i,hi,ex⟩:=List.getElem_of_mem hx;rw [List.getElem_set] at ex;split at ex
   .subst ex;exact⟨e0,hm0,R,G4⟩
   .subst ex;exact⟨_,XCu _,R,R⟩
  have aw:∀x0∈es.toList,∃x∈es.toList.set j { e0 with key:=key,val:=val },(rg P k ah x).1=(rg P k ah x0).1:=by
   intro x0 hx0;obtain⟨i,hi,ex⟩:=List.getElem_of_mem hx0;by_cases hij:j=i
   .subst hij;have:x0=e0:=by rw [<-ex];exact(XDZ.1 h2).2
    subst this;exact⟨{ x0 with key:=key,val:=val },List.mem_iff_getElem.2 ⟨j,by simpa using hjl,ql⟩,G4⟩
   .exact⟨x0,List.mem_iff_getElem.2 ⟨i,by simpa using hi,by rw [List.getElem_set_ne hij];exact ex⟩,R⟩
  have hsz:(leftOf (es.modify j (λe'=> { e' with key:=key,val:=val })) seen).size=(leftOf es seen).size:=by
   rw [Kd,Kd,hlist];have hsp:=XDZ.1 h2;rw [List.countP_set hsp.1];have e1:es.toList[j]=e0:=hsp.2;rw [e1];have hp:0<List.countP (λe=> !seen.contains e.born) es.toList\/(!seen.contains e0.born)=false:=by
    cases hc:(!seen.contains e0.born)
    .exact .inr rfl
    .exact .inl (List.countP_pos_iff.2 ⟨e0,hm0,hc⟩)
   generalize List.countP (λe=> !seen.contains e.born) es.toList=c at hp ⊢;show(c-(if(!seen.contains e0.born)=true then 1 else 0))+(if(!seen.contains e0.born)=true then 1 else 0)=c;rcases hp with hp|hp
   .split<;>omega
   .rw [hp];simp
  refine⟨_,hrun,⟨_,_,since,seen,c0,heap_setBlock_same hb _,F',by simpa using hs,by rw [DataW.put_eq,hput],(heap_setBlock_other hb _ hne).trans hr,λx hx=>?_,hsz,λx hx=>?_,λx0 hx0=>?_,hsc,hsk⟩,⟨es,clock',_,_,hb,R⟩⟩
  .rw [hlist] at hx;obtain⟨x0,h4,h5,-⟩:=who x hx;rw [<-h5];exact hold x0 h4
  .rw [hlist] at hx;obtain⟨x0,h4,h5,h6⟩:=who x hx;rw [h6,<-h5];exact hl1 x0 h4
  .obtain⟨x,h4,h5⟩:=hl2 x0 hx0;obtain⟨x',h6,h7⟩:=aw x h4;exact⟨x',by rw [hlist];exact h6,h7.trans h5⟩
theorem aac{ops:Array Oper}{rest:List Oper}{o:Oper}{a:Act}{Q:Exit->Act->World->Prop}(hg:o.guard=none)(m x v:Operand)(t:TypeId)(hop:o.op=Op.mapUpdate t m x v)(e:TypeId)(K:Keyed P k)(ht:P.underlying t=some (.map k e))
 (hm:a.eval m=.map (some b))(h:w.ranges P k ah b r n D left cnt)(hn:n<maxLen)(key val:Value)(kl:Lit)(hx:a.eval x=key)(hv:a.eval v=val)(hkey:keyOf P k key=some kl)(hin:Maps.has D kl=true)(d:DataW H)(ps:List MemPlace)(hval:ah val=some (d,ps))
 (hK:∀w',w'.ranges P k ah b r n (D.put kl d) left cnt->w.mapTurned w' b->wpList P ops Q rest (a.put o.dst undef) w'):wpList P ops Q (o::rest) a w:=by
 refine wpList_plain hg λK' hK'=>?_;obtain⟨w',hrun,r1,r2⟩:=Z_ h K ht hkey hin hn hval;unfold Oper.wp;simp [execOp,hop,hm,hx,hv,hrun,Result.andThen];exact hK' _ _ (hK w' r1 r2)
end
def strike(left:Int->Int->Bool)(X af:Int):Int->Int->Bool:=λx y=>left x y && !decide (x=X/\y=af)
def dM(w:World)(b r n:Nat)(F:Int->Int->Int)(left:Int->Int->Bool)(cnt:Nat):Prop:=
 ∃(D:DataW Unit)(lf:Lit->Bool),w.ranges prog 263 (plainElem prog 3) b r n D lf cnt/\lv D F/\∀x y,aY x->aY y->left x y=lf (gD x y)
section
variable{w w':World}{b r n:Nat}{F:Int->Int->Int}{left:Int->Int->Bool}{cnt:Nat}
theorem dM.owns(h:dM w b r n F left cnt):cH w b n F:=qgo
theorem dM.ne(h:dM w b r n F left cnt):r≠b:=by obtain⟨D,lf,h1,-⟩:=h;exact h1.ne
theorem dM.lt(h:dM w b r n F left cnt):r<w.heap.size:=by obtain⟨D,lf,h1,-⟩:=h;exact h1.lt
theorem dM.left_eq(h:dM w b r n F left cnt):w.rangeLeft b r=cnt:=qip
theorem dM.kept(h:dM w b r n F left cnt)(e1:w'.heap[b]? =w.heap[b]?)(e2:w'.heap[r]? =w.heap[r]?):dM w' b r n F left cnt:=by
 obtain⟨D,lf,⟨es,clock,since,seen,c0,hb,F1,hs,hD,hr,rest⟩,h2⟩:=h;exact⟨D,lf,⟨es,clock,since,seen,c0,e1.trans hb,F1,hs,hD,e2.trans hr,rest⟩,h2⟩
theorem dM.alloc(h:dM w b r n F left cnt)(o:Obj):dM (w.alloc o) b r n F left cnt:=h.kept (XAX w o b h.owns.lt) (XAX w o r h.lt)
theorem dM.below(h:dM w b r n F left cnt)(hb:Below w w w'):dM w' b r n F left cnt:=h.kept (hb.block b h.owns.lt) (hb.block r h.lt)
theorem dM.there(h:dM w b r n F left cnt){x y:Int}(hx:aY x)(hy:aY y)(hl:left x y=true):F x y≠0:=by
 obtain⟨D,lf,⟨es,clock,since,seen,c0,hb,F1,hs,rfl,hr,h3,h4,h5,h6,h7⟩,h2,hlf⟩:=h;rw [hlf x y hx hy] at hl;obtain⟨e,he,hk⟩:=h6 _ hl;have hh:Maps.has (DataW.map ((es.toList.map (rg prog 263 (plainElem prog 3))).foldr DataW.insert [])) (gD x y)=true:=
  XCI.2 ⟨rg prog 263 (plainElem prog 3) e,mem_sorted.2 (XBR.2 ⟨e,he,R⟩),by rw [hk];exact XEa (yW hx hy)⟩
 rw [(h2 x y hx hy).2] at hh;simpa using hh
end
section
variable{w:World}{b r n:Nat}{F:Int->Int->Int}{left:Int->Int->Bool}{cnt:Nat}{ops:Array Oper}{rest:List Oper}{o:Oper}{a:Act}{Q:Exit->Act->World->Prop}
theorem aas(hg:o.guard=none)(m:Operand)(hop:o.op=Op.range 125 m)(hm:a.eval m=.map (some b))(h:cH w b n F)
 (hK:∀w' cnt,dM w' b w.heap.size n F (λx y=>decide (F x y≠0)) cnt->Below w w w'->w'.heap.size=w.heap.size+1->wpList prog ops Q rest (a.put o.dst (.pointer (w.heap.size,0))) w'):wpList prog ops Q (o::rest) a w:=by
 obtain⟨D,h1,h2⟩:=h;exact wpList_range_own w hg m _ hop _ _ law XB2 _ b n D hm h1 λw' h3 h4 h5=>hK w' _ ⟨D,_,h3,h2,λx y hx hy=>((h2 x y hx hy).2).symm⟩ (below_grown (XAC _ _) h4 (XAB _) (λg hg=>qce)) h5
theorem aaB(hg:o.guard=none)(it:Operand)(hop:o.op=Op.next it false)(hit:a.eval it=.pointer (r,0))(h:dM w b r n F left cnt)
 (hDone:(∀x y,aY x->aY y->left x y=false)->wpList prog ops Q rest (a.put o.dst (.tuple #[.bool false])) w)
 (hMore:∀(X af:Int)(w':World)(cnt':Nat),aY X->aY af->left X af=true->dM w' b r n F (strike left X af) cnt'->cnt'<cnt->w.grownBy w' (some r)->w'.heap.size=w.heap.size->
   (Instr.entry (.pointer (r,0))).run prog w'=.ok (.tuple #[.agg #[.int .i64 X,.int .i64 af],.int .i64 (F X af)]) w'->wpList prog ops Q rest (a.put o.dst (.tuple #[.bool true,.agg #[.int .i64 X,.int .i64 af],.int .i64 (F X af)])) w'):wpList prog ops Q (o::rest) a w:=by
 obtain⟨D,lf,h1,h2,h3⟩:=h;refine wpList_next_ranges (α:=Int × Int) (β:=Int) w hg it hop _ law _ (λp=>.agg #[.int .i64 p.1,.int .i64 p.2]) (Value.int .i64) (λkey kl hkey=>?_) (λv y hv=>?_) b r n D lf cnt hit h1 (λhc hl=>hDone λx y hx hy=>by rw [h3 x y hx hy];exact hl _) ?_
 .obtain⟨x,y,rfl,-,-⟩:=JR hkey;exact⟨(x,y),R⟩
 .obtain⟨c,rfl,-,-⟩:=XEm XAW hv;exact⟨c,R⟩
 .rintro⟨X,af⟩ c kl y w' cnt' hkey hl hv hat hrg hlt hgr hsz hen;obtain⟨x',y',e,hX,hY⟩:=JR hkey;simp at e;obtain⟨rfl,rfl⟩:=e;have ek:kl=gD X af:=by rw [mL hX hY] at hkey;exact(XAl hkey).symm
  subst ek;obtain⟨c',e,rfl,hwc⟩:=XEm XAW hv;simp at e;subst e;have ec:F X af=c:=by have h4:=(h2 X af hX hY).1;rw [hat] at h4;simpa using h4.symm
  rw [<-ec] at hen ⊢;refine hMore X af w' cnt' hX hY (by rw [h3 X af hX hY];exact hl) ⟨D,_,hrg,h2,λx y hx hy=>?_⟩ hlt hgr hsz hen;show(left x y && _)=_;rw [h3 x y hx hy,Xo hx hy hX hY]
theorem aaj(hg:o.guard=none)(m x v:Operand)(hop:o.op=Op.mapUpdate 125 m x v)(hm:a.eval m=.map (some b))(h:dM w b r n F left cnt)(hn:n<maxLen)(X af g:Int)
 (hx:a.eval x=.agg #[.int .i64 X,.int .i64 af])(hv:a.eval v=.int .i64 g)(hX:aY X)(hY:aY af)(hg1:aY g)(hg0:g≠0)(hF:F X af≠0)
 (hK:∀w',dM w' b r n (fB F X af g) left cnt->w.mapTurned w' b->wpList prog ops Q rest (a.put o.dst undef) w'):wpList prog ops Q (o::rest) a w:=by
 obtain⟨D,lf,h1,h2,h3⟩:=h;exact aac hg m x v _ hop _ law XB2 hm h1 hn _ _ _ hx hv (mL hX hY) (by rw [(h2 X af hX hY).2];exact XAR hF) _ [] (plainElem_int XAW hg1)
  λw' h4 h5=>hK w' ⟨_,lf,h4,h2.put h1.owns.isMap hX hY hg0,h3⟩ h5
end
end
section
open Go.ChangeMaps (setBlock heap_setBlock_same heap_setBlock_other)
section
variable{w w' a:World}{b:Nat}
theorem One.turn(h:w.mapTurned w' b):One b w w':=by
 obtain⟨es,clock,es',clock',hb,rfl⟩:=h;exact⟨R,R,R,by simp [setBlock],λk _ hk=>heap_setBlock_other hb _ hk⟩
end
structure OwnAt(w:World)(b m:Nat)(S O n:Nat)(F:Int->Int->Int):Prop where
 blk:ak w b 127 #[I S,I O,.map (some m)]
 map:cH w m n F
 s1:1<=S
 s2:S<=256
 o1:1<=O
 o2:O<=16
 lK:∀x y,F x y≠0->(0<=x/\x<S/\0<=y/\y<O)/\1<=F x y/\F x y<=16
section
variable{w w':World}{b m S O n:Nat}{F:Int->Int->Int}
theorem OwnAt.below(h:OwnAt w b m S O n F)(hb:Below w w w'):OwnAt w' b m S O n F:=⟨h.blk.below hb,h.map.below hb,h.s1,h.s2,h.o1,h.o2,h.lK⟩
theorem OwnAt.ne(h:OwnAt w b m S O n F):b≠m:=λe=>by
 subst e;obtain⟨D,⟨es,clock,hb,-⟩,-⟩:=h.map;have h1:w.heap[b]? =_:=h.blk;rw [hb] at h1;cases h1
theorem OwnAt.other(h:OwnAt w b m S O n F){k:Nat}(hT:One k w w')(h1:b≠k)(h2:m≠k):OwnAt w' b m S O n F:=⟨h.blk.one hT h1,h.map.heap (hT.block m h.map.lt h2),h.s1,h.s2,h.o1,h.o2,h.lK⟩
theorem OwnAt.mono(h:OwnAt w b m S O n F){n':Nat}(hn:n<=n'):OwnAt w b m S O n' F:=⟨h.blk,h.map.mono hn,h.s1,h.s2,h.o1,h.o2,h.lK⟩
end
def lO(S O:Nat)(x y:Int):Int:=bif decide (0<=x/\x<S/\0<=y/\y<O) then 0 else 9
def h_(g:Int):Bool:=decide (1<=g/\g<=16)
theorem wF{S O:Nat}{x y:Int}(h:¬(0<=x/\x<S/\0<=y/\y<O)):lO S O x y=9:=by unfold lO;rw [XAS h];rfl
theorem Bw{S O:Nat}{x y:Int}(h:0<=x/\x<S/\0<=y/\y<O):lO S O x y=0:=by unfold lO;rw [XAR h];rfl
theorem wB(w:World)(b m S O:Nat)(hb:ak w b 127 #[I S,I O,.map (some m)]):
  Z 177 #[(b,0)] w λe w'=>e=.returned (.bool false)/\w'=w:=by
 have c2:=hb.cell 2;have q45:∀(w:World)(r:Option Nat),(binOp .eql 125 (.map r) (.map none)).run prog w=.ok (.bool r.isNone) w:=λw r=>run_eql_map_nil w _ _ _ r XB2;go_enter func177,ntmps177;go_wp2;go_ret;exact⟨R,R⟩
theorem nK(g:Int)(w:World):Z 161 #[I g] w λe w'=>e=.returned (.bool (h_ g))/\w'=w:=by
 unfold h_;rcases (by omega:(1<=g/\g<=16)\/(¬1<=g)\/(1<=g/\¬g<=16)) with⟨h1,h2⟩|h1|⟨h1,h2⟩<;>
  (go_enter func161,ntmps161;go_wp2;go_ret;exact⟨Lj qj,R⟩)
set_option maxRecDepth 100000 in
theorem nU(w:World)(b m S O n:Nat)(F:Int->Int->Int)(h:OwnAt w b m S O n F)(x y:Int):Z 160 #[(b,0),.agg #[I x,I y]] w λe w'=>
  e=.returned (I (lO S O x y))/\Below w w w':=by
 have hblk:=h.blk;have hlt:=h.blk.lt;have hS:(S:Int)<=256:=by have:=h.s2;omega
 have hO:(O:Int)<=16:=by have:=h.o2;omega
 have c0:=h.blk.cell 0;have c1:=h.blk.cell 1;clear h;rcases (by omega:x<0\/(0<=x/\(S:Int)<=x)\/(0<=x/\x<S/\y<0)\/(0<=x/\x<S/\0<=y/\(O:Int)<=y)\/(0<=x/\x<S/\0<=y/\y<O)) with h1|⟨h1,h2⟩|⟨h1,h2,h3⟩|⟨h1,h2,h3,h4⟩|⟨h1,h2,h3,h4⟩
 all_goals
  first|rw [Bw ⟨qm,qm,qm,qm⟩]|rw [wF qd]
 all_goals
  go_enter func160,ntmps160;go_wp2_with (first|(go_at_call 177;refine Xr (wB _ b m S O (hblk.alloc _)) ?_))
 all_goals (refine ba (w.heap.size+1) (λhxc aA hxh hxn=>?_);(repeat (first|go_big_quiet_step (fail)|quiet_step (fail)));refine XAG ?_;clear hxc aA hxh hxn;intro w1 hb1 hz1 hc1 hf1)
 all_goals go_wp2
 all_goals go_ret
 all_goals exact⟨R,df hb1⟩
end
section
def jV(S O:Nat)(F:Int->Int->Int)(x y g:Int):Int:=bif decide (0<=x/\x<S/\0<=y/\y<O) then(bif h_ g then(bif decide (F x y=0) then 0 else 140) else 110) else 9
def ux(S O:Nat)(F:Int->Int->Int)(x y g:Int):Int->Int->Int:=bif decide (jV S O F x y g=0) then fB F x y g else F
theorem zR{S O:Nat}{F:Int->Int->Int}{x y g:Int}(h:¬(0<=x/\x<S/\0<=y/\y<O)):jV S O F x y g=9:=by unfold jV;rw [XAS h];rfl
theorem Lv{S O:Nat}{F:Int->Int->Int}{x y g:Int}(h:0<=x/\x<S/\0<=y/\y<O)(h2:h_ g=false):jV S O F x y g=110:=by unfold jV;rw [XAR h,h2];rfl
theorem Lx{S O:Nat}{F:Int->Int->Int}{x y g:Int}(h:0<=x/\x<S/\0<=y/\y<O)(h2:h_ g=true)(h3:F x y≠0):jV S O F x y g=140:=by unfold jV;rw [XAR h,h2,XAS h3];rfl
theorem Lw{S O:Nat}{F:Int->Int->Int}{x y g:Int}(h:0<=x/\x<S/\0<=y/\y<O)(h2:h_ g=true)(h3:F x y=0):jV S O F x y g=0:=by unfold jV;rw [XAR h,h2,XAR h3];rfl
theorem zS{S O:Nat}{F:Int->Int->Int}{x y g:Int}(h:jV S O F x y g≠0):ux S O F x y g=F:=by unfold ux;rw [XAS h];rfl
theorem abS{S O:Nat}{F:Int->Int->Int}{x y g:Int}(h:jV S O F x y g=0):ux S O F x y g=fB F x y g:=by unfold ux;rw [XAR h];rfl
theorem DJ{g:Int} :h_ g=true↔1<=g/\g<=16:=by simp [h_]
section
variable{w w':World}{b m S O n:Nat}{F:Int->Int->Int}
theorem OwnAt.put(h:OwnAt w b m S O n F){x y g:Int}(hx:0<=x/\x<S/\0<=y/\y<O)(hg:1<=g/\g<=16){n':Nat}(hm:cH w' m n' (fB F x y g))(hT:One m w w'):OwnAt w' b m S O n' (fB F x y g):=
 ⟨h.blk.one hT h.ne,hm,h.s1,h.s2,h.o1,h.o2,λa c hac=>by
  unfold fB at hac ⊢
  by_cases e:a=x/\c=y
  .rw [XAE e,e.1,e.2];exact⟨hx,hg⟩
  .rw [XAD e] at hac ⊢;exact h.lK a c hac⟩
theorem OwnAt.del(h:OwnAt w b m S O n F){x y:Int}{n':Nat}(hm:cH w' m n' (fB F x y 0))(hT:One m w w'):OwnAt w' b m S O n' (fB F x y 0):=
 ⟨h.blk.one hT h.ne,hm,h.s1,h.s2,h.o1,h.o2,λa c hac=>by
  unfold fB at hac ⊢
  by_cases e:a=x/\c=y
  .rw [XAE e] at hac;exact absurd R hac
  .rw [XAD e] at hac ⊢;exact h.lK a c hac⟩
end
set_option maxRecDepth 100000 in
theorem set_any(w:World)(b m S O n:Nat)(F:Int->Int->Int)(h:OwnAt w b m S O n F)(hn:n<1000000)(x y g:Int)(hx:aY x)(hy:aY y)(hg:aY g):
  Z 112 #[(b,0),I x,I y,I g] w λe w'=>e=.returned (I (jV S O F x y g))/\OwnAt w' b m S O (n+1) (ux S O F x y g)/\One m w w':=by
 have hblk:=h.blk.lt;have CU:=h.map.lt;by_cases hin:0<=x/\x<S/\0<=y/\y<O
 .have e0:Hid (lO S O x y=0):=XAA (Bw hin);have H:=XAA h;clear h;cases hgr:h_ g with
  |false=>
   rw [zS (by rw [Lv hin hgr];decide),Lv hin hgr];go_enter func112,ntmps112;go_wp2_with (first|(go_at_call 160;refine(nU _ b m S O n F ((H.out.below ((XAC _ _).alloc (XAB _) _))) x y).mono ?_;rintro e w1 ⟨rfl,hb1⟩;rw [e0.out])|(go_at_call 161;refine Xr (nK g _) ?_;rw [hgr]));go_ret;exact⟨R,(H.out.below (df hb1)).mono qd,One.of_below _ (df hb1)⟩
  |true=>
   by_cases hF:F x y=0
   .rw [abS (Lw hin hgr hF),Lw hin hgr hF];have rW:Hid (decide (F x y≠0)=false):=XAA (XAS (λh=>h hF));have hg0:=DJ.1 hgr;go_enter func112,ntmps112;go_wp2_with (first|(go_at_call 160;refine(nU _ b m S O n F ((H.out.below ((XAC _ _).alloc (XAB _) _))) x y).mono ?_;rintro e wa ⟨rfl,hba⟩;rw [e0.out];have hza:=(df hba).size;have dW:=XAA (H.out.below (df hba));have c2:wa.cell? (b,2)=some (.map (some m)):=dW.out.blk.cell 2;have gd:=(ak.new w 263 #[I x,I y]).below hba;have cx:wa.cell? (w.heap.size,0)=I x:=gd.cell 0;have cy:wa.cell? (w.heap.size,1)=I y:=gd.cell 1;have lb:b<wa.heap.size:=dW.out.blk.lt;have lx:w.heap.size<wa.heap.size:=gd.lt;have lm:m<wa.heap.size:=dW.out.map.lt)|(go_at_call 161;refine Xr (nK g _) ?_;rw [hgr]));(refine ba (wa.heap.size) (λhxc aA hxh hxn=>?_);have hxl:=λs:Ext wa=>dW.out.map.look hx hy s.w (hxh s m lm);rw [rW.out] at hxl;(repeat (go_big_quiet_step (fail)));refine XAG ?_;clear hxc aA hxh hxn;intro w1 hb1 hz1 hc1 hf1);have hOb:=XAA (dW.out.below hb1);replace c2:=(hc1 b 2 lb).trans c2;replace cx:=(hc1 _ 0 lx).trans cx;replace cy:=(hc1 _ 1 lx).trans cy;replace hba:=(df hba).trans (hb1.mono hza);replace lb:b<w1.heap.size:=hOb.out.blk.lt;replace lx:w.heap.size<w1.heap.size:=by omega
    replace lm:m<w1.heap.size:=hOb.out.map.lt;have hzb:=hba.size;clear hc1 hf1 dW hb1 gd hz1;obtain⟨wb,hwb⟩:∃x:World,x=w1:=⟨_,R⟩;subst hwb;go_wp2;(refine bN 6 (wb.heap.size) ?_;intro hxc aA hxh hxn;simp only [List.take,List.drop];(repeat (go_big_quiet_step (fail)));refine XAG ?_;clear hxc aA hxh hxn;intro w1 hb1 hz1 hc1 hf1);have vI:=hOb.out.below hb1;have hbc:=hba.trans (hb1.mono hzb);clear hc1 hf1;go_wp2_with (first|(at_mapUpdate;refine aaR R _ _ _ R R vI.map qw x y g R R hx hy hg qd ?_;intro w2 hm2 ht2));go_ret;exact⟨R,vI.put hin hg0 hm2 (One.turn ht2),(One.of_below _ hbc).trans (One.turn ht2)⟩
   .rw [zS (by rw [Lx hin hgr hF];decide),Lx hin hgr hF];have rW:Hid (decide (F x y≠0)=true):=XAA (XAR hF);go_enter func112,ntmps112;go_wp2_with (first|(go_at_call 160;refine(nU _ b m S O n F ((H.out.below ((XAC _ _).alloc (XAB _) _))) x y).mono ?_;rintro e wa ⟨rfl,hba⟩;rw [e0.out];have hza:=(df hba).size;have dW:=XAA (H.out.below (df hba));have c2:wa.cell? (b,2)=some (.map (some m)):=dW.out.blk.cell 2;have gd:=(ak.new w 263 #[I x,I y]).below hba;have cx:wa.cell? (w.heap.size,0)=I x:=gd.cell 0;have cy:wa.cell? (w.heap.size,1)=I y:=gd.cell 1;have lb:b<wa.heap.size:=dW.out.blk.lt;have lx:w.heap.size<wa.heap.size:=gd.lt;have lm:m<wa.heap.size:=dW.out.map.lt)|(go_at_call 161;refine Xr (nK g _) ?_;rw [hgr]));(refine ba (wa.heap.size) (λhxc aA hxh hxn=>?_);have hxl:=λs:Ext wa=>dW.out.map.look hx hy s.w (hxh s m lm);rw [rW.out] at hxl;(repeat (go_big_quiet_step (fail)));refine XAG ?_;clear hxc aA hxh hxn;intro w1 hb1 hz1 hc1 hf1);have hOb:=XAA (dW.out.below hb1);replace hba:=(df hba).trans (hb1.mono hza);clear hc1 hf1 dW hb1 gd hz1;go_wp2;go_ret;exact⟨R,hOb.out.mono qd,One.of_below _ hba⟩
 .have e9:Hid (lO S O x y=9):=XAA (wF hin);rw [zS (by rw [zR hin];decide),zR hin];have H:=XAA h;clear h;go_enter func112,ntmps112;go_wp2_with (first|(go_at_call 160;refine(nU _ b m S O n F ((H.out.below ((XAC _ _).alloc (XAB _) _))) x y).mono ?_;rintro e w1 ⟨rfl,hb1⟩;rw [e9.out]));go_ret;exact⟨R,(H.out.below (df hb1)).mono qd,One.of_below _ (df hb1)⟩
def oP(S O:Nat)(F:Int->Int->Int)(x y:Int):Int:=bif decide (0<=x/\x<S/\0<=y/\y<O) then(bif decide (F x y=0) then 140 else 0) else 9
theorem GP{S O:Nat}{F:Int->Int->Int}{x y:Int}(h:¬(0<=x/\x<S/\0<=y/\y<O)):oP S O F x y=9:=by unfold oP;rw [XAS h];rfl
theorem RP{S O:Nat}{F:Int->Int->Int}{x y:Int}(h:0<=x/\x<S/\0<=y/\y<O)(h3:F x y=0):oP S O F x y=140:=by unfold oP;rw [XAR h,XAR h3];rfl
theorem RQ{S O:Nat}{F:Int->Int->Int}{x y:Int}(h:0<=x/\x<S/\0<=y/\y<O)(h3:F x y≠0):oP S O F x y=0:=by unfold oP;rw [XAR h,XAS h3];rfl
theorem DR{F:Int->Int->Int}{x y:Int}(h:F x y=0):fB F x y 0=F:=by
 funext a c;unfold fB;split
 .rename_i e;rw [e.1,e.2,h]
 .rfl
set_option maxRecDepth 100000 in
theorem clear_any(w:World)(b m S O n:Nat)(F:Int->Int->Int)(h:OwnAt w b m S O n F)(x y:Int)(hx:aY x)(hy:aY y):
  Z 115 #[(b,0),I x,I y] w λe w'=>e=.returned (.tuple #[I (F x y),I (oP S O F x y)])/\OwnAt w' b m S O n (fB F x y 0)/\One m w w':=by
 have hblk:=h.blk.lt;have CU:=h.map.lt;by_cases hin:0<=x/\x<S/\0<=y/\y<O
 .have e0:Hid (lO S O x y=0):=XAA (Bw hin);have H:=XAA h;clear h;by_cases hF:F x y=0
  .rw [DR hF,RP hin hF,hF];have rW:Hid (decide (F x y≠0)=false):=XAA (XAS (λh=>h hF));go_enter func115,ntmps115;go_wp2_with (first|(go_at_call 160;refine(nU _ b m S O n F ((H.out.below ((XAC _ _).alloc (XAB _) _))) x y).mono ?_;rintro e wa ⟨rfl,hba⟩;rw [e0.out];have hza:=(df hba).size;have dW:=XAA (H.out.below (df hba));have c2:wa.cell? (b,2)=some (.map (some m)):=dW.out.blk.cell 2;have gd:=(ak.new w 263 #[I x,I y]).below hba;have cx:wa.cell? (w.heap.size,0)=I x:=gd.cell 0;have cy:wa.cell? (w.heap.size,1)=I y:=gd.cell 1;have lb:b<wa.heap.size:=dW.out.blk.lt;have lx:w.heap.size<wa.heap.size:=gd.lt;have lm:m<wa.heap.size:=dW.out.map.lt));(refine ba (wa.heap.size) (λhxc aA hxh hxn=>?_);have hxl:=λs:Ext wa=>dW.out.map.look hx hy s.w (hxh s m lm);rw [rW.out] at hxl;(repeat (go_big_quiet_step (fail)));refine XAG ?_;clear hxc aA hxh hxn;intro w1 hb1 hz1 hc1 hf1);have hOb:=XAA (dW.out.below hb1);replace hba:=(df hba).trans (hb1.mono hza);clear hc1 hf1 dW hb1 gd hz1;go_wp2
   go_ret2
   exact⟨R,hOb.out,One.of_below _ hba⟩
  .rw [RQ hin hF];have rW:Hid (decide (F x y≠0)=true):=XAA (XAR hF);go_enter func115,ntmps115;go_wp2_with (first|(go_at_call 160;refine(nU _ b m S O n F ((H.out.below ((XAC _ _).alloc (XAB _) _))) x y).mono ?_;rintro e wa ⟨rfl,hba⟩;rw [e0.out];have hza:=(df hba).size;have dW:=XAA (H.out.below (df hba));have c2:wa.cell? (b,2)=some (.map (some m)):=dW.out.blk.cell 2;have gd:=(ak.new w 263 #[I x,I y]).below hba;have cx:wa.cell? (w.heap.size,0)=I x:=gd.cell 0;have cy:wa.cell? (w.heap.size,1)=I y:=gd.cell 1;have lb:b<wa.heap.size:=dW.out.blk.lt;have lx:w.heap.size<wa.heap.size:=gd.lt;have lm:m<wa.heap.size:=dW.out.map.lt));(refine ba (wa.heap.size) (λhxc aA hxh hxn=>?_);have hxl:=λs:Ext wa=>dW.out.map.look hx hy s.w (hxh s m lm);rw [rW.out] at hxl;(repeat (go_big_quiet_step (fail)));refine XAG ?_;clear hxc aA hxh hxn;intro w1 hb1 hz1 hc1 hf1);have hOb:=XAA (dW.out.below hb1);replace c2:=(hc1 b 2 lb).trans c2;replace cx:=(hc1 _ 0 lx).trans cx;replace cy:=(hc1 _ 1 lx).trans cy;replace hba:=(df hba).trans (hb1.mono hza);replace lb:b<w1.heap.size:=hOb.out.blk.lt;replace lx:w.heap.size<w1.heap.size:=by omega
   replace lm:m<w1.heap.size:=hOb.out.map.lt;have hzb:=hba.size;clear hc1 hf1 dW hb1 gd hz1;obtain⟨wb,hwb⟩:∃x:World,x=w1:=⟨_,R⟩;subst hwb;go_wp2;(refine bN 5 (wb.heap.size) ?_;intro hxc aA hxh hxn;simp only [List.take,List.drop];(repeat (go_big_quiet_step (fail)));refine XAG ?_;clear hxc aA hxh hxn;intro w1 hb1 hz1 hc1 hf1);have vI:=hOb.out.below hb1;have hbc:=hba.trans (hb1.mono hzb);clear hc1 hf1;go_wp2_with (first|(at_delete;refine aaQ R _ _ R R vI.map x y R hx hy ?_;intro w2 hm2 ht2))
   go_ret2
   exact⟨R,vI.del hm2 (One.turn ht2),(One.of_below _ hbc).trans (One.turn ht2)⟩
 .have e9:Hid (lO S O x y=9):=XAA (wF hin);have hF:F x y=0:=by
   rcases Classical.em (F x y=0) with h1|h1
   .exact h1
   .exact absurd (h.lK x y h1).1 hin
  rw [DR hF,GP hin,hF];have H:=XAA h;clear h;go_enter func115,ntmps115;go_wp2_with (first|(go_at_call 160;refine(nU _ b m S O n F ((H.out.below ((XAC _ _).alloc (XAB _) _))) x y).mono ?_;rintro e w1 ⟨rfl,hb1⟩;rw [e9.out]))
  go_ret2
  exact⟨R,H.out.below (df hb1),One.of_below _ (df hb1)⟩
end
def rT(S O:Nat):List (Int × Int):=(List.range S).flatMap λs=>(List.range O).map λi=>(((s:Nat):Int),((i:Nat):Int))
def fY(S O:Nat)(p:Int->Int->Bool):Nat:=(rT S O).countP λq=>p q.1 q.2
theorem DD{S O:Nat}{x y:Int} :(x,y)∈rT S O↔0<=x/\x<S/\0<=y/\y<O:=by
 simp only [rT,XCi,XAu,XBR,XDo];constructor
 .rintro⟨s,hs,i,hi,rfl,rfl⟩;omega
 .rintro⟨h1,h2,h3,h4⟩;exact⟨x.toNat,qd,y.toNat,qd,qd,qd⟩
theorem Vv(S O:Nat):(rT S O).Nodup:=by
 unfold rT;rw [XEn,List.pairwise_flatMap];refine⟨λs _=>?_,?_⟩
 .rw [List.pairwise_map];exact(XEn.1 XEk).imp λ{a b} h e=>h (by simp at e;omega)
 .exact(XEn.1 XEk).imp λ{a b} h x hx y hy e=>by simp only [XBR,XAu] at hx hy;obtain⟨i,_,rfl⟩:=hx;obtain⟨j,_,rfl⟩:=hy;simp at e;omega
theorem Vu(S O:Nat):(rT S O).length=S*O:=by
 unfold rT;rw [List.length_flatMap];simp [List.map_const']
theorem RW(S O:Nat)(p:Int->Int->Bool):fY S O p<=S*O:=by
 rw [<-Vu];exact List.countP_le_length
theorem GS{S O:Nat}{p q:Int->Int->Bool}(h:∀x y:Int,0<=x->x<S->0<=y->y<O->p x y=q x y):fY S O p=fY S O q:=by
 unfold fY;refine List.countP_congr ?_;rintro⟨x,y⟩ hx;obtain⟨h1,h2,h3,h4⟩:=DD.1 hx;simp only [h x y h1 h2 h3 h4]
theorem RY{S O:Nat}{p:Int->Int->Bool}(h:∀x y:Int,0<=x->x<S->0<=y->y<O->p x y=false):fY S O p=0:=by
 unfold fY;rw [List.countP_eq_zero];rintro⟨x,y⟩ hx;obtain⟨h1,h2,h3,h4⟩:=DD.1 hx;simp [h x y h1 h2 h3 h4]
theorem GV{α:Type}[DecidableEq α]:∀{l:List α},l.Nodup->∀{a:α},a∈l->∀{p q:α->Bool},p a=false->q a=true->(∀b,b≠a->p b=q b)->l.countP q=l.countP p+1
 | [],_,_,ha,_,_,_,_,_=>qdh
 |b::r,hn,a,ha,p,q,h1,h2,h3=>by
  obtain⟨hb,hr⟩:=XCh.1 hn;rcases XBD.1 ha with e|ha
  .subst e;rw [List.countP_cons_of_pos h2,List.countP_cons_of_neg (by simp [h1])]
   congr 1
   refine List.countP_congr λx hx=>?_;rw [h3 x (λe=>hb (e ▸ hx))]
  .have hne:b≠a:=λe=>hb (e ▸ ha);have ih:=GV hr ha h1 h2 h3;rw [List.countP_cons,List.countP_cons,ih,h3 b hne];omega
theorem RX{S O:Nat}{p q:Int->Int->Bool}{X af:Int}(hX:0<=X/\X<S/\0<=af/\af<O)(h1:p X af=false)(h2:q X af=true)(h3:∀x y,¬(x=X/\y=af)->p x y=q x y):fY S O q=fY S O p+1:=by
 unfold fY;refine GV (Vv S O) (DD.2 hX) h1 h2 ?_;rintro⟨x,y⟩ hb;exact h3 x y λe=>hb (by rw [e.1,e.2])
def v5(F:Int->Int->Int)(g:Int)(x y:Int):Bool:=decide (F x y≠0/\F x y=g)
def KL(S O:Nat)(F:Int->Int->Int)(g:Int):Nat:=fY S O (v5 F g)
def iL(F:Int->Int->Int)(left:Int->Int->Bool)(g:Int)(x y:Int):Bool:=v5 F g x y && !left x y
theorem Ry{S O:Nat}(hS:S<=256)(hO:O<=16)(p:Int->Int->Bool):fY S O p<=4096:=
 XAL (RW S O _) (XAL (XDm hS hO) qd)
theorem RA{S O:Nat}{F:Int->Int->Int}{g:Int} :fY S O (iL F (λx y=>decide (F x y≠0)) g)=0:=
 RY λx y _ _ _ _=>by unfold iL v5;by_cases h:F x y=0<;>simp [h]
theorem Rx{S O:Nat}(hS:S<=256)(hO:O<=16){F:Int->Int->Int}{left:Int->Int->Bool}{g:Int}(h:∀x y,aY x->aY y->left x y=false):fY S O (iL F left g)=KL S O F g:=
 GS λx y h1 h2 h3 h4=>by unfold iL;rw [h x y (pX.2 qd) (pX.2 qd)];simp
theorem RB{S O:Nat}{F:Int->Int->Int}{left:Int->Int->Bool}{g X af:Int}(hX:0<=X/\X<S/\0<=af/\af<O)(hl:left X af=true)(hF:F X af≠0)(hg:F X af=g):
  fY S O (iL F (strike left X af) g)=fY S O (iL F left g)+1:=
 RX hX (by unfold iL;rw [hl];simp) (by unfold iL v5 strike;rw [hl,XAR ⟨hF,hg⟩];simp) λx y hne=>by unfold iL strike;rw [XAS hne];simp
theorem Rz{S O:Nat}{F:Int->Int->Int}{left:Int->Int->Bool}{g X af:Int}(hg:F X af≠g):
  fY S O (iL F (strike left X af) g)=fY S O (iL F left g):=
 GS λx y _ _ _ _=>by
  unfold iL strike;by_cases e:x=X/\y=af
  .obtain⟨rfl,rfl⟩:=e;have:v5 F g x y=false:=XAS (λh=>hg h.2);rw [this];simp
  .rw [XAS e];simp
theorem LJ{left:Int->Int->Bool}{X af x y:Int}(h:¬(x=X/\y=af)):strike left X af x y=left x y:=by unfold strike;rw [XAS h];simp
theorem aav{left:Int->Int->Bool}{X af:Int} :strike left X af X af=false:=by unfold strike;simp
section
def moveF(F:Int->Int->Int)(f t:Int):Int->Int->Int:=λx y=>if F x y=f then t else F x y
def lN(F:Int->Int->Int)(left:Int->Int->Bool)(f t:Int):Int->Int->Int:=λx y=>if F x y=f/\left x y=false then t else F x y
def Kk(f t:Int):Int:=bif h_ f && h_ t then 0 else 110
def Kl(S O:Nat)(F:Int->Int->Int)(f t:Int):Int:=bif h_ f && h_ t then(bif decide (f=t) then 0 else(KL S O F f:Int)) else 0
def Km(F:Int->Int->Int)(f t:Int):Int->Int->Int:=bif h_ f && h_ t then moveF F f t else F
theorem Y_(F:Int->Int->Int)(f:Int):moveF F f f=F:=by
 funext x y;unfold moveF;split
 .rename_i h;exact h.symm
 .rfl
theorem dM.congr{w:World}{b r n:Nat}{F G:Int->Int->Int}{left:Int->Int->Bool}{cnt:Nat}(h:dM w b r n F left cnt)(e:∀x y,aY x->aY y->G x y=F x y):dM w b r n G left cnt:=by
 obtain⟨D,lf,h1,h2,h3⟩:=h;exact⟨D,lf,h1,λx y hx hy=>by rw [e x y hx hy];exact h2 x y hx hy,h3⟩
theorem One.grown{w wr w1:World}{m r:Nat}(h:One m w wr)(hg:wr.grownBy w1 (some r))(hr:w.heap.size<=r):One m w w1:=
 ⟨hg.os.trans h.os,hg.tape.trans h.tape,hg.output.trans h.output,XAL h.size hg.size,λk hk h1=>(hg.block k (XAH hk h.size) (λe=>by cases e;omega)).trans (h.block k hk h1)⟩
theorem Y4{F:Int->Int->Int}{left:Int->Int->Bool}{f t X af:Int}(hg:F X af=f)(x y:Int):lN F (strike left X af) f t x y=fB (lN F left f t) X af t x y:=by
 unfold fB lN;by_cases e:x=X/\y=af
 .obtain⟨rfl,rfl⟩:=e;rw [aav,XAE ⟨hg,R⟩,XAE ⟨R,R⟩]
 .rw [LJ e,XAD e]
theorem Y5{F:Int->Int->Int}{left:Int->Int->Bool}{f t X af:Int}(hg:F X af≠f)(x y:Int):lN F (strike left X af) f t x y=lN F left f t x y:=by
 unfold lN;by_cases e:x=X/\y=af
 .obtain⟨rfl,rfl⟩:=e;rw [XAD (λh=>hg h.1),XAD (λh=>hg h.1)]
 .rw [LJ e]
set_option maxRecDepth 100000 in
theorem move_any(w:World)(b m S O n:Nat)(F:Int->Int->Int)(h:OwnAt w b m S O n F)(hn:n<1000000)(f t:Int):
  Z 131 #[(b,0),I f,I t] w λe w'=>e=.returned (.tuple #[I (Kl S O F f t),I (Kk f t)])/\OwnAt w' b m S O n (Km F f t)/\One m w w':=by
 have H:=XAA h;have hB:=h.blk;have c2:w.cell? (b,2)=some (.map (some m)):=h.blk.cell 2;have hm:=h.map;have hlb:=h.blk.lt;clear h;unfold Kl Kk Km;cases hf:h_ f with
 |false=>
  go_enter func131,ntmps131;go_wp2_with (first|(go_at_call 177;refine Xr (wB _ b m S O hB) ?_)|(go_at_call 161;refine Xr (nK f _) ?_;rw [hf]))
  go_ret2
  exact⟨R,H.out,One.refl _ _⟩
 |true=>
  cases ht:h_ t with
  |false=>
   go_enter func131,ntmps131;go_wp2_with (first|(go_at_call 177;refine Xr (wB _ b m S O hB) ?_)|(go_at_call 161;refine Xr (nK f _) ?_;rw [hf])|(go_at_call 161;refine Xr (nK t _) ?_;rw [ht]))
   go_ret2
   exact⟨R,H.out,One.refl _ _⟩
  |true=>
   by_cases hft:f=t
   .subst hft;rw [XAR R,Y_];go_enter func131,ntmps131;go_wp2_with (first|(go_at_call 177;refine Xr (wB _ b m S O hB) ?_)|(go_at_call 161;refine Xr (nK f _) ?_;rw [hf]))
    go_ret2
    exact⟨R,H.out,One.refl _ _⟩
   .have hgf:=DJ.1 hf;have hgt:=DJ.1 ht;have Ww:aY t:=pX.2 qd;have hin2:Hid (∀x y,moveF F f t x y≠0->(0<=x/\x<S/\0<=y/\y<O)/\1<=moveF F f t x y/\moveF F f t x y<=16):=XAA (λx y hxy=>by
     unfold moveF at hxy ⊢
     by_cases e:F x y=f
     .rw [XAE e];exact⟨(H.out.lK x y qd).1,hgt⟩
     .rw [XAD e] at hxy ⊢;exact H.out.lK x y hxy)
    have hfb:(f==t)=false:=by simpa using hft
    rw [XAS hft];go_enter func131,ntmps131;go_wp2_with (first|(go_at_call 177;refine Xr (wB _ b m S O hB) ?_)|(go_at_call 161;refine Xr (nK f _) ?_;rw [hf])|(go_at_call 161;refine Xr (nK t _) ?_;rw [ht])|(at_range;refine aas R _ R R hm ?_;intro w0 yr hrg0 hb0 hs0))
    go_frame
    go_loopw [6,8,9] (λq _ _ wr=>∃left cnt,dM wr m w.heap.size n (lN F left f t) left cnt/\q=I (fY S O (iL F left f):Int)/\One m w wr) (λ_ _ _ wr=>wr.rangeLeft m w.heap.size)
    case atStart=>exact⟨_,_,hrg0.congr (λx y _ _=>by
     unfold lN
     by_cases h0:F x y=0
     .rw [XAD qd]
     .rw [XAD (by simp [h0])]),by rw [RA];rfl,One.of_below _ hb0⟩
    case round=>
     clear hrg0 hb0 hs0 hm c2;obtain⟨left,cnt,hrg,rfl,hT⟩:=hrel;have hle:=Ry H.out.s2 H.out.o2 (iL F left f);obtain⟨c,hc⟩:∃c,Hid (fY S O (iL F left f)=c):=⟨_,XAA R⟩;rw [hc.out] at hle ⊢;go_wp2_with (first|(at_next;refine aaB R _ R R hrg ?_ ?_))
     .intro hl;have hend:=Rx H.out.s2 H.out.o2 (F:=F) (g:=f) hl;have VM:=hrg.owns.congr (G:=moveF F f t) (λx y hx hy=>by
       unfold lN moveF
       rw [hl x y hx hy];simp)
      go_wp2
      go_ret2
      exact⟨by rw [<-hend,hc.out];rfl,⟨hB.one hT H.out.ne,VM,H.out.s1,H.out.s2,H.out.o1,H.out.o2,hin2.out⟩,hT⟩
     .intro X af wn cnt1 hX hY hl hrg1 hlt hg1 hs1 hen;have hv:lN F left f t X af=F X af:=by unfold lN;rw [XAD (by rw [hl];simp)]
      have rV:=hrg.there hX hY hl;rw [hv] at rV hen;rw [hv];have hin:=(H.out.lK X af rV).1;have hT1:=hT.grown hg1 (XAB _);clear hT hs1;by_cases hg:F X af=f
      .have hst:=RB (g:=f) hin hl rV hg;rw [hc.out] at hst;have hBx:=(hB.one hT1 H.out.ne).alloc (.cells #[I X,I af] 263);have c2:(wn.alloc (.cells #[I X,I af] 263)).cell? (b,2)=some (.map (some m)):=hBx.cell 2;have lb:b<wn.heap.size+1:=by have:=hT1.size;omega
       have hTx:=hT1.alloc (.cells #[I X,I af] 263);have hrx:=hrg1.alloc (.cells #[I X,I af] 263);clear hT1 hBx;go_wp2;(refine bN 6 (wn.heap.size+1) ?_;intro hxc aA hxh hxn;simp only [List.take,List.drop];(repeat (go_big_quiet_step (fail)));refine XAG ?_;clear hxc aA hxh hxn;intro w1 hb1 hz1 hc1 hf1);have hr2:=hrx.below hb1;have hT2:=hTx.trans (One.of_below m hb1);clear hc1 hf1;go_wp2_with (first|(at_mapUpdate;refine aaj R _ _ _ R R hr2 qw X af t R R hX hY Ww qd (by rw [hv];exact rV) ?_;intro w2 hr3 ht2));go_roundw
       case rel=>exact⟨_,cnt1,hr3.congr (λx y _ _=>Y4 hg x y),by rw [hst];go_num,hT2.trans (One.turn ht2)⟩
       case measure=>rw [hr3.left_eq,hrg.left_eq];exact hlt
      .have hst:=Rz (S:=S) (O:=O) (left:=left) hg;rw [hc.out] at hst;go_wp2;go_roundw
       case rel=>exact⟨_,cnt1,(hrg1.alloc _).congr (λx y _ _=>Y5 hg x y),by rw [hst],hT1.alloc _⟩
       case measure=>rw [(hrg1.alloc _).left_eq,hrg.left_eq];exact hlt
end
theorem Zj(S O:Nat)(h1:1<=S)(h2:S<=256)(h3:1<=O)(h4:O<=16)(w:World):Z 26 #[I S,I O] w λe w'=>
  ∃b m,e=.returned (.tuple #[(b,0),I 0])/\w.heap.size<=b/\w.heap.size<=m/\OwnAt w' b m S O 0 (λ_ _=>0)/\Below w w w':=by
 have hmm:= @XCb prog;have a1:¬(S:Int)<1:=qd
 have a2:¬(256:Int)<(S:Int):=qd;have a3:¬(O:Int)<1:=qd;have a4:¬(16:Int)<(O:Int):=qd;go_enter func26,ntmps26;go_wp2
 go_ret2
 refine⟨w.heap.size+1,R,qd,w.heap.size,qd,⟨ak.new2 w _ _ _,(cH.new w).alloc _,h1,h2,h3,h4,λx y h=>absurd R h⟩,((XAC _ _).alloc (XAB _) _).alloc ql _⟩
theorem abT(w:World)(b m S O n:Nat)(F:Int->Int->Int)(h:OwnAt w b m S O n F)(hn:n<1000000)(x y g:Int)(hg:aY g):
  Z 112 #[(b,0),I x,I y,I g] w λe w'=>e=.returned (I (jV S O F x y g))/\OwnAt w' b m S O (n+1) (ux S O F x y g)/\One m w w':=by
 have hblk:=h.blk.lt;have CU:=h.map.lt;have h2:=h.s2;have h4:=h.o2;by_cases hin:0<=x/\x<S/\0<=y/\y<O
 .exact set_any w b m S O n F h hn x y g (pX.2 qd) (pX.2 qd) hg
 .have e9:Hid (lO S O x y=9):=XAA (wF hin);rw [zS (by rw [zR hin];decide),zR hin];have H:=XAA h;clear h;go_enter func112,ntmps112;go_wp2_with (first|(go_at_call 160;refine(nU _ b m S O n F ((H.out.below ((XAC _ _).alloc (XAB _) _))) x y).mono ?_;rintro e w1 ⟨rfl,hb1⟩;rw [e9.out]));go_ret;exact⟨R,(H.out.below (df hb1)).mono qd,One.of_below _ (df hb1)⟩
theorem RS(w:World)(b m S O n:Nat)(F:Int->Int->Int)(h:OwnAt w b m S O n F)(x y:Int):
  Z 115 #[(b,0),I x,I y] w λe w'=>e=.returned (.tuple #[I (F x y),I (oP S O F x y)])/\OwnAt w' b m S O n (fB F x y 0)/\One m w w':=by
 have hblk:=h.blk.lt;have CU:=h.map.lt;have h2:=h.s2;have h4:=h.o2;by_cases hin:0<=x/\x<S/\0<=y/\y<O
 .exact clear_any w b m S O n F h x y (pX.2 qd) (pX.2 qd)
 .have e9:Hid (lO S O x y=9):=XAA (wF hin);have hF:F x y=0:=by
   rcases Classical.em (F x y=0) with h1|h1
   .exact h1
   .exact absurd (h.lK x y h1).1 hin
  rw [DR hF,GP hin,hF];have H:=XAA h;clear h;go_enter func115,ntmps115;go_wp2_with (first|(go_at_call 160;refine(nU _ b m S O n F ((H.out.below ((XAC _ _).alloc (XAB _) _))) x y).mono ?_;rintro e w1 ⟨rfl,hb1⟩;rw [e9.out]))
  go_ret2
  exact⟨R,H.out.below (df hb1),One.of_below _ (df hb1)⟩
end Go.Proofs.YtedefgjfgdcfdaaGreatDoor
