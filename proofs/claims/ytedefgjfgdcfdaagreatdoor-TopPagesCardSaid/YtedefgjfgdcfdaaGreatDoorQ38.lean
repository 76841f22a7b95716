/- TopPages: the given card of the statement TopPages holds; no conditions: it is the given constant itself. The other parts hold the walks and the plain laws that it uses. -/
import Derived.Test.YtedefgjfgdcfdaaGreatDoorQ37
import Derived.Test.YtedefgjfgdcfdaaGreatDoorTopC
import Derived.Test.YtedefgjfgdcfdaaGreatDoorTie
import Derived.Test.YtedefgjfgdcfdaaGreatDoorCards
import Derived.LaidMore
import Derived.OpenShut
import Derived.SevenTiedAt
namespace Go.Proofs.YtedefgjfgdcfdaaGreatDoor
open Go.RowKit Go.Proofs.Tryz
set_option maxRecDepth 100000
set_option maxHeartbeats 4000000
open Go.ChangeShapes Go.WideShapes Go.ChangeAt Go.WideMaps Go.WideElems Go.RowKit
section
variable{H:Type}{enc:TypeId × Value->H}{P:Program}{w:World}
theorem ZD{b0:Nat}{t e:TypeId}{k:IntKind}{v:Value}{d:DataW H}{p:List MemPlace}(ht:P.underlying t=some (.slice e))(he:P.underlying e=some (.int k))(hc:P.cellsOf e=1)
 (hv:Value.okWide P w .any b0 t v)(h:DataW.Trod enc P w 0 (λ_=>true) true t v d p):
  ∃(zs:List Int)(A:Option Addr)(c:Nat),v=.slice A zs.length c/\Row w A (zs.map λ(n:Int)=>Value.int k n)/\(∀n∈zs,(Lit.int k n).wf=true)/\zs.length<=maxLen/\
   (d=.nil/\zs= []\/∃el sp,d=.slice el sp/\zs.length<=el.length+sp.length)/\zs.length<=c/\c<=maxLen:=by
 obtain⟨A,len,cap,rfl⟩:=okWide_slice ht hv;obtain⟨fuel,hf⟩:=h;rcases open_ints ht he hc hf with⟨hcs,hx⟩|⟨a,len',cap',zs,hcs,_,hl,hm,hz,hx,hcell,hwf⟩
 .simp only [Value.cells,List.cons.injEq,Value.slice.injEq,and_true] at hcs;obtain⟨rfl,rfl,rfl⟩:=hcs;simp only [XDo] at hx;exact⟨[],none,0,R,Row.nil _ _,λn hn=>(by cases hn),XAJ _,.inl ⟨hx.1,R⟩,XAB _,XAJ _⟩
 .simp only [if_true] at hz;simp only [Value.cells,List.cons.injEq,Value.slice.injEq,and_true] at hcs;obtain⟨rfl,rfl,rfl⟩:=hcs;simp only [XDo] at hx;obtain⟨rfl,rfl⟩:=hx;have hlen:(zs.take len).length=len:=by rw [XBV];omega
  refine⟨zs.take len,some a,cap,by rw [hlen],λhp=>?_,λn hn=>hwf n (XDr hn),qd,.inr ⟨_,_,R,by simp [lits]⟩,qd,qd⟩;rw [XAY,hlen] at hp;have hs:=aa1 (hcell 0 qd);have ha0:a.add 0=a:=rfl;rw [ha0] at hs;obtain⟨b,off,spot⟩:=a;simp only at hs;subst hs;have h0:=hcell 0 qd;rw [addr_add] at h0;refine⟨b,off,R,XCQ w _ h0,λj u hu=>?_⟩;rw [XAa] at hu;rcases XAc j len with hj|hj
  .have hj':=hcell j qd;rw [addr_add] at hj';rw [hj'];have e1:(zs.take len)[j]? =some (zs.getD j 0):=by
    rw [XDa hj,XBA,XAO qd];rfl
   rw [e1] at hu;simpa using hu
  .rw [XAd (by rw [hlen];exact hj)] at hu;cases hu
end
abbrev wu:List (String × DataW Unit):= [("wainscot/fill.goesOn",Rows.laid_wainscot_fill_goesOn)]
theorem ZJ:ownKnob prog.godebug=none:=qh
theorem YG:laidOutB prog=true:=qh
theorem Iq:prog.globalNamed "wainscot/fill.goesOn" =some 0:=qh
theorem tOn:(prog.globals[0]?).map (·.type)=some 383:=qh
theorem door_met(os:Os)(args:Array Value):laidMetH prog wu ((World.doorLaid prog 400 os).forCall (λ_ _=>0) ⟨#[],args, []⟩).memory:=
 laidMetH_of_parts3 (fuel:=8) (laidMet_of_run' 8 qh qh) qh qh
def vC(i:Nat):Int:=if i=21 then 22 else if i=37 then 38 else if i=30 then 31 else if i=40 then 41 else if i=41 then 42 else if i=46 then 47 else if i=47 then 48 else if i=48 then 49 else if i=49 then 40 else if i=36 then 43 else 0
theorem of_laid{W:World}(h:laidMetH prog wu W):∃t,ak W 0 t il:=by
 rw [MakeChecks.laidMetH_plain _ _ _ qh] at h;obtain⟨ps,⟨g0,t0,cs0,f0,p0,q0,hg0,ht0,hv0,hd0,hr⟩,hnd,hz⟩:=h;obtain rfl:=XAl (Iq.symm.trans hg0);obtain rfl:=XAl (tOn.symm.trans ht0);obtain⟨xs,m,-,hx,hlen,hn,hel⟩:=DataW.trod_array underlying383 hd0;have c1:prog.cellsOf 3=1:=qh
 have Rl:prog.cellsOf 383=50:=qh;rw [Rl] at hlen;have hxm:(Rows.laid_wainscot_fill_goesOn:DataW Unit)=.agg (xs.map (·.1)):=(Prod.mk.inj hx).1;have hxl:xs.map (·.1)=(List.range 50).map λi=>(DataW.lit (.int .i64 (vC i)):DataW Unit):=by have e:(Rows.laid_wainscot_fill_goesOn:DataW Unit)=.agg ((List.range 50).map λi=>(DataW.lit (.int .i64 (vC i)):DataW Unit)):=qh;exact(DataW.agg.inj (hxm.symm.trans e))
 have hc:∀i,i<50->cs0.toList[i]? =some (.int .i64 (vC i)):=λi hi=>by
  have h1:=hel i hi;rw [c1,Nat.mul_one] at h1;obtain⟨x,hxi⟩:∃x,xs[i]? =some x:=⟨_,XAO qd⟩;rw [hxi] at h1;obtain⟨k,e1,e2,-⟩:=DataW.trod_int XAW h1;have h2:(xs.map (·.1))[i]? =some (.lit (.int .i64 k)):=by rw [XAa,hxi,e2];rfl
  rw [hxl,XAa,XBX hi] at h2;have h4:vC i=k:=qkp
  have h3:=XAK (·[0]?) e1;simp only [List.getElem?_take,XDU] at h3;rw [h4];simpa using h3
 have hcs:cs0=il:=by
  apply Array.ext';rw [show il.toList=(List.range 50).map λi=>Value.int .i64 (vC i) from rfl];apply XA5;intro i;by_cases hi:i<50
  .rw [hc i hi,XAa,XBX hi];rfl
  .rw [XAd qd,XAd qj]
 obtain⟨-,hps⟩:=hr;obtain⟨⟨c,t,hb⟩,-⟩:=hz 0 0 (by
  rw [hps]
  refine List.mem_append_left _ (List.mem_append_left _ ?_)
  unfold MemPlace.row
  exact XBR.2 ⟨0,XAu.2 (by rw [hcs];decide),R⟩)
 refine⟨t,?_⟩;unfold World.var? at hv0;rw [Iq] at hv0;simp only [Option.bind_some,hb] at hv0;have e:c=cs0:=XAl hv0;rw [<-hcs,<-e];exact hb
theorem aaf(os:Os)(started:os.Started)(H:Type)(enc:TypeId × Value->H):
  ReturnsInHanded {} Tryz.checked os 3 .any (λw args=>(Rows.topPagesSpec.pre enc prog f3 [] false w args/\laidMetH prog wu w)/\sizedMet enc prog f3 (OpenSpec.ofChange Rows.topPagesSpec) false w args)
   (Rows.topPagesSpec.post enc prog f3 false true false false):=by
 refine returnsInHanded_of_change_and (C:=Tryz.checked) (X:=λw _=>laidMetH prog wu w) (λ_ _ _ hh h=>h.of_heap hh) ZJ started qh func3
  (ChangeSpec.witness_shaped (enc:=enc) (C:=Tryz.checked) (os:=os) (X:=λw _=>laidMetH prog wu w) false (World.doorLaid prog 400 os) #[.slice none 0 0] 8 R (World.shaped_of_RefB qh qh) qh qh qh (door_met os _)) ?_
 intro W base args ds gs before hval0 hW _ hsz hL _;have hval:∀(j:Nat) t v,f3.params[j]? =some t->args[j]? =some v->Value.okWide prog W .any base t v:=hval0;have hW0:=hW;have hlt:=hW.lt;obtain⟨p,q,hA0,hV,hps,hfz,hnd⟩:=hW;have hA:DataW.TrodAll enc prog W 0 (λ_=>true) true f3.params.toList args.toList ds p:=hA0;rw [params3] at hA hval;obtain⟨v0,d0,rfl,rfl,h0⟩:=trodAll_one hA;obtain⟨rfl,rfl⟩:=trodVars_none hV;obtain⟨t,hG⟩:=of_laid hL;obtain⟨xs,A,c,rfl,hX,hwf,-,hd,hcap,hmax⟩:=ZD underlying22 underlying5 qh (hval 0 22 v0 R R) h0;refine(aan W t hG A xs.length c hcap ?_ ?_).mono λe W' ⟨he,hb⟩=>?_
 .have:maxLen<=9223372036854775807:=by decide
  omega
 .intro hp;obtain⟨g,off,e,hl,hc⟩:=hX (by rw [XAY];exact hp);refine⟨g,off,e,hl,λj hj=>?_⟩;have hm:xs[j]? =some xs[j]:=XAO hj;have hw:=(Lit.wf_int_iff _ _).1 (hwf _ (XCu hj));have h2:=hw.2;simp [IntKind.max,IntKind.bits] at h2;have h1:=hw.1;simp [IntKind.min,IntKind.signed] at h1;refine⟨xs[j].toNat,qd,?_⟩;rw [hc j (.int .u8 xs[j]) (by rw [XAa,hm];rfl)];rw [XEV h1]
 .subst he;have hpar:∀t∈f3.params.toList,Tryz.checked.prog.readableRec t=true/\t<Tryz.checked.prog.types.size:=by
   intro t ht;have hall:(f3.params.toList.all λt=>Tryz.checked.prog.readableRec t && decide (t<Tryz.checked.prog.types.size))=true:=qh
   have:=XBu.1 hall t ht;simpa using this
  exact⟨_,R,YJ (tb:=4) YG R R XAy hpar R hW0 hb⟩
theorem aam:Rows.TopPagesSaid:=
 OpenClaim.holds_of_wide 3 f3 R R R R R R R ⟨R,R,R,R,R⟩ R R R R R qh func3 aa9
  (XBY qh) (by unfold Func.isWrapper;first|(rw [XAE qco];kernel_rfl)|(rw [XAD qco];exact⟨R,R⟩))
  (λos started H enc _=>aaf os started H enc)
theorem topPagesCard_holds:Rows.TopPagesCardSaid:=
 Claim7.holds_tied_plain_at .later [] [.data] true (true, "00ea2aa033dff6fa4973206a407c315b80949cefc18ad1408566f310dad98169") true
  aam (λ_ h=>qck) qh (λ_ h=>qck) topPages_row_tie R ⟨R,R⟩ qh rfl
  (λf fn hf hfn=>by
   obtain rfl:f=3:=XAl ((show prog.funcNamed "wainscot/wainscottop.TopPages" =some 3 from qh).symm.trans hf)|>.symm
   obtain rfl:fn=f3:=(XAl (func3.symm.trans hfn)).symm
   exact⟨qh,λj t ht=>by
    rw [params3] at ht
    have hm:t∈ [22]:=by simpa using Array.mem_of_getElem? ht
    have hall:([22].all λu=> !prog.wantsStandIn u)=true:=qh
    exact(show prog.wantsStandIn t=false by simpa using XBu.1 hall t hm)⟩)
  qh
end Go.Proofs.YtedefgjfgdcfdaaGreatDoor
