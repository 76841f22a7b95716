/- Walks and laws for TopPages. -/
import Derived.Test.YtedefgjfgdcfdaaGreatDoorQ12
namespace Go.Proofs.YtedefgjfgdcfdaaGreatDoor
open Go.RowKit Go.Proofs.Tryz
set_option maxRecDepth 100000
set_option maxHeartbeats 4000000
section
variable{w:World}{mb g:Nat}{c:Ch}{ws:List Nat}{n:Nat}
def zZ(t:Tk)(E:St)(mb g:Nat)(c:Ch)(w:World)(e:Ending)(w':World):Prop:=
 e=.returned (.tuple #[aH (eW t E),I 0])/\MW w' mb g c E.ws E.n/\(eW t E).Ok/\Rws [mb,g] w w'
theorem LD{t:Tk}{E:St}{x:Tk}{w4 w8:World}{r:Nat}(hx:eW t E=x)(hM:MW w4 mb g c E.ws E.n)(ht:x.Ok)(hr:Rws [mb,g] w w4)(ho:Only r w4 w8)(h1:w.heap.size<=r)(h2:mb≠r)(h3:g≠r):
  zZ t E mb g c w (.returned (.tuple #[aH x,I 0])) w8:=by
 unfold zZ;rw [hx];refine⟨R,⟨⟨(ho.block _ h2).trans hM.mem.head,(ho.block _ h3).trans hM.mem.row,hM.mem.ne⟩,hM.len,hM.u,hM.c⟩,ht,?_⟩;exact⟨ho.os.trans hr.os,ho.tape.trans hr.tape,ho.output.trans hr.output,XAL hr.size (XAs ho.size.symm),λk hk h=>(ho.block k qd).trans (hr.block k hk h)⟩
theorem JJ(fn:Fn)(A B:Array Value)(w:World):(binOp .eql 1 (.func fn A B) .nilFunc).run prog w=.ok (.bool false) w:=qh
theorem eJ(w:World)(hM:MW w mb g c ws n)(t:Tk)(ht:t.Ok)(h0:t.az=0)(h1:t.aB=0)(hg:fD w w.heap.size mb g)(k:Nat)(hk:k<50)(hp:t.pc=k)(fn:FuncId)(hv:∀s:Nat,(rL s)[k]? =some (.func (.func fn) #[(s,0)] #[]))(he:∀(args:Array Value)(W:World),(callFunc fn args).run prog W=.ok (.enter fn args) W)(σ':St)
 (hfn:∀(W:World)(s:Nat),FlW W s mb g c ⟨t,false,ws,n⟩->fD W s mb g->Z fn #[(s,0)] W λe W'=>e=.returned (.tuple #[])/\FlW W' s mb g c σ'/\Fr s mb g W W'):
  Z 155 #[(mb,0),dh c,aH t] w (zZ t σ' mb g c w):=by
 have hl:=hM.lt;have hl2:=hM.jN;have hl0:=hg.blk.lt;have hwd:((c.words:Int)==0)=false:=qbd
 have HM:=XAA hM;have HG:=XAA hg;obtain⟨ar,aj,pc,az,aB,ai,aq,H,T,F,K,N,au,ay,to,aw,fr⟩:=t;dsimp only at h0 h1 hp;subst h0 h1;have HT:=XAA ht;have re:=XAA hfn;have HV:=XAA hv;have HK:=XAA hk;have HP:=XAA hp;clear hM ht hfn hv hk hp hg;go_enter func155,ntmps155;go_wp2_with (first|(go_at_call 202;refine Xr (pJ _ (HM.out.below qa)) ?_)|(go_at_call 203;refine(eH HM.out.c _).mono ?_;rintro e w2 ⟨rfl,hb1⟩;have Bt:ak w2 (w.heap.size+1) 210 #[I ar,I aj,I pc,I 0,I 0,I ai,I aq,J H,J T,J F,J K,J N,I au,I ay,I to,I aw,I fr]:=((ak.new2 w _ 210 _).alloc _).below hb1;have Br:ak w2 (w.heap.size+1+1) 210 #[I 0,I 0,I 0,I 0,I 0,I 0,I 0,J 0,J 0,J 0,J 0,J 0,I 0,I 0,I 0,I 0,I 0]:=(ak.g_ w _ _ 210 _).below hb1;have rc:w2.rangeAt w.heap.size 0 [I c.C,I 32,I c.O,I 1,I 2,J c.key]:=ak.range ((((ak.new w 249 _).alloc _).alloc _).below hb1);have rt:w2.rangeAt (w.heap.size+1) 0 [I ar,I aj,I pc,I 0,I 0,I ai,I aq,J H,J T,J F,J K,J N,I au,I ay,I to,I aw,I fr]:=ak.range Bt;have hbw:Below w w w2:=qa;clear hb1)|(refine wpList_load_mid R 210 _ R (w.heap.size+1) 0 R [I ar,I aj,I pc,I 0,I 0,I ai,I aq,J H,J T,J F,J K,J N,I au,I ay,I to,I aw,I fr] _ rt XAQ R qh ?_)|(refine wpList_load_mid R 249 _ R w.heap.size 0 R [I c.C,I 32,I c.O,I 1,I 2,J c.key] _ rc XCC R qh ?_));have hM2:=HM.out.below hbw;have hz:=hbw.size;have lr:=Br.lt;have hs:SW 314 (w2.alloc (.cells #[(mb,0),I c.C,I 32,I c.O,I 1,I 2,J c.key,I ar,I aj,I pc,I 0,I 0,I ai,I aq,J H,J T,J F,J K,J N,I au,I ay,I to,I aw,I fr,.bool false] 314)) w2.heap.size mb g c ⟨⟨ar,aj,pc,0,0,ai,aq,H,T,F,K,N,au,ay,to,aw,fr⟩,false,ws,n⟩:=hM2.step _ HT.out;have hr0:Rws [mb,g] w (w2.alloc (.cells #[(mb,0),I c.C,I 32,I c.O,I 1,I 2,J c.key,I ar,I aj,I pc,I 0,I 0,I ai,I aq,J H,J T,J F,J K,J N,I au,I ay,I to,I aw,I fr,.bool false] 314)):=Rws.of_below _ (hbw.alloc hz _);have hg2:fD (w2.alloc (.cells #[(mb,0),I c.C,I 32,I c.O,I 1,I 2,J c.key,I ar,I aj,I pc,I 0,I 0,I ai,I aq,J H,J T,J F,J K,J N,I au,I ay,I to,I aw,I fr,.bool false] 314)) w2.heap.size mb g:=⟨(HG.out.blk.below hbw).alloc _,qd,HG.out.mb,HG.out.g⟩;replace Bt:=Bt.alloc (.cells #[(mb,0),I c.C,I 32,I c.O,I 1,I 2,J c.key,I ar,I aj,I pc,I 0,I 0,I ai,I aq,J H,J T,J F,J K,J N,I au,I ay,I to,I aw,I fr,.bool false] 314);replace Br:=Br.alloc (.cells #[(mb,0),I c.C,I 32,I c.O,I 1,I 2,J c.key,I ar,I aj,I pc,I 0,I 0,I ai,I aq,J H,J T,J F,J K,J N,I au,I ay,I to,I aw,I fr,.bool false] 314);clear rc rt;refine(Hr _ hs k HK.out _ (HV.out _) HP.out).mono ?_;rintro e w3 ⟨rfl,hb3⟩;replace hs:=hs.below hb3;replace hr0:=Rws.trans hr0 (Rws.of_below _ hb3);replace hg2:fD w3 w2.heap.size mb g:=⟨hg2.blk.below hb3,hg2.s,hg2.mb,hg2.g⟩;replace Bt:=Bt.below hb3;replace Br:=Br.below hb3;have hz3:=hb3.size;rw [XAT] at hz3;clear hb3;have aT:w3.cell? (w.heap.size+1,3)=I 0:=Bt.cell 3;have dN:w3.cell? (w.heap.size+1,4)=I 0:=Bt.cell 4;have hnf:=JJ;go_wp2_with fail;refine(re.out _ _ hs hg2).mono ?_;rintro e w4 ⟨rfl,hh,r4⟩;have iE:=Bt.rws r4 qj;have ld:=Br.rws r4 qj;have hr4:=Fr.drop r4 hr0 hz;have py:=hr4.size;have l4:=hh.lt;clear Bt Br hs hr0 r4 aT dN hg2;obtain⟨bd,hbd⟩:=Xq σ'.bad;have kb:w4.cell? (w2.heap.size,24)=some (.bool bd):=hbd ▸ hh.cell 24;have HB:=XAA hbd;clear hbd;cases bd
 .have rs:w4.rangeAt w2.heap.size 7 [I σ'.t.ar,I σ'.t.aj,I σ'.t.pc,I σ'.t.az,I σ'.t.aB,I σ'.t.ai,I σ'.t.aq,J σ'.t.H,J σ'.t.T,J σ'.t.F,J σ'.t.K,J σ'.t.N,I σ'.t.au,I σ'.t.ay,I σ'.t.to,I σ'.t.aw,I σ'.t.fr]:=SW.uA hh;go_wp2_with (first|(refine wpList_load_mid R 210 _ R w2.heap.size 7 R [I σ'.t.ar,I σ'.t.aj,I σ'.t.pc,I σ'.t.az,I σ'.t.aB,I σ'.t.ai,I σ'.t.aq,J σ'.t.H,J σ'.t.T,J σ'.t.F,J σ'.t.K,J σ'.t.N,I σ'.t.au,I σ'.t.ay,I σ'.t.to,I σ'.t.aw,I σ'.t.fr] _ rs XAQ R qh ?_)|(refine aU R 210 _ _ R _ R R (ld) R qh qk ?_;intro w8 aC kb8;have kc8:=kb8.cell));have hb:=HB.out;have e1:eW ⟨ar,aj,pc,0,0,ai,aq,H,T,F,K,N,au,ay,to,aw,fr⟩ σ'=σ'.t:=XAD (by rw [hb];decide);refine XAI (v:=.tuple #[aH σ'.t,I 0]) (dc R _ _ qu qu (cn 210 kb8 XAQ R qh)) R ?_;exact LD e1 hh.mw hh.ok hr4 aC qd qd qd
 .have dN:w4.cell? (w.heap.size+1,3)=I 0:=iE.cell 3;have Cn:=iE.frozen 3;have rs:(w4.setCell (w.heap.size+1,3) (I 3)).rangeAt (w.heap.size+1) 0 [I ar,I aj,I pc,I 3,I 0,I ai,I aq,J H,J T,J F,J K,J N,I au,I ay,I to,I aw,I fr]:=(iE.aJ 3 (I 3)).range;go_wp2_with (first|(refine wpList_load_mid R 210 _ R (w.heap.size+1) 0 R [I ar,I aj,I pc,I 3,I 0,I ai,I aq,J H,J T,J F,J K,J N,I au,I ay,I to,I aw,I fr] _ rs XAQ R qh ?_)|(refine aU R 210 _ _ R _ R R ((ld.far (p:=⟨w.heap.size+1,3,none⟩) qdr _)) R qh qk ?_;intro w8 aC kb8;have kc8:=kb8.cell));have hb:=HB.out;have e1:eW ⟨ar,aj,pc,0,0,ai,aq,H,T,F,K,N,au,ay,to,aw,fr⟩ σ'=⟨ar,aj,pc,3,0,ai,aq,H,T,F,K,N,au,ay,to,aw,fr⟩:=XAE hb;refine XAI (v:=.tuple #[aH ⟨ar,aj,pc,3,0,ai,aq,H,T,F,K,N,au,ay,to,aw,fr⟩,I 0]) (dc R _ _ qu qu (cn 210 kb8 XAQ R qh)) R ?_;have ht:=HT.out;have hm4:=hh.mw;exact LD e1 (hm4.far qfk qfs _) ⟨ht.H,ht.T,ht.F,ht.K,ht.N⟩ (hr4.far qef _) aC qd qd qd
end
structure cR(t:Tk):Prop where
 ok:t.Ok
 aB:t.aB=0\/t.aB=1\/t.aB=2
 at_:t.aB=2\/(t.aB=0/\¬Nx t.pc)->0<=t.ai/\t.ai<32
 one:t.aB=1->t.pc=43
theorem cR.of{t:Tk}(h:t.Ok)(hg:Gd t false):cR t:=⟨h,by have:=(hg R).1;omega,λh=>(hg R).2 (h.imp id And.right),λh=>by have:=(hg R).1;omega⟩
section
variable{w w':World}{mb g:Nat}{c:Ch}
def vb(t:Tk)(mb g:Nat)(c:Ch)(k:Nat)(w:World)(e:Ending)(w':World):Prop:=
 ∃(t':Tk)(ws:List Nat)(n:Nat),e=.returned (.tuple #[aH t',I 0])/\MW w' mb g c ws n/\n<=k/\Rws [mb,g] w w'/\t'.aj=t.aj/\(t'.az=0->cR t')/\t'.Ok
theorem SX.mw{T0:TypeId}{s:Nat}{t:Tk}{bad:Bool}{k:Nat}(h:SX T0 w s mb g c t bad k):∃ws n,n<=k/\MW w mb g c ws n:=by obtain⟨ws,n,hn,h⟩:=h;exact⟨ws,n,hn,h.mw⟩
theorem SX.uA{T0:TypeId}{s:Nat}{t:Tk}{bad:Bool}{k:Nat}(h:SX T0 w s mb g c t bad k):w.rangeAt s 7 (match aH t with| .agg x=>x.toList|_=> []):=by obtain⟨ws,n,hn,h⟩:=h;exact SW.uA h
theorem Ak{t x:Tk}{w4 w8:World}{r k:Nat}(hM:∃ws n,n<=k/\MW w4 mb g c ws n)(ht:x.az=0->cR x)(hok:x.Ok)(hc:x.aj=t.aj)(hr:Rws [mb,g] w w4)(ho:Only r w4 w8)(h1:w.heap.size<=r)(h2:mb≠r)(h3:g≠r):
  vb t mb g c k w (.returned (.tuple #[aH x,I 0])) w8:=by
 obtain⟨ws,n,hn,hM⟩:=hM;refine⟨x,ws,n,R,⟨⟨(ho.block _ h2).trans hM.mem.head,(ho.block _ h3).trans hM.mem.row,hM.mem.ne⟩,hM.len,hM.u,hM.c⟩,hn,?_,hc,ht,hok⟩;exact⟨ho.os.trans hr.os,ho.tape.trans hr.tape,ho.output.trans hr.output,XAL hr.size (XAs ho.size.symm),λk hk h=>(ho.block k qd).trans (hr.block k hk h)⟩
end
section
variable{w:World}{ar aj pc az aB ai aq au ay to aw fr:Int}{H T F K N:Nat}
def eA(t:Tk)(yes:Bool)(ai:Int):Tk:=bif yes then { t with aB:=0,ai:=ai,ay:=0,pc:=43 } else { t with aB:=0,az:=2 }
theorem TE(sl:Int)(h1:0<=sl)(h2:sl<32):Z 199 #[aH ⟨ar,aj,pc,0,1,ai,aq,H,T,F,K,N,au,ay,to,aw,fr⟩,.bool true,I sl] w λe w'=>e=.returned (.tuple #[aH (eA ⟨ar,aj,pc,0,1,ai,aq,H,T,F,K,N,au,ay,to,aw,fr⟩ true sl),I 0])/\Below w w w':=by
 have h3:¬sl<0:=qd;have h4:¬32<=sl:=qd;go_enter func199,ntmps199;have Br:=ak.new2 w (.cells #[I ar,I aj,I 43,I 0,I 0,I sl,I aq,J H,J T,J F,J K,J N,I au,I 0,I to,I aw,I fr] 210) 210 #[I 0,I 0,I 0,I 0,I 0,I 0,I 0,J 0,J 0,J 0,J 0,J 0,I 0,I 0,I 0,I 0,I 0]
 go_wp2_with (first
  |(refine wpList_load_mid R 210 _ R w.heap.size 0 R [I ar,I aj,I 43,I 0,I 0,I sl,I aq,J H,J T,J F,J K,J N,I au,I 0,I to,I aw,I fr] _ (ak.range ((ak.new _ 210 _).alloc _)) XAQ R qh ?_)|(refine aU R 210 _ _ R _ R R (Br) R qh qk ?_;intro w8 aC kb8;have kc8:=kb8.cell))
 refine XAI (v:=.tuple #[aH (eA ⟨ar,aj,pc,0,1,ai,aq,H,T,F,K,N,au,ay,to,aw,fr⟩ true sl),I 0]) (dc R _ _ qu qu (cn 210 kb8 XAQ R qh)) R ?_;exact⟨R,aI qa aC qd⟩
theorem TD(sl:Int):Z 199 #[aH ⟨ar,aj,pc,0,1,ai,aq,H,T,F,K,N,au,ay,to,aw,fr⟩,.bool false,I sl] w λe w'=>e=.returned (.tuple #[aH (eA ⟨ar,aj,pc,0,1,ai,aq,H,T,F,K,N,au,ay,to,aw,fr⟩ false sl),I 0])/\Below w w w':=by
 go_enter func199,ntmps199;have Br:=ak.new2 w (.cells #[I ar,I aj,I pc,I 2,I 0,I ai,I aq,J H,J T,J F,J K,J N,I au,I ay,I to,I aw,I fr] 210) 210 #[I 0,I 0,I 0,I 0,I 0,I 0,I 0,J 0,J 0,J 0,J 0,J 0,I 0,I 0,I 0,I 0,I 0]
 go_wp2_with (first
  |(refine wpList_load_mid R 210 _ R w.heap.size 0 R [I ar,I aj,I pc,I 2,I 0,I ai,I aq,J H,J T,J F,J K,J N,I au,I ay,I to,I aw,I fr] _ (ak.range ((ak.new _ 210 _).alloc _)) XAQ R qh ?_)|(refine aU R 210 _ _ R _ R R (Br) R qh qk ?_;intro w8 aC kb8;have kc8:=kb8.cell))
 refine XAI (v:=.tuple #[aH (eA ⟨ar,aj,pc,0,1,ai,aq,H,T,F,K,N,au,ay,to,aw,fr⟩ false sl),I 0]) (dc R _ _ qu qu (cn 210 kb8 XAQ R qh)) R ?_;exact⟨R,aI qa aC qd⟩
def MH(t:Tk)(w:World)(e:Ending)(w':World):Prop:=∃(t':Tk)(er:Int),e=.returned (.tuple #[aH t',I er])/\Below w w w'/\(er=0->t'.aB=0/\t'.aj=t.aj/\t'.ai=t.ai/\t'.Ok)
theorem UA(ht:Tk.Ok ⟨ar,aj,pc,0,2,ai,aq,H,T,F,K,N,au,ay,to,aw,fr⟩):Z 201 #[aH ⟨ar,aj,pc,0,2,ai,aq,H,T,F,K,N,au,ay,to,aw,fr⟩] w (MH ⟨ar,aj,pc,0,2,ai,aq,H,T,F,K,N,au,ay,to,aw,fr⟩ w):=by
 have HT:=XAA ht;clear ht;have BS:=ak.g_ w (.cells #[I ar,I aj,I pc,I 0,I 0,I ai,I aq,J H,J T,J F,J K,J N,I au,I ay,I to,I aw,I fr] 210) (.cells #[I 0,I 0,I 0,I 0,I 0,I 0,I 0,J 0,J 0,J 0,J 0,J 0,I 0,I 0,I 0,I 0,I 0] 210) 321 #[.pointer none,I 0,I 0,I 0,I 0,I 0,J 0,I ar,I aj,I pc,I 0,I 0,I ai,I aq,J H,J T,J F,J K,J N,I au,I ay,I to,I aw,I fr,.bool false];have BR:=(ak.new2 w (.cells #[I ar,I aj,I pc,I 0,I 0,I ai,I aq,J H,J T,J F,J K,J N,I au,I ay,I to,I aw,I fr] 210) 210 #[I 0,I 0,I 0,I 0,I 0,I 0,I 0,J 0,J 0,J 0,J 0,J 0,I 0,I 0,I 0,I 0,I 0]).alloc (.cells #[.pointer none,I 0,I 0,I 0,I 0,I 0,J 0,I ar,I aj,I pc,I 0,I 0,I ai,I aq,J H,J T,J F,J K,J N,I au,I ay,I to,I aw,I fr,.bool false] 321);have hsz:(((w.alloc (.cells #[I ar,I aj,I pc,I 0,I 0,I ai,I aq,J H,J T,J F,J K,J N,I au,I ay,I to,I aw,I fr] 210)).alloc (.cells #[I 0,I 0,I 0,I 0,I 0,I 0,I 0,J 0,J 0,J 0,J 0,J 0,I 0,I 0,I 0,I 0,I 0] 210)).alloc (.cells #[.pointer none,I 0,I 0,I 0,I 0,I 0,J 0,I ar,I aj,I pc,I 0,I 0,I ai,I aq,J H,J T,J F,J K,J N,I au,I ay,I to,I aw,I fr,.bool false] 321)).heap.size=w.heap.size+1+1+1:=ql
 have hbw:Below w w (((w.alloc (.cells #[I ar,I aj,I pc,I 0,I 0,I ai,I aq,J H,J T,J F,J K,J N,I au,I ay,I to,I aw,I fr] 210)).alloc (.cells #[I 0,I 0,I 0,I 0,I 0,I 0,I 0,J 0,J 0,J 0,J 0,J 0,I 0,I 0,I 0,I 0,I 0] 210)).alloc (.cells #[.pointer none,I 0,I 0,I 0,I 0,I 0,J 0,I ar,I aj,I pc,I 0,I 0,I ai,I aq,J H,J T,J F,J K,J N,I au,I ay,I to,I aw,I fr,.bool false] 321)):=qa;go_enter func201,ntmps201
 go_wp2_with (first
  |(refine wpList_load_mid R 210 _ R w.heap.size 0 R [I ar,I aj,I pc,I 0,I 0,I ai,I aq,J H,J T,J F,J K,J N,I au,I ay,I to,I aw,I fr] _ (ak.range ((ak.new _ 210 _).alloc _)) XAQ R qh ?_))
 refine(Ip _ _ pc 0 aw H (BS.cell 9) (BS.frozen 9) (BS.cell 10) (BS.frozen 10) (BS.cell 22) (BS.cell 14) (BS.cell 24) (BS.frozen 24)).mono ?_;rintro e w4 ⟨rfl,hw⟩;generalize (((w.alloc (.cells #[I ar,I aj,I pc,I 0,I 0,I ai,I aq,J H,J T,J F,J K,J N,I au,I ay,I to,I aw,I fr] 210)).alloc (.cells #[I 0,I 0,I 0,I 0,I 0,I 0,I 0,J 0,J 0,J 0,J 0,J 0,I 0,I 0,I 0,I 0,I 0] 210)).alloc (.cells #[.pointer none,I 0,I 0,I 0,I 0,I 0,J 0,I ar,I aj,I pc,I 0,I 0,I ai,I aq,J H,J T,J F,J K,J N,I au,I ay,I to,I aw,I fr,.bool false] 321))=W at BS BR hsz hbw hw ⊢;rcases hw with rfl|⟨rfl,h7⟩|rfl
 .have oh:=BR.far (p:=⟨w.heap.size+1+1,10,none⟩) qfb (I 1);have l7:=BS.aJ 10 (I 1);have hb4:Below w w (W.setCell (w.heap.size+1+1,10) (I 1)):=hbw.setCell qcd _;generalize W.setCell (w.heap.size+1+1,10) (I 1)=V at oh l7 hb4 ⊢;have k24:V.cell? (w.heap.size+1+1,24)=some (.bool false):=l7.cell 24;have rs:V.rangeAt (w.heap.size+1+1) 7 [I ar,I aj,I pc,I 1,I 0,I ai,I aq,J H,J T,J F,J K,J N,I au,I ay,I to,I aw,I fr]:=l7.DT 7 _ λj v hj=>by
   match j,hj with
   |0,hj|1,hj|2,hj|3,hj|4,hj|5,hj|6,hj|7,hj|8,hj|9,hj|10,hj|11,hj|12,hj|13,hj|14,hj|15,hj|16,hj=>exact hj
   |j+17,hj=>simp at hj
  clear BS BR hsz hbw;go_wp2_with (first|(refine wpList_load_mid R 210 _ R (w.heap.size+1+1) 7 R [I ar,I aj,I pc,I 1,I 0,I ai,I aq,J H,J T,J F,J K,J N,I au,I ay,I to,I aw,I fr] _ rs XAQ R qh ?_)|(refine aU rfl 210 _ _ rfl _ rfl rfl (oh) rfl qh qk ?_;intro w8 aC kb8;have kc8:=kb8.cell));refine XAI (v:=.tuple #[aH ⟨ar,aj,pc,1,0,ai,aq,H,T,F,K,N,au,ay,to,aw,fr⟩,I 0]) (dc rfl _ _ qu qu (cn 210 kb8 XAQ rfl qh)) rfl ?_;have ht:=HT.out;exact⟨⟨ar,aj,pc,1,0,ai,aq,H,T,F,K,N,au,ay,to,aw,fr⟩,0,rfl,aI hb4 aC qd,λ_=>⟨R,R,R,ht.H,ht.T,ht.F,ht.K,ht.N⟩⟩
 .have oh:=BR.far (p:=⟨w.heap.size+1+1,9,none⟩) qfb (I aw);have l7:=BS.aJ 9 (I aw);have hb4:Below w w (W.setCell (w.heap.size+1+1,9) (I aw)):=hbw.setCell qcd _;generalize W.setCell (w.heap.size+1+1,9) (I aw)=V at oh l7 hb4 ⊢;have k24:V.cell? (w.heap.size+1+1,24)=some (.bool false):=l7.cell 24;have rs:V.rangeAt (w.heap.size+1+1) 7 [I ar,I aj,I aw,I 0,I 0,I ai,I aq,J H,J T,J F,J K,J N,I au,I ay,I to,I aw,I fr]:=l7.DT 7 _ λj v hj=>by
   match j,hj with
   |0,hj|1,hj|2,hj|3,hj|4,hj|5,hj|6,hj|7,hj|8,hj|9,hj|10,hj|11,hj|12,hj|13,hj|14,hj|15,hj|16,hj=>exact hj
   |j+17,hj=>simp at hj
  clear BS BR hsz hbw;go_wp2_with (first|(refine wpList_load_mid R 210 _ R (w.heap.size+1+1) 7 R [I ar,I aj,I aw,I 0,I 0,I ai,I aq,J H,J T,J F,J K,J N,I au,I ay,I to,I aw,I fr] _ rs XAQ R qh ?_)|(refine aU rfl 210 _ _ rfl _ rfl rfl (oh) rfl qh qk ?_;intro w8 aC kb8;have kc8:=kb8.cell));refine XAI (v:=.tuple #[aH ⟨ar,aj,aw,0,0,ai,aq,H,T,F,K,N,au,ay,to,aw,fr⟩,I 0]) (dc rfl _ _ qu qu (cn 210 kb8 XAQ rfl qh)) rfl ?_;have ht:=HT.out;exact⟨⟨ar,aj,aw,0,0,ai,aq,H,T,F,K,N,au,ay,to,aw,fr⟩,0,rfl,aI hb4 aC qd,λ_=>⟨R,R,R,ht.H,ht.T,ht.F,ht.K,ht.N⟩⟩
 .have oh:=BR.far (p:=⟨w.heap.size+1+1,24,none⟩) qfb (.bool true);have l7:=BS.aJ 24 (.bool true);have hb4:Below w w (W.setCell (w.heap.size+1+1,24) (.bool true)):=hbw.setCell qcd _;generalize W.setCell (w.heap.size+1+1,24) (.bool true)=V at oh l7 hb4 ⊢;have k24:V.cell? (w.heap.size+1+1,24)=some (.bool true):=l7.cell 24;clear BS BR hsz hbw;go_wp2_with (first|(refine aU rfl 210 _ _ rfl _ rfl rfl (oh) rfl qh qk ?_;intro w8 aC kb8;have kc8:=kb8.cell));refine XAI (v:=.tuple #[aH aO,I 292]) (dc rfl _ _ qu qu (cn 210 kb8 XAQ rfl qh)) rfl ?_;exact⟨aO,292,rfl,aI hb4 aC qd,λh=>absurd h (show ¬(292:Int)=0 from qf)⟩
end
theorem gX:prog.underlying 3=some (.int .i64):=XAW
theorem oe:prog.underlying 251=some (.map 3 210):=underlying251
theorem acf(W:World):(zeroValue 210).run prog W=.ok (aH aO) W:=qh
def ku(c:Ch)(Q:Int->Option Tk):Prop:=∀x t,dC x->Q x=some t->cR t/\t.az=0/\t.aj=x/\0<=x/\x<c.C
structure aP(w:World)(b mb g tm:Nat)(c:Ch)(ws:List Nat)(n:Nat)(Q:Int->Option Tk)(q:Nat):Prop where
 blk:ak w b 253 #[I c.C,I 32,I c.O,I 1,I 2,J c.key,.pointer (mb,0),.map (some tm)]
 mw:MW w mb g c ws n
 mp:bR aH prog 3 w tm q Q
 nb:b≠mb/\b≠g/\b≠tm
 nt:tm≠mb/\tm≠g
 tk:ku c Q
section
variable{w w':World}{b mb g tm:Nat}{c:Ch}{ws:List Nat}{n:Nat}{Q:Int->Option Tk}{q:Nat}
theorem aP.below(h:aP w b mb g tm c ws n Q q)(hb:Below w w w'):aP w' b mb g tm c ws n Q q:=⟨h.blk.below hb,h.mw.below hb,h.mp.below hb,h.nb,h.nt,h.tk⟩
theorem aP.alloc(h:aP w b mb g tm c ws n Q q)(o:Obj):aP (w.alloc o) b mb g tm c ws n Q q:=h.below ((XAC _ _).alloc (XAB _) _)
theorem aP.drew(h:aP w b mb g tm c ws n Q q):aP w.drew b mb g tm c ws n Q q:=h.below (XAC _ _).drew
theorem aP.bj(h:aP w b mb g tm c ws n Q q):b<w.heap.size/\mb<w.heap.size/\g<w.heap.size/\tm<w.heap.size:=⟨h.blk.lt,h.mw.lt,h.mw.jN,h.mp.lt⟩
theorem aP.only{r:Nat}(h:aP w b mb g tm c ws n Q q)(ho:Only r w w')(hr:r≠b/\r≠mb/\r≠g/\r≠tm):aP w' b mb g tm c ws n Q q:=
 ⟨h.blk.only ho hr.1.symm,h.mw.rws ho.rws (by simpa using hr.2.1.symm) (by simpa using hr.2.2.1.symm),h.mp.heap (ho.block _ hr.2.2.2.symm),h.nb,h.nt,h.tk⟩
theorem aP.keep{gs:List Nat}(h:aP w b mb g tm c ws n Q q)(hr:Rws gs w w')(h1:b∉gs)(h2:mb∉gs)(h3:g∉gs)(h4:tm∉gs):aP w' b mb g tm c ws n Q q:=
 ⟨h.blk.rws hr h1,h.mw.rws hr h2 h3,h.mp.heap (hr.block _ h.mp.lt h4),h.nb,h.nt,h.tk⟩
theorem vn(h:aP w b mb g tm c ws n Q q):Z 145 #[(b,0)] w λe w'=>e=.returned (.bool false)/\w'=w:=by
 have c6:w.cell? (b,6)=some (.pointer (mb,0)):=h.blk.cell 6;clear h;go_enter func145,ntmps145;go_wp2;go_ret;exact⟨R,R⟩
theorem oQ(h:aP w b mb g tm c ws n Q q)(x:Int):Z 146 #[(b,0),I x] w λe w'=>e=.returned (I (if 0<=x/\x<c.C then 0 else 9))/\w'=w:=by
 have c0:w.cell? (b,0)=I c.C:=h.blk.cell 0;have HC:=XAA h;clear h;rcases (by omega:(0<=x/\x<c.C)\/x<0\/(¬x<0/\(c.C:Int)<=x)) with h1|h1|⟨h1,h2⟩
 .rw [XAE h1];have h2:¬x<0:=by omega
  have h3:¬(c.C:Int)<=x:=qd;clear h1;go_enter func146,ntmps146;go_wp2_with (go_at_call 145;refine Xr (vn HC.out) ?_);go_ret;exact⟨R,R⟩
 .rw [XAD qd];go_enter func146,ntmps146;go_wp2_with (go_at_call 145;refine Xr (vn HC.out) ?_);go_ret;exact⟨R,R⟩
 .rw [XAD qd];go_enter func146,ntmps146;go_wp2_with (go_at_call 145;refine Xr (vn HC.out) ?_);go_ret;exact⟨R,R⟩
theorem oR(h:aP w b mb g tm c ws n Q q)(x:Int)(hx:0<=x/\x<c.C):Z 146 #[(b,0),I x] w λe w'=>e=.returned (I 0)/\w'=w:=
 (oQ h x).mono λ_ _ h1=>by rw [XAE hx] at h1;exact h1
theorem sg{c:Ch}(hc:c.Ok){x:Int}(hx:0<=x/\x<c.C):dC x:=gY qd (by have:=hc.c8;omega)
theorem aP.look(h:aP w b mb g tm c ws n Q q){x:Int}(hx:0<=x/\x<c.C)(W:World)(he:W.heap[tm]? =w.heap[tm]?):
  (Instr.lookup 251 (.map (some tm)) (I x) true).run prog W=.ok (.tuple #[aH ((Q x).getD aO),.bool (Q x).isSome]) W:=h.mp.look gX oe acf (sg h.mw.c hx) W he
theorem SB(h:aP w b mb g tm c ws n Q q)(x:Int)(hx:0<=x/\x<c.C):Z 106 #[(b,0),I x] w λe w'=>e=.returned (.tuple #[aH ((Q x).getD aO),.bool (Q x).isSome])/\Below w w w':=by
 obtain⟨l1,l2,l3,l4⟩:=h.bj;have c7:w.cell? (b,7)=some (.map (some tm)):=h.blk.cell 7;have HC:=XAA h;have hlk:=h.look hx (w.alloc (.cells #[I 0,I 0,I 0,I 0,I 0,I 0,I 0,J 0,J 0,J 0,J 0,J 0,I 0,I 0,I 0,I 0,I 0] 210)) (XAX w _ tm l4);generalize (Q x).isSome=bb at hlk ⊢;generalize (Q x).getD aO=t at hlk ⊢;obtain⟨ar,aj,pc,az,aB,ai,aq,H,T,F,K,N,au,ay,to,aw,fr⟩:=t;have Br:=ak.new w 210 #[I 0,I 0,I 0,I 0,I 0,I 0,I 0,J 0,J 0,J 0,J 0,J 0,I 0,I 0,I 0,I 0,I 0];clear h;go_enter func106,ntmps106;go_wp2_with (first|(go_at_call 145;refine Xr (vn (HC.out.alloc _)) ?_)|(refine aU R 210 _ _ R _ R R Br R qh qk ?_;intro w8 aC kb8;have rs:=kb8.range;clear hlk)|(refine wpList_load_mid R 210 _ R w.heap.size 0 R [I ar,I aj,I pc,I az,I aB,I ai,I aq,J H,J T,J F,J K,J N,I au,I ay,I to,I aw,I fr] _ rs XAQ R qh ?_)|(refine aU R 210 _ _ R _ R R kb8 R qh qk ?_;intro w9 jg jj;clear kb8));refine XAI (v:=.tuple #[aH ⟨ar,aj,pc,az,aB,ai,aq,H,T,F,K,N,au,ay,to,aw,fr⟩,.bool bb]) (dc R _ _ qu qu (cn 210 jj XAQ R qh)) R ?_;exact⟨R,aI (aI qa aC (XAB _)) jg (XAB _)⟩
end
end Go.Proofs.YtedefgjfgdcfdaaGreatDoor
