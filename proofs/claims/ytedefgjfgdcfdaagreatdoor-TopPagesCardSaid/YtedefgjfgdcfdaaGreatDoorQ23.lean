/- Walks and laws for TopPages. -/
import Derived.Test.YtedefgjfgdcfdaaGreatDoorQ21
import Derived.Test.YtedefgjfgdcfdaaGreatDoorQ19
namespace Go.Proofs.YtedefgjfgdcfdaaGreatDoor
open Go.RowKit Go.Proofs.Tryz
set_option maxRecDepth 100000
set_option maxHeartbeats 4000000
open Go.Shelf
section
variable{w:World}{s mb g:Nat}{c:Ch}{k:Nat}{ar aj pc az ai aq au ay to aw fr:Int}{H T F K N n:Nat}{ws:List Nat}
theorem UC(h:SX 321 w s mb g c ⟨ar,aj,102,az,0,ai,aq,H,T,F,K,N,au,ay,to,aw,fr⟩ false k)(hk:k<=999900):Z 267 #[(s,0)] w (gG s mb g c aj fr (k+3) w):=by
 cases h1:(to != -1)
 .exact UD h hk h1
 .exact UE h hk h1
theorem UF(h:SX 321 w s mb g c ⟨ar,aj,92,az,0,ai,aq,H,T,F,K,N,au,ay,to,aw,fr⟩ false k)(hk:k<=999900):Z 265 #[(s,0)] w (gG s mb g c aj fr (k+3) w):=by
 by_cases h1:0<=ai/\ai<32
 .exact UG h hk h1
 .exact UH h hk h1
def dj(pc:Int)(f:FuncId):Prop:=∀{w:World}{s mb g k:Nat}{c:Ch}{ar aj az ai aq au ay to aw fr:Int}{H T F K N:Nat},SX 321 w s mb g c ⟨ar,aj,pc,az,0,ai,aq,H,T,F,K,N,au,ay,to,aw,fr⟩ false k->Z 207 #[(s,0)] w λe w'=>e=.returned (.func (.func f) #[(s,0)] #[])/\w'=w
theorem dz{p:Prop}(x:p:=by
 intro h;have hmf:= @iv;have hlt:=h.lt;have k9:World.cell? _ ⟨_,9,none⟩=I _:=h.cell 9;clear h;go_enter func207,ntmps207;go_wp2;go_ret;exact⟨R,R⟩):p:=x
theorem dj.i{pc:Int}{f:FuncId}(x:dj pc f){W:World}{s mb g k:Nat}{c:Ch}{ar aj az ai aq au ay to aw fr:Int}{H T F K N:Nat}(h:SX 321 W s mb g c ⟨ar,aj,pc,az,0,ai,aq,H,T,F,K,N,au,ay,to,aw,fr⟩ false k):Z 207 #[(s,0)] W λe w'=>e=.returned (.func (.func f) #[(s,0)] #[])/\w'=W:=x h
def tO(pc:Int):Prop:=pc=70\/pc=71\/pc=72\/pc=73\/pc=74\/pc=75\/pc=76\/pc=77\/pc=79\/pc=80\/pc=81\/pc=84\/pc=85\/pc=86\/pc=87\/pc=88\/pc=90\/pc=91\/pc=92\/pc=93\/pc=94\/pc=95\/pc=96\/pc=97\/pc=98\/pc=99\/pc=100\/pc=101\/pc=102\/pc=103
theorem Ux(h:SX 321 w s mb g c ⟨ar,aj,pc,az,0,ai,aq,H,T,F,K,N,au,ay,to,aw,fr⟩ false k)(hp:pc≠70/\pc≠71/\pc≠72/\pc≠73/\pc≠74/\pc≠75/\pc≠76/\pc≠77/\pc≠79/\pc≠80/\pc≠81/\pc≠84/\pc≠85/\pc≠86/\pc≠87/\pc≠88/\pc≠90/\pc≠91/\pc≠92/\pc≠93/\pc≠94/\pc≠95/\pc≠96/\pc≠97/\pc≠98/\pc≠99/\pc≠100/\pc≠101/\pc≠102/\pc≠103):Z 207 #[(s,0)] w λe w'=>e=.returned .nilFunc/\w'=w:=by
 have hlt:=h.lt;have k9:w.cell? (s,9)=I pc:=h.cell 9;clear h;go_enter func207,ntmps207;go_wp2;go_ret;exact⟨R,R⟩
theorem dA(w:World)(hM:MW w mb g c ws n)(hn:n<=999000)(t:Tk)(ht:cR t)(h0:t.az=0)(h1:t.aB=0)(p:Int)(hp:t.pc=p)(fn:FuncId)(he:∀(args:Array Value)(W:World),(callFunc fn args).run prog W=.ok (.enter fn args) W)
 (hd:∀(W:World)(s:Nat),SX 321 W s mb g c t false n->Z 207 #[(s,0)] W λe w'=>e=.returned (.func (.func fn) #[(s,0)] #[])/\w'=W)
 (hfn:∀(W:World)(s:Nat),SX 321 W s mb g c t false n->Z fn #[(s,0)] W (gG s mb g c t.aj t.fr (n+3) W)):Z 157 #[(mb,0),dh c,aH t] w (vb t mb g c (n+3) w):=by
 have hl:=hM.lt;have hl2:=hM.jN;have hwd:((c.words:Int)==0)=false:=qbd
 have HM:=XAA hM;obtain⟨ar,aj,pc,az,aB,ai,aq,H,T,F,K,N,au,ay,to,aw,fr⟩:=t;dsimp only at h0 h1 hp;subst h0 h1;have HT:=XAA ht;have HN:=XAA hn;have re:=XAA hfn;have HD:=XAA hd;clear hM ht hn hfn hd hp;go_enter func157,ntmps157;go_wp2_with (first|(go_at_call 202;refine Xr (pJ _ (HM.out.below qa)) ?_)|(go_at_call 203;(with_reducible refine(eH HM.out.c _).mono ?_);rintro e w2 ⟨rfl,hb1⟩;have Bt:ak w2 (w.heap.size+1) 210 #[I ar,I aj,I pc,I 0,I 0,I ai,I aq,J H,J T,J F,J K,J N,I au,I ay,I to,I aw,I fr]:=((ak.new2 w _ 210 _).alloc _).below hb1;have Br:ak w2 (w.heap.size+1+1) 210 #[I 0,I 0,I 0,I 0,I 0,I 0,I 0,J 0,J 0,J 0,J 0,J 0,I 0,I 0,I 0,I 0,I 0]:=(ak.g_ w _ _ 210 _).below hb1;have rc:w2.rangeAt w.heap.size 0 [I c.C,I 32,I c.O,I 1,I 2,J c.key]:=ak.range ((((ak.new w 249 _).alloc _).alloc _).below hb1);have rt:w2.rangeAt (w.heap.size+1) 0 [I ar,I aj,I pc,I 0,I 0,I ai,I aq,J H,J T,J F,J K,J N,I au,I ay,I to,I aw,I fr]:=ak.range Bt;have aT:w2.cell? (w.heap.size+1,3)=I 0:=Bt.cell 3;have dN:w2.cell? (w.heap.size+1,4)=I 0:=Bt.cell 4;have bt:w2.cell? (w.heap.size+1,2)=I pc:=Bt.cell 2;have hbw:Below w w w2:=qa;clear hb1)|(refine wpList_load_mid R 210 _ R (w.heap.size+1) 0 R [I ar,I aj,I pc,I 0,I 0,I ai,I aq,J H,J T,J F,J K,J N,I au,I ay,I to,I aw,I fr] _ rt XAQ R qh ?_)|(refine wpList_load_mid R 249 _ R w.heap.size 0 R [I c.C,I 32,I c.O,I 1,I 2,J c.key] _ rc XCC R qh ?_));have hM2:=HM.out.below hbw;have hz:=hbw.size;have lr:=Br.lt;have hs:SX 321 (w2.alloc (.cells #[(mb,0),I c.C,I 32,I c.O,I 1,I 2,J c.key,I ar,I aj,I pc,I 0,I 0,I ai,I aq,J H,J T,J F,J K,J N,I au,I ay,I to,I aw,I fr,.bool false] 321)) w2.heap.size mb g c ⟨ar,aj,pc,0,0,ai,aq,H,T,F,K,N,au,ay,to,aw,fr⟩ false n:=SX.of (hM2.step _ HT.out.ok) (XAB _);have hr0:Rws [mb,g] w (w2.alloc (.cells #[(mb,0),I c.C,I 32,I c.O,I 1,I 2,J c.key,I ar,I aj,I pc,I 0,I 0,I ai,I aq,J H,J T,J F,J K,J N,I au,I ay,I to,I aw,I fr,.bool false] 321)):=Rws.of_below _ (hbw.alloc hz _);replace Bt:=Bt.alloc (.cells #[(mb,0),I c.C,I 32,I c.O,I 1,I 2,J c.key,I ar,I aj,I pc,I 0,I 0,I ai,I aq,J H,J T,J F,J K,J N,I au,I ay,I to,I aw,I fr,.bool false] 321);replace Br:=Br.alloc (.cells #[(mb,0),I c.C,I 32,I c.O,I 1,I 2,J c.key,I ar,I aj,I pc,I 0,I 0,I ai,I aq,J H,J T,J F,J K,J N,I au,I ay,I to,I aw,I fr,.bool false] 321);clear rc rt;refine Xr (HD.out _ _ hs) ?_;clear bt aT dN;have aT:(w2.alloc (.cells #[(mb,0),I c.C,I 32,I c.O,I 1,I 2,J c.key,I ar,I aj,I pc,I 0,I 0,I ai,I aq,J H,J T,J F,J K,J N,I au,I ay,I to,I aw,I fr,.bool false] 321)).cell? (w.heap.size+1,3)=I 0:=Bt.cell 3;have dN:(w2.alloc (.cells #[(mb,0),I c.C,I 32,I c.O,I 1,I 2,J c.key,I ar,I aj,I pc,I 0,I 0,I ai,I aq,J H,J T,J F,J K,J N,I au,I ay,I to,I aw,I fr,.bool false] 321)).cell? (w.heap.size+1,4)=I 0:=Bt.cell 4;have hnf:=JJ;go_wp2_with fail;refine(re.out _ _ hs).mono ?_;rintro e w4 ⟨rfl,x,bd,hh,r4,gQ,hfr,hg⟩;clear aT dN;have iE:=Bt.rws r4 qj;have ld:=Br.rws r4 qj;have hr4:=Fr.drop r4 hr0 hz;have py:=hr4.size;have l4:=hh.lt;clear Bt Br hs hr0 r4;have kb:w4.cell? (w2.heap.size,24)=some (.bool bd):=hh.cell 24;have HX:=XAA gQ;have HG:=XAA hg;clear gQ hfr hg;cases bd
 .have rs:w4.rangeAt w2.heap.size 7 [I x.ar,I x.aj,I x.pc,I x.az,I x.aB,I x.ai,I x.aq,J x.H,J x.T,J x.F,J x.K,J x.N,I x.au,I x.ay,I x.to,I x.aw,I x.fr]:=SX.uA hh;go_wp2_with (first|(refine wpList_load_mid R 210 _ R w2.heap.size 7 R [I x.ar,I x.aj,I x.pc,I x.az,I x.aB,I x.ai,I x.aq,J x.H,J x.T,J x.F,J x.K,J x.N,I x.au,I x.ay,I x.to,I x.aw,I x.fr] _ rs XAQ R qh ?_)|(refine aU rfl 210 _ _ rfl _ rfl rfl (ld) rfl qh qk ?_;intro w8 aC kb8;have kc8:=kb8.cell));refine XAI (v:=.tuple #[aH x,I 0]) (dc rfl _ _ qu qu (cn 210 kb8 XAQ rfl qh)) rfl ?_;exact Ak hh.mw (λ_=>cR.of hh.ok HG.out) hh.ok HX.out hr4 aC qd qd qd
 .have dN:w4.cell? (w.heap.size+1,3)=I 0:=iE.cell 3;have Cn:=iE.frozen 3;have rs:(w4.setCell (w.heap.size+1,3) (I 3)).rangeAt (w.heap.size+1) 0 [I ar,I aj,I pc,I 3,I 0,I ai,I aq,J H,J T,J F,J K,J N,I au,I ay,I to,I aw,I fr]:=(iE.aJ 3 (I 3)).range;go_wp2_with (first|(refine wpList_load_mid R 210 _ R (w.heap.size+1) 0 R [I ar,I aj,I pc,I 3,I 0,I ai,I aq,J H,J T,J F,J K,J N,I au,I ay,I to,I aw,I fr] _ rs XAQ R qh ?_)|(refine aU rfl 210 _ _ rfl _ rfl rfl ((ld.far (p:=⟨w.heap.size+1,3,none⟩) qdr _)) rfl qh qk ?_;intro w8 aC kb8;have kc8:=kb8.cell));refine XAI (v:=.tuple #[aH ⟨ar,aj,pc,3,0,ai,aq,H,T,F,K,N,au,ay,to,aw,fr⟩,I 0]) (dc rfl _ _ qu qu (cn 210 kb8 XAQ rfl qh)) rfl ?_;have ht:=HT.out.ok;obtain⟨Ei,n4,hn4,hm4⟩:=hh.mw;exact Ak ⟨Ei,n4,hn4,hm4.far qfk qfs _⟩ (λh=>absurd h (show ¬(3:Int)=0 from qf)) ⟨ht.H,ht.T,ht.F,ht.K,ht.N⟩ R (hr4.far qef _) aC qd qd qd
theorem UN(w:World)(hM:MW w mb g c ws n)(hn:n<=999000)(t:Tk)(ht:cR t)(h0:t.az=0)(h1:t.aB=0)(hp:¬tO t.pc):Z 157 #[(mb,0),dh c,aH t] w λe w'=>e=.returned (.tuple #[aH aO,I 292])/\Below w w w':=by
 have hl:=hM.lt;have hl2:=hM.jN;have hwd:((c.words:Int)==0)=false:=qbd
 have HM:=XAA hM;obtain⟨ar,aj,pc,az,aB,ai,aq,H,T,F,K,N,au,ay,to,aw,fr⟩:=t;dsimp only at h0 h1 hp;subst h0 h1;have HT:=XAA ht;have HN:=XAA hn;have HP:=XAA hp;clear hM ht hn hp;go_enter func157,ntmps157;go_wp2_with (first|(go_at_call 202;refine Xr (pJ _ (HM.out.below qa)) ?_)|(go_at_call 203;(with_reducible refine(eH HM.out.c _).mono ?_);rintro e w2 ⟨rfl,hb1⟩;have Bt:ak w2 (w.heap.size+1) 210 #[I ar,I aj,I pc,I 0,I 0,I ai,I aq,J H,J T,J F,J K,J N,I au,I ay,I to,I aw,I fr]:=((ak.new2 w _ 210 _).alloc _).below hb1;have Br:ak w2 (w.heap.size+1+1) 210 #[I 0,I 0,I 0,I 0,I 0,I 0,I 0,J 0,J 0,J 0,J 0,J 0,I 0,I 0,I 0,I 0,I 0]:=(ak.g_ w _ _ 210 _).below hb1;have rc:w2.rangeAt w.heap.size 0 [I c.C,I 32,I c.O,I 1,I 2,J c.key]:=ak.range ((((ak.new w 249 _).alloc _).alloc _).below hb1);have rt:w2.rangeAt (w.heap.size+1) 0 [I ar,I aj,I pc,I 0,I 0,I ai,I aq,J H,J T,J F,J K,J N,I au,I ay,I to,I aw,I fr]:=ak.range Bt;have aT:w2.cell? (w.heap.size+1,3)=I 0:=Bt.cell 3;have dN:w2.cell? (w.heap.size+1,4)=I 0:=Bt.cell 4;have bt:w2.cell? (w.heap.size+1,2)=I pc:=Bt.cell 2;have hbw:Below w w w2:=qa;clear hb1)|(refine wpList_load_mid R 210 _ R (w.heap.size+1) 0 R [I ar,I aj,I pc,I 0,I 0,I ai,I aq,J H,J T,J F,J K,J N,I au,I ay,I to,I aw,I fr] _ rt XAQ R qh ?_)|(refine wpList_load_mid R 249 _ R w.heap.size 0 R [I c.C,I 32,I c.O,I 1,I 2,J c.key] _ rc XCC R qh ?_));have hM2:=HM.out.below hbw;have hz:=hbw.size;have lr:=Br.lt;have hs:SX 321 (w2.alloc (.cells #[(mb,0),I c.C,I 32,I c.O,I 1,I 2,J c.key,I ar,I aj,I pc,I 0,I 0,I ai,I aq,J H,J T,J F,J K,J N,I au,I ay,I to,I aw,I fr,.bool false] 321)) w2.heap.size mb g c ⟨ar,aj,pc,0,0,ai,aq,H,T,F,K,N,au,ay,to,aw,fr⟩ false n:=SX.of (hM2.step _ HT.out.ok) (XAB _);have hr0:Rws [mb,g] w (w2.alloc (.cells #[(mb,0),I c.C,I 32,I c.O,I 1,I 2,J c.key,I ar,I aj,I pc,I 0,I 0,I ai,I aq,J H,J T,J F,J K,J N,I au,I ay,I to,I aw,I fr,.bool false] 321)):=Rws.of_below _ (hbw.alloc hz _);replace Bt:=Bt.alloc (.cells #[(mb,0),I c.C,I 32,I c.O,I 1,I 2,J c.key,I ar,I aj,I pc,I 0,I 0,I ai,I aq,J H,J T,J F,J K,J N,I au,I ay,I to,I aw,I fr,.bool false] 321);replace Br:=Br.alloc (.cells #[(mb,0),I c.C,I 32,I c.O,I 1,I 2,J c.key,I ar,I aj,I pc,I 0,I 0,I ai,I aq,J H,J T,J F,J K,J N,I au,I ay,I to,I aw,I fr,.bool false] 321);clear rc rt;refine Xr (Ux hs (by have:=HP.out;unfold tO at this;omega)) ?_;have hbw3:Below w w (w2.alloc (.cells #[(mb,0),I c.C,I 32,I c.O,I 1,I 2,J c.key,I ar,I aj,I pc,I 0,I 0,I ai,I aq,J H,J T,J F,J K,J N,I au,I ay,I to,I aw,I fr,.bool false] 321)):=hbw.alloc hz _;have hnf:=JI;go_wp2_with (first|(refine aU R 210 _ _ R _ R R (Br) R qh qk ?_;intro w8 aC kb8;have kc8:=kb8.cell));refine XAI (v:=.tuple #[aH aO,I 292]) (dc R _ _ qu qu (cn 210 kb8 XAQ R qh)) R ?_;exact⟨R,aI hbw3 aC qd⟩
theorem UO(w:World)(hM:MW w mb g c ws n)(hn:n<=999000)(t:Tk)(ht:cR t)(h0:t.az=0)(h1:t.aB=0)(hp:tO t.pc):Z 157 #[(mb,0),dh c,aH t] w (vb t mb g c (n+3) w):=by
 have hat:=ht.at_;have h2:=ht;obtain⟨ar,aj,pc,az,aB,ai,aq,H,T,F,K,N,au,ay,to,aw,fr⟩:=t;dsimp only at h0 h1 hp hat;subst h0 h1;rcases hp with rfl|rfl|rfl|rfl|rfl|rfl|rfl|rfl|rfl|rfl|rfl|rfl|rfl|rfl|rfl|rfl|rfl|rfl|rfl|rfl|rfl|rfl|rfl|rfl|rfl|rfl|rfl|rfl|rfl|rfl
 .exact dA w hM hn _ h2 R R _ R 258 (enters_of XDh qh R) (λ_ _ h=>dj.i dz h) (λ_ _ h=>UT.i h qd)
 .exact dA w hM hn _ h2 R R _ R 258 (enters_of XDh qh R) (λ_ _ h=>dj.i dz h) (λ_ _ h=>UU.i h qd)
 .exact dA w hM hn _ h2 R R _ R 258 (enters_of XDh qh R) (λ_ _ h=>dj.i dz h) (λ_ _ h=>UW.i h qd)
 .exact dA w hM hn _ h2 R R _ R 259 (enters_of XDi qh R) (λ_ _ h=>dj.i dz h) (λ_ _ h=>UX.i h qd)
 .exact dA w hM hn _ h2 R R _ R 259 (enters_of XDi qh R) (λ_ _ h=>dj.i dz h) (λ_ _ h=>UY.i h qd)
 .exact dA w hM hn _ h2 R R _ R 259 (enters_of XDi qh R) (λ_ _ h=>dj.i dz h) (λ_ _ h=>UZ.i h qd)
 .exact dA w hM hn _ h2 R R _ R 260 (enters_of XDj qh R) (λ_ _ h=>dj.i dz h) (λ_ _ h=>U0.i h qd)
 .exact dA w hM hn _ h2 R R _ R 260 (enters_of XDj qh R) (λ_ _ h=>dj.i dz h) (λ_ _ h=>Uw h qd (hat (.inr ⟨R,qf⟩)))
 .exact dA w hM hn _ h2 R R _ R 261 (enters_of func261 qh R) (λ_ _ h=>dj.i dz h) (λ_ _ h=>U1.i h qd)
 .exact dA w hM hn _ h2 R R _ R 262 (enters_of func262 qh R) (λ_ _ h=>dj.i dz h) (λ_ _ h=>U2.i h qd)
 .exact dA w hM hn _ h2 R R _ R 262 (enters_of func262 qh R) (λ_ _ h=>dj.i dz h) (λ_ _ h=>U3.i h qd)
 .exact dA w hM hn _ h2 R R _ R 263 (enters_of XCE qh R) (λ_ _ h=>dj.i dz h) (λ_ _ h=>UI h qd)
 .exact dA w hM hn _ h2 R R _ R 263 (enters_of XCE qh R) (λ_ _ h=>dj.i dz h) (λ_ _ h=>UJ h qd)
 .exact dA w hM hn _ h2 R R _ R 263 (enters_of XCE qh R) (λ_ _ h=>dj.i dz h) (λ_ _ h=>UK h qd)
 .exact dA w hM hn _ h2 R R _ R 264 (enters_of func264 qh R) (λ_ _ h=>dj.i dz h) (λ_ _ h=>UQ h qd)
 .exact dA w hM hn _ h2 R R _ R 265 (enters_of XBp qh R) (λ_ _ h=>dj.i dz h) (λ_ _ h=>U4.i h qd)
 .exact dA w hM hn _ h2 R R _ R 265 (enters_of XBp qh R) (λ_ _ h=>dj.i dz h) (λ_ _ h=>U5.i h qd)
 .exact dA w hM hn _ h2 R R _ R 265 (enters_of XBp qh R) (λ_ _ h=>dj.i dz h) (λ_ _ h=>U7.i h qd)
 .exact dA w hM hn _ h2 R R _ R 265 (enters_of XBp qh R) (λ_ _ h=>dj.i dz h) (λ_ _ h=>UF h qd)
 .exact dA w hM hn _ h2 R R _ R 265 (enters_of XBp qh R) (λ_ _ h=>dj.i dz h) (λ_ _ h=>U8.i h qd)
 .exact dA w hM hn _ h2 R R _ R 265 (enters_of XBp qh R) (λ_ _ h=>dj.i dz h) (λ_ _ h=>U9.i h qd)
 .exact dA w hM hn _ h2 R R _ R 266 (enters_of XCF qh R) (λ_ _ h=>dj.i dz h) (λ_ _ h=>U_.i h qd)
 .exact dA w hM hn _ h2 R R _ R 266 (enters_of XCF qh R) (λ_ _ h=>dj.i dz h) (λ_ _ h=>Vd.i h qd)
 .exact dA w hM hn _ h2 R R _ R 266 (enters_of XCF qh R) (λ_ _ h=>dj.i dz h) (λ_ _ h=>UP h qd)
 .exact dA w hM hn _ h2 R R _ R 266 (enters_of XCF qh R) (λ_ _ h=>dj.i dz h) (λ_ _ h=>aeg h qd)
 .exact dA w hM hn _ h2 R R _ R 266 (enters_of XCF qh R) (λ_ _ h=>dj.i dz h) (λ_ _ h=>Vf.i h qd)
 .exact dA w hM hn _ h2 R R _ R 267 (enters_of XBx qh R) (λ_ _ h=>dj.i dz h) (λ_ _ h=>UB h qd)
 .exact dA w hM hn _ h2 R R _ R 267 (enters_of XBx qh R) (λ_ _ h=>dj.i dz h) (λ_ _ h=>aeh h qd)
 .exact dA w hM hn _ h2 R R _ R 267 (enters_of XBx qh R) (λ_ _ h=>dj.i dz h) (λ_ _ h=>UC h qd)
 .exact dA w hM hn _ h2 R R _ R 267 (enters_of XBx qh R) (λ_ _ h=>dj.i dz h) (λ_ _ h=>US.i h qd)
end
end Go.Proofs.YtedefgjfgdcfdaaGreatDoor
