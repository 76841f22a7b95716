/- Walks and laws for TopPages. -/
import Derived.Test.YtedefgjfgdcfdaaGreatDoorQ03
import Derived.Defers
namespace Go.Proofs.YtedefgjfgdcfdaaGreatDoor
open Go.RowKit Go.Proofs.Tryz
set_option maxRecDepth 100000
set_option maxHeartbeats 4000000
def Ez(cs:Array Value)(U M:Nat->Int):Prop:=
 cs.size=33/\cs[0]? =some (.bool true)/\∀k,k<16->cs[1+k]? =I (U k)/\cs[17+k]? =I (M k)
def OI(cs:Array Value)(U M:Nat->Int):Prop:=
 cs.size=34/\∀k,k<16->cs[k+1]? =I (U k)/\cs[17+(k+1)]? =I (M k)
def aV(w:World)(b:Nat)(U M:Nat->Int):Prop:=∃cs,ak w b 135 cs/\Ez cs U M
def dE(w:World)(b:Nat)(U M:Nat->Int):Prop:=∃cs,ak w b 48 cs/\OI cs U M
def upd(U:Nat->Int)(k:Nat)(x:Int):Nat->Int:=λj=>if j=k then x else U j
structure One(b:Nat)(w w':World):Prop where
 os:w'.os=w.os
 tape:w'.tape=w.tape
 output:w'.output=w.output
 size:w.heap.size<=w'.heap.size
 block:∀k,k<w.heap.size->k≠b->w'.heap[k]? =w.heap[k]?
section
variable{w w' a:World}{b:Nat}{U M:Nat->Int}
theorem One.refl(b:Nat)(w:World):One b w w:=⟨R,R,R,XAB _,λ_ _ _=>rfl⟩
theorem One.alloc(h:One b a w)(o:Obj):One b a (w.alloc o):=⟨h.os,h.tape,h.output,XAL h.size ql,λk hk h1=>(XAX w o k (XAH hk h.size)).trans (h.block k hk h1)⟩
theorem One.drew(h:One b a w):One b a w.drew:=⟨h.os,h.tape,h.output,h.size,h.block⟩
theorem One.drewN(h:One b a w)(n:Nat):One b a (w.drewN n):=⟨h.os,h.tape,h.output,h.size,h.block⟩
theorem One.set(h:One b a w)(i:Nat)(u:Value):One b a (w.setCell (b,i) u):=
 ⟨h.os,h.tape,h.output,qbj,λk hk h1=>(XAN w _ u k h1).trans (h.block k hk h1)⟩
theorem One.oa(h:One b a w){p:Addr}(hp:a.heap.size<=p.block)(u:Value):One b a (w.setCell p u):=
 ⟨h.os,h.tape,h.output,qbj,λk hk h1=>(XAN w _ u k qd).trans (h.block k hk h1)⟩
theorem One.trans(h:One b a w)(h':One b w w'):One b a w':=
 ⟨h'.os.trans h.os,h'.tape.trans h.tape,h'.output.trans h.output,XAL h.size h'.size,λk hk h1=>(h'.block k (XAH hk h.size) h1).trans (h.block k hk h1)⟩
theorem One.of_below(b:Nat)(h:Below w w w'):One b w w':=⟨h.os,h.tape,h.output,h.size,λk hk _=>h.block k hk⟩
theorem One.below{B:Nat}(h:One b w w')(hb:Below B a w)(h1:B<=b)(h3:B<=w.heap.size):Below B a w':=
 hb.trans ⟨h.os,h.tape,h.output,h.size,λk hk=>h.block k qd qd⟩
theorem ak.one{k:Nat}{t:TypeId}{cs:Array Value}(h:ak w k t cs)(hT:One b w w')(h1:k≠b):ak w' k t cs:=(hT.block k h.lt h1).trans h
theorem Row.one{A:Option Addr}{xs:List Value}(h:Row w A xs)(hT:One b w w')(h1:0<xs.length->∀g off,A=some ⟨g,off,none⟩->g≠b):Row w' A xs:=λhp=>by
 obtain⟨g,off,e,hb,hc⟩:=h hp;exact⟨g,off,e,XAH hb hT.size,λj u hu=>(XAP (w:=w) (hT.block g hb (h1 hp g off e))).trans (hc j u hu)⟩
theorem aV.lt(h:aV w b U M):b<w.heap.size:=by obtain⟨cs,hB,-⟩:=h;exact hB.lt
theorem aV.made(h:aV w b U M):w.cell? (b,0)=some (.bool true):=by obtain⟨cs,hB,hC⟩:=h;rw [hB.cell];exact hC.2.1
theorem aV.used(h:aV w b U M){k:Nat}(hk:k<16):w.cell? (b,1+k)=I (U k):=by obtain⟨cs,hB,hC⟩:=h;rw [hB.cell];exact(hC.2.2 k hk).1
theorem aV.most(h:aV w b U M){k:Nat}(hk:k<16):w.cell? (b,17+k)=I (M k):=by obtain⟨cs,hB,hC⟩:=h;rw [hB.cell];exact(hC.2.2 k hk).2
theorem aV.frozen(h:aV w b U M)(i:Nat):w.frozen? (b,i)=false:=qiu
theorem aV.alloc(h:aV w b U M)(o:Obj):aV (w.alloc o) b U M:=qgp
theorem aV.drew(h:aV w b U M):aV w.drew b U M:=h
theorem aV.drewN(h:aV w b U M)(n:Nat):aV (w.drewN n) b U M:=h
theorem aV.below(h:aV w b U M)(hb:Below w w w'):aV w' b U M:=qgk
theorem aV.one{g:Nat}(h:aV w b U M)(hT:One g w w')(h1:b≠g):aV w' b U M:=qgd
theorem aV.far(h:aV w b U M){p:Addr}(hp:b≠p.block)(u:Value):aV (w.setCell p u) b U M:=by obtain⟨cs,hB,hC⟩:=h;exact⟨cs,hB.far hp u,hC⟩
theorem aV.zU(h:aV w b U M){k:Nat}(hk:k<16)(x:Int):aV (w.setCell (b,1+k) (I x)) b (upd U k x) M:=by
 obtain⟨cs,hB,hs,h0,hC⟩:=h;refine⟨_,hB.aJ (1+k) _,by simp [hs],?_,λj hj=>⟨?_,?_⟩⟩
 .rw [XBF qd];exact h0
 .by_cases hjk:j=k
  .subst hjk;rw [XCR qd];simp [upd]
  .rw [XBF qd,(hC j hj).1];simp [upd,hjk]
 .rw [XBF qd];exact(hC j hj).2
theorem aV.D0(h:aV w b U M){k:Nat}(hk:k<16)(x:Int):aV (w.setCell (b,17+k) (I x)) b U (upd M k x):=by
 obtain⟨cs,hB,hs,h0,hC⟩:=h;refine⟨_,hB.aJ (17+k) _,by simp [hs],?_,λj hj=>⟨?_,?_⟩⟩
 .rw [XBF qd];exact h0
 .rw [XBF qd];exact(hC j hj).1
 .by_cases hjk:j=k
  .subst hjk;rw [XCR qd];simp [upd]
  .rw [XBF qd,(hC j hj).2];simp [upd,hjk]
theorem dE.lt(h:dE w b U M):b<w.heap.size:=by obtain⟨cs,hB,-⟩:=h;exact hB.lt
theorem dE.used(h:dE w b U M){k:Nat}(hk:k<16):w.cell? (b,k+1)=I (U k):=by obtain⟨cs,hB,hC⟩:=h;rw [hB.cell];exact(hC.2 k hk).1
theorem dE.most(h:dE w b U M){k:Nat}(hk:k<16):w.cell? (b,17+(k+1))=I (M k):=by obtain⟨cs,hB,hC⟩:=h;rw [hB.cell];exact(hC.2 k hk).2
theorem dE.frozen(h:dE w b U M)(i:Nat):w.frozen? (b,i)=false:=qiu
theorem dE.alloc(h:dE w b U M)(o:Obj):dE (w.alloc o) b U M:=qgp
theorem dE.drew(h:dE w b U M):dE w.drew b U M:=h
theorem dE.drewN(h:dE w b U M)(n:Nat):dE (w.drewN n) b U M:=h
theorem dE.below(h:dE w b U M)(hb:Below w w w'):dE w' b U M:=qgk
theorem dE.one{g:Nat}(h:dE w b U M)(hT:One g w w')(h1:b≠g):dE w' b U M:=qgd
theorem dE.zU(h:dE w b U M){k:Nat}(hk:k<16)(x:Int):dE (w.setCell (b,k+1) (I x)) b (upd U k x) M:=by
 obtain⟨cs,hB,hs,hC⟩:=h;refine⟨_,hB.aJ (k+1) _,by simp [hs],λj hj=>⟨?_,?_⟩⟩
 .by_cases hjk:j=k
  .subst hjk;rw [XCR qd];simp [upd]
  .rw [XBF qd,(hC j hj).1];simp [upd,hjk]
 .rw [XBF qd];exact(hC j hj).2
theorem dE.D0(h:dE w b U M){k:Nat}(hk:k<16)(x:Int):dE (w.setCell (b,17+(k+1)) (I x)) b U (upd M k x):=by
 obtain⟨cs,hB,hs,hC⟩:=h;refine⟨_,hB.aJ (17+(k+1)) _,by simp [hs],λj hj=>⟨?_,?_⟩⟩
 .rw [XBF qd];exact(hC j hj).1
 .by_cases hjk:j=k
  .subst hjk;rw [XCR qd];simp [upd]
  .rw [XBF qd,(hC j hj).2];simp [upd,hjk]
end
def tU(x:Int):Bool:=decide (1<=x/\x<=16)
def eR(xs:List Int):Bool:=xs.all tU
def lF(xs:List Int)(n:Int):Bool:=decide (xs.Nodup) && decide (1<=xs.length/\xs.length<=8/\0<=n/\n<=9007199254740991)
def de(xs:List Int)(n:Int):Int:=bif eR xs then bif lF xs n then 0 else 2 else 110
theorem Cz{x:Int} :tU x=true↔1<=x/\x<=16:=by simp [tU]
theorem Gh{xs:List Int}{n:Int}(h:eR xs=false):de xs n=110:=by unfold de;rw [h];rfl
theorem Gg{xs:List Int}{n:Int}(h:eR xs=true)(h2:lF xs n=false):de xs n=2:=by unfold de;rw [h,h2];rfl
theorem Gi{xs:List Int}{n:Int}(h:eR xs=true)(h2:lF xs n=true):de xs n=0:=by unfold de;rw [h,h2];rfl
theorem ya{xs:List Int}{n:Int} :de xs n=0↔eR xs=true/\lF xs n=true:=by
 cases h:eR xs
 .rw [Gh h];simp
 .cases h2:lF xs n
  .rw [Gg h h2];simp
  .rw [Gi h h2];simp
theorem xZ{xs:List Int}(h:eR xs=true){k:Nat}(hk:k<xs.length):1<=xs[k]/\xs[k]<=16:=by
 unfold eR at h;exact Cz.1 (XBu.1 h _ (XCu hk))
theorem Pp{xs:List Int}{k:Nat}(h:xs.length<=k):eR (xs.drop k)=true:=qet
theorem Pq{xs:List Int}{k:Nat}(h:k<xs.length):eR (xs.drop k)=(tU xs[k] && eR (xs.drop (k+1))):=by
 rw [XBt h];rfl
theorem tN{xs:List Int}{n:Int} :lF xs n=true↔xs.Nodup/\1<=xs.length/\xs.length<=8/\0<=n/\n<=9007199254740991:=by simp [lF]
def jU(xs:List Int)(j k:Nat):Bool:=(xs.take j).contains ((k:Int)+1)
theorem aaG(xs:List Int)(k:Nat):jU xs 0 k=false:=by simp [jU]
theorem aaF{xs:List Int}{j k:Nat}(h:j<xs.length):jU xs (j+1) k=(jU xs j k||decide (xs[j]=(k:Int)+1)):=by
 unfold jU;rw [XDR h,XBM];simp only [XDS,XAe,XA2,Bool.or_eq_true,XB7];constructor
 .rintro(h|h)
  .exact .inl h
  .exact .inr h.symm
 .rintro(h|h)
  .exact .inl h
  .exact .inr h.symm
theorem Ku{xs:List Int}{j k:Nat}(h:j<xs.length)(hk:xs[j]=(k:Int)+1):decide ((xs.take (j+1)).Nodup)=(decide ((xs.take j).Nodup) && !jU xs j k):=by
 rw [XDR h,XBM];unfold jU;simp only [XB7,List.nodup_append,XAt,XEK,hk];constructor
 .rintro⟨h1,-,h3⟩;refine⟨h1,?_⟩;rw [<-XEL,XDS];intro hm;exact h3 _ hm _ (XA2.2 R) rfl
 .rintro⟨h1,h2⟩;refine⟨h1,ql,?_⟩;rw [<-XEL,XDS] at h2;intro a ha b hb e;rw [XA2] at hb;subst hb e;exact h2 ha
theorem Kv(w:World)(b:Nat)(U M:Nat->Int)(hC:aV w b U M):Z 190 #[(b,0)] w λe w'=>e=.returned (.bool false)/\w'=w:=by
 have c0:=hC.made;go_enter func190,ntmps190;go_wp2;go_ret;exact⟨R,R⟩
def rB(xs:List Int)(j:Nat)(cs:Array Value):Prop:=cs.size=16/\∀k,k<16->cs[k]? =some (.bool (jU xs j k))
theorem rB.zero(xs:List Int):rB xs 0 #[.bool false,.bool false,.bool false,.bool false,.bool false,.bool false,.bool false,.bool false,.bool false,.bool false,.bool false,.bool false,.bool false,.bool false,.bool false,.bool false]:=by
 refine⟨R,λk hk=>?_⟩;rw [aaG];obtain rfl|rfl|rfl|rfl|rfl|rfl|rfl|rfl|rfl|rfl|rfl|rfl|rfl|rfl|rfl|rfl:k=0\/k=1\/k=2\/k=3\/k=4\/k=5\/k=6\/k=7\/k=8\/k=9\/k=10\/k=11\/k=12\/k=13\/k=14\/k=15:=qd
 all_goals rfl
theorem rB.next{xs:List Int}{j k:Nat}{cs:Array Value}(h:rB xs j cs)(hj:j<xs.length)(hk:xs[j]=(k:Int)+1)(mH:k<16):rB xs (j+1) (cs.setIfInBounds k (.bool true)):=by
 refine⟨by simp [h.1],λi hi=>?_⟩;rw [aaF hj];by_cases hik:i=k
 .subst hik;rw [XCR (by rw [h.1];omega),hk];simp
 .rw [XBF (λe=>hik e.symm),h.2 i hi,XAS qd,Bool.or_false]
theorem PR(w:World)(b:Nat)(U M:Nat->Int)(hC:aV w b U M)(xs:List Int)(m:Nat)(hm:Hid (xs.length=m))(hp:0<m)(hmx:m<=9223372036854775807)(n:Int)(g off c:Nat)(hg:g<w.heap.size)(hA:∀j u,(fw xs)[j]? =some u->w.cell? (g,off+j)=some u):
  Z 142 #[(b,0),.slice (g,off) m c,I n] w λe w'=>e=.returned (I (de xs n))/\Below w w w':=by
 have HA:=XAA hA;have HC:=XAA hC;obtain⟨ah,hR⟩:=Xq (eR xs);have HR:Hid (eR (xs.drop 0)=ah):=XAA hR;have HF:Hid (ah=false->de xs n=110):=XAA (λh=>Gh (hR.trans h));have HG:Hid (ah=true->eR xs=true):=XAA (λh=>hR.trans h);clear hA hC hR;go_enter func142,ntmps142;go_wp2_with (first|(go_at_call 190;refine Xr (Kv _ b U M HC.out) ?_));go_loopw [8,17] (λ_ j wr=>∃k:Nat,k<=m/\j=I k/\Hid (eR (xs.drop k)=ah)/\Below w w wr) (λ_ j _=>m-(intOf j).toNat)
 case atStart=>exact⟨0,qd,R,HR,XAC _ _⟩
 case round=>
  obtain⟨k,hk,rfl,HK,hw⟩:=hrel;by_cases hlt:k<m
  .have hkl:k<xs.length:=by rw [hm.out];exact hlt
   obtain⟨x,hx⟩:=Xq (xs[k]);have HX:=XAA hx;have cK:=(hw.cell (p:=⟨g,off+k,none⟩) hg).trans (HA.out k _ (yU hkl));rw [hx] at cK;have HS:=XAA (Pq hkl);rw [hx] at HS;have k0:(0:Int)<=(k:Int):=qd
   have k1:(k:Int)<(m:Int):=qd;clear hx HX hkl;cases hgx:tU x
   .have HN:Hid (ah=false):=XAA (by rw [<-HK.out,HS.out,hgx];rfl);have hno:Hid (¬(1<=x/\x<=16)):=XAA (by rw [<-Cz,hgx];simp);clear hgx;by_cases h1:1<=x;all_goals
     first|have h2:¬x<=16:=λh=>hno.out ⟨h1,h⟩|skip
     go_wp2;go_ret;exact⟨by rw [HF.out HN.out];(first|done|rfl),qa⟩
   .have HN:Hid (eR (xs.drop (k+1))=ah):=XAA (by rw [<-HK.out,HS.out,hgx];rfl);obtain⟨h1,h2⟩:=Cz.1 hgx;clear hgx;go_wp2;go_roundw
    case rel=>exact⟨k+1,qd,qbf,HN,qa⟩
    case measure=>simp [intOf];omega
  .have HN:Hid (eR xs=true):=XAA (HG.out (by rw [<-HK.out,Pp qju]));have hz:=hw.size;obtain⟨wo,rfl⟩:∃wo:World,wo=wr:=⟨_,R⟩;go_wp2;go_loopw [10,12,30] (λt _ q w2=>∃(T:Bool)(j:Nat)(cs:Array Value),j<=m/\q=I j/\t=.bool T/\Hid (decide ((xs.take j).Nodup)= !T)/\ak w2 wo.heap.size 294 cs/\Hid (rB xs j cs)/\Below w w w2) (λ_ _ q _=>m-(intOf q).toNat)
   case atStart=>exact⟨false,0,_,qd,R,R,XAA ql,ak.new wo 294 _,XAA (rB.zero xs),qa⟩
   case round=>
    clear hw;obtain⟨T,j,cs,hj,rfl,rfl,HT,hB,HS,hw⟩:=hrel;by_cases hlt2:j<m
    .have hjl:j<xs.length:=by rw [hm.out];exact hlt2
     obtain⟨h1,h2⟩:=xZ HN.out hjl;obtain⟨x,hx⟩:=Xq (xs[j]);have cK:=(hw.cell (p:=⟨g,off+j,none⟩) hg).trans (HA.out j _ (yU hjl));rw [hx] at cK h1 h2;obtain⟨k,hk1⟩:∃k:Nat,x-1=(k:Int):=⟨(x-1).toNat,qd⟩;have mH:k<16:=qd
     have hxk:xs[j]=(k:Int)+1:=by rw [hx];omega
     have HX:=XAA (Ku hjl hxk);have jy:=XAA (HS.out.next hjl hxk mH);obtain⟨s,hs⟩:=Xq (jU xs j k);have cS:wr.cell? (wo.heap.size,k)=some (.bool s):=by rw [hB.cell,HS.out.2 k mH,hs]
     have fS:=hB.frozen k;have HB2:=XAA (hB.aJ k (.bool true));have NX:=XAA hs;have j0:(0:Int)<=(j:Int):=qd
     have j1:(j:Int)<(m:Int):=qd;have k2:(0:Int)<=(k:Int):=qd;have k3:(k:Int)<16:=qd;clear hx hxk hs hjl hB;have HT2:Hid (decide ((xs.take (j+1)).Nodup)= !(T||s)):=XAA (by rw [HX.out,HT.out,NX.out];cases T<;>cases s<;>rfl);cases T;all_goals
      go_wp2;go_roundw
      case rel=>exact⟨_,j+1,_,qd,qbf,qu,by first|exact HT2|simpa using HT2,HB2.out,jy,hw.setCell hz _⟩
      case measure=>simp [intOf];omega
    .have HT3:Hid (decide (xs.Nodup)= !T):=XAA (by
      have h:=HT.out
      rwa [XCA qju] at h)
     have hz0:((m:Int)==0)=false:=qec;have lp:Hid (T=false->m<=8->0<=n->n<=9007199254740991->de xs n=0):=XAA (λhT h8 h0 hM=>Gi HN.out (tN.2 ⟨by have h:=HT3.out;rw [hT] at h;simpa using h,qju,by rw [hm.out];exact h8,h0,hM⟩));have xm:Hid ((T=true\/8<m\/n<0\/9007199254740991<n)->de xs n=2):=XAA (λh=>Gg HN.out (by
      rw [<-XEL,tN,hm.out]
      rintro⟨h1,-,h3,h4,h5⟩
      rcases h with h|h|h|h
      .have h':=HT3.out
       rw [h,XAR h1] at h'
       cases h'
      .omega
      .omega
      .omega))
     clear hB HS;cases T
     .by_cases h8:m<=8
      .by_cases h0:0<=n
       .by_cases hM:n<=9007199254740991
        .have HV:=XAA (lp.out R h8 h0 hM);go_wp2;go_ret;exact⟨qej,qa⟩
        .have HV:=XAA (xm.out (.inr (.inr (.inr qd))));go_wp2;go_ret;exact⟨qej,qa⟩
       .have HV:=XAA (xm.out (.inr (.inr (.inl qd))));go_wp2;go_ret;exact⟨qej,qa⟩
      .have HV:=XAA (xm.out (.inr (.inl qd)));go_wp2;go_ret;exact⟨qej,qa⟩
     .have HV:=XAA (xm.out (.inl R));go_wp2;go_ret;exact⟨qej,qa⟩
theorem PQ(w:World)(b:Nat)(U M:Nat->Int)(hC:aV w b U M)(n:Int)(A:Option Addr)(c:Nat):
  Z 142 #[(b,0),.slice A 0 c,I n] w λe w'=>e=.returned (I 2)/\Below w w w':=by
 have HC:=XAA hC;clear hC;go_enter func142,ntmps142;go_wp2_with (first|(go_at_call 190;refine Xr (Kv _ b U M HC.out) ?_));refine XCB 1 ?_;rw [XA3];go_wp2;refine XCB 1 ?_;rw [XA3];go_wp2;go_ret;exact⟨R,qa⟩
theorem mo(w:World)(b:Nat)(U M:Nat->Int)(hC:aV w b U M)(xs:List Int)(m:Nat)(hm:Hid (xs.length=m))(hmx:m<=9223372036854775807)(n:Int)(A:Option Addr)(c:Nat)(hA:Row w A (fw xs))(e:Int)(he:de xs n=e):
  Z 142 #[(b,0),.slice A m c,I n] w λr w'=>r=.returned (I e)/\Below w w w':=by
 subst he;rcases XAr m with h0|hp
 .have hx:xs= []:=XBN (hm.out.trans h0);subst hx h0;exact PQ w b U M hC n A c
 .obtain⟨g,off,rfl,hg,hc⟩:=hA (by rw [JF,hm.out];exact hp);exact PR w b U M hC xs m hm hp hmx n g off c hg hc
theorem Row.iR{w:World}{g:Nat}{t:TypeId}{u:Value}(h:ak w g t #[u]):Row w (some ⟨g,0,none⟩) [u]:=λ_=>
 ⟨g,0,R,h.lt,λj x hx=>by rw [XAV,h.cell,<-XBO];exact hx⟩
theorem yb{x n:Int}(h:de [x] n=0):1<=x/\x<=16/\0<=n/\n<=9007199254740991:=by
 obtain⟨h1,h2⟩:=ya.1 h;have h3:=xZ h1 (k:=0) ql;obtain⟨-,-,-,h4,h5⟩:=tN.1 h2;exact⟨h3.1,h3.2,h4,h5⟩
def Fine(U M:Nat->Int):Prop:=∀k,k<16->0<=U k/\U k<=9007199254740991/\0<=M k/\M k<=9007199254740991
theorem YR(w:World)(b:Nat)(U M:Nat->Int)(hC:aV w b U M)(x n e:Int)(he:Hid (de [x] n=e))(h0:e≠0):
  Z 126 #[(b,0),I x,I n] w λr w'=>r=.returned (I e)/\Below w w w':=by
 have HA:=XAA (Row.iR (ak.new w 3 #[I x]));have HC:=XAA (hC.alloc (.cells #[I x] 3));have h1:Hid (List.length [x]=1):=XAA rfl;have hne:(e !=0)=true:=XBP.2 h0;clear hC h0;go_enter func126,ntmps126;go_wp2_with (first|(go_at_call 142;refine(mo _ b U M HC.out [x] 1 h1 qd n _ 1 HA.out e he.out).mono ?_;rintro e w1 ⟨rfl,hb1⟩;have bK:=HC.out.below hb1;have z1:=hb1.size;rw [XAT] at z1));go_ret;exact⟨R,qa⟩
theorem acj(w:World)(b:Nat)(U M:Nat->Int)(hC:aV w b U M)(x n e:Int)(he:Hid (de [x] n=e))(h0:e≠0):
  Z 101 #[(b,0),I x,I n] w λr w'=>r=.returned (I e)/\Below w w w':=by
 have HA:=XAA (Row.iR (ak.new w 3 #[I x]));have HC:=XAA (hC.alloc (.cells #[I x] 3));have h1:Hid (List.length [x]=1):=XAA rfl;have hne:(e !=0)=true:=XBP.2 h0;clear hC h0;go_enter func101,ntmps101;go_wp2_with (first|(go_at_call 142;refine(mo _ b U M HC.out [x] 1 h1 qd n _ 1 HA.out e he.out).mono ?_;rintro e w1 ⟨rfl,hb1⟩;have bK:=HC.out.below hb1;have z1:=hb1.size;rw [XAT] at z1));go_ret;exact⟨R,qa⟩
theorem SH(w:World)(b:Nat)(U M:Nat->Int)(hC:aV w b U M)(x n e:Int)(he:Hid (de [x] n=e))(h0:e≠0):
  Z 104 #[(b,0),I x,I n] w λr w'=>r=.returned (I e)/\Below w w w':=by
 have HA:=XAA (Row.iR (ak.new w 3 #[I x]));have HC:=XAA (hC.alloc (.cells #[I x] 3));have h1:Hid (List.length [x]=1):=XAA rfl;have hne:(e !=0)=true:=XBP.2 h0;clear hC h0;go_enter func104,ntmps104;go_wp2_with (first|(go_at_call 142;refine(mo _ b U M HC.out [x] 1 h1 qd n _ 1 HA.out e he.out).mono ?_;rintro e w1 ⟨rfl,hb1⟩;have bK:=HC.out.below hb1;have z1:=hb1.size;rw [XAT] at z1));go_ret;exact⟨R,qa⟩
theorem YS(w:World)(b:Nat)(U M:Nat->Int)(hC:aV w b U M)(x n:Int)(k:Nat)(hk:k<16)(hx:x-1=(k:Int))(he:Hid (de [x] n=0)):
  Z 126 #[(b,0),I x,I n] w λr w'=>r=.returned (I 0)/\aV w' b U (upd M k n)/\One b w w':=by
 have HA:=XAA (Row.iR (ak.new w 3 #[I x]));have HC:=XAA (hC.alloc (.cells #[I x] 3));have h1:Hid (List.length [x]=1):=XAA rfl;have bl:=hC.lt;obtain⟨u,hu⟩:∃u,Hid (U k=u):=⟨_,XAA R⟩;obtain⟨m,hm⟩:∃m,Hid (M k=m):=⟨_,XAA R⟩;have k0:(0:Int)<=(k:Int):=qd
 have k1:(k:Int)<16:=qd;clear hC;go_enter func126,ntmps126;go_wp2_with (first|(go_at_call 142;refine(mo _ b U M HC.out [x] 1 h1 qd n _ 1 HA.out 0 he.out).mono ?_;rintro e w1 ⟨rfl,hb1⟩;have bK:=HC.out.below hb1;have z1:=hb1.size;rw [XAT] at z1;have c1:=bK.used hk;have c2:=bK.most hk;have f1:=bK.frozen (1+k);have f2:=bK.frozen (17+k);rw [hu.out] at c1;rw [hm.out] at c2));go_ret;exact⟨R,bK.D0 hk n,(One.of_below b (df hb1)).set _ _⟩
theorem acH(w:World)(b:Nat)(U M:Nat->Int)(hC:aV w b U M)(hF:Fine U M)(x n:Int)(k:Nat)(hk:k<16)(hx:x-1=(k:Int))(he:Hid (de [x] n=0))(hq:n<=M k-U k):
  Z 101 #[(b,0),I x,I n] w λr w'=>r=.returned (I 0)/\aV w' b (upd U k (U k+n)) M/\One b w w':=by
 have HA:=XAA (Row.iR (ak.new w 3 #[I x]));have HC:=XAA (hC.alloc (.cells #[I x] 3));have h1:Hid (List.length [x]=1):=XAA rfl;have bl:=hC.lt;obtain⟨q1,q2,q3,q4⟩:=yb he.out;obtain⟨u0,u1,m0,m1⟩:=hF k hk;obtain⟨u,hu⟩:∃u,Hid (U k=u):=⟨_,XAA R⟩;obtain⟨m,hm⟩:∃m,Hid (M k=m):=⟨_,XAA R⟩;rw [hu.out] at u0 u1 hq;rw [hm.out] at m0 m1 hq;have k0:(0:Int)<=(k:Int):=qd
 have k1:(k:Int)<16:=qd;have uC:IntKind.i64.wrap ((k:Nat):Int)=(k:Int):=XAM _ qd;have L7:IntKind.i64.wrap (m-u)=m-u:=XAM _ qd;have sO:IntKind.i64.wrap (u+n)=u+n:=XAM _ qd;have t1:decide (m-u<n)=false:=XAS qd;clear hC;go_enter func101,ntmps101;go_wp2_with (first|(go_at_call 142;refine(mo _ b U M HC.out [x] 1 h1 qd n _ 1 HA.out 0 he.out).mono ?_;rintro e w1 ⟨rfl,hb1⟩;have bK:=HC.out.below hb1;have z1:=hb1.size;rw [XAT] at z1;have c1:=bK.used hk;have c2:=bK.most hk;have f1:=bK.frozen (1+k);have f2:=bK.frozen (17+k);rw [hu.out] at c1;rw [hm.out] at c2))
 go_quiet (fail)
 go_wp2;go_region;all_goals go_wp2
 go_ret;exact⟨R,by rw [hu.out];exact((bK.drewN _).zU hk _),((One.of_below b (df hb1)).drewN _).set _ _⟩
theorem ab1(w:World)(b:Nat)(U M:Nat->Int)(hC:aV w b U M)(hF:Fine U M)(x n:Int)(k:Nat)(hk:k<16)(hx:x-1=(k:Int))(he:Hid (de [x] n=0))(hq:M k-U k<n):
  Z 101 #[(b,0),I x,I n] w λr w'=>r=.returned (I 120)/\Below w w w':=by
 have HA:=XAA (Row.iR (ak.new w 3 #[I x]));have HC:=XAA (hC.alloc (.cells #[I x] 3));have h1:Hid (List.length [x]=1):=XAA rfl;have bl:=hC.lt;obtain⟨q1,q2,q3,q4⟩:=yb he.out;obtain⟨u0,u1,m0,m1⟩:=hF k hk;obtain⟨u,hu⟩:∃u,Hid (U k=u):=⟨_,XAA R⟩;obtain⟨m,hm⟩:∃m,Hid (M k=m):=⟨_,XAA R⟩;rw [hu.out] at u0 u1 hq;rw [hm.out] at m0 m1 hq;have k0:(0:Int)<=(k:Int):=qd
 have k1:(k:Int)<16:=qd;have uC:IntKind.i64.wrap ((k:Nat):Int)=(k:Int):=XAM _ qd;have L7:IntKind.i64.wrap (m-u)=m-u:=XAM _ qd;have sO:IntKind.i64.wrap (u+n)=u+n:=XAM _ qd;have t1:decide (m-u<n)=true:=XAR qd;clear hC;go_enter func101,ntmps101;go_wp2_with (first|(go_at_call 142;refine(mo _ b U M HC.out [x] 1 h1 qd n _ 1 HA.out 0 he.out).mono ?_;rintro e w1 ⟨rfl,hb1⟩;have bK:=HC.out.below hb1;have z1:=hb1.size;rw [XAT] at z1;have c1:=bK.used hk;have c2:=bK.most hk;have f1:=bK.frozen (1+k);have f2:=bK.frozen (17+k);rw [hu.out] at c1;rw [hm.out] at c2))
 go_quiet (fail)
 go_wp2;go_ret;exact⟨R,qa⟩
theorem SJ(w:World)(b:Nat)(U M:Nat->Int)(hC:aV w b U M)(hF:Fine U M)(x n:Int)(k:Nat)(hk:k<16)(hx:x-1=(k:Int))(he:Hid (de [x] n=0))(hq:n<=U k):
  Z 104 #[(b,0),I x,I n] w λr w'=>r=.returned (I 0)/\aV w' b (upd U k (U k-n)) M/\One b w w':=by
 have HA:=XAA (Row.iR (ak.new w 3 #[I x]));have HC:=XAA (hC.alloc (.cells #[I x] 3));have h1:Hid (List.length [x]=1):=XAA rfl;have bl:=hC.lt;obtain⟨q1,q2,q3,q4⟩:=yb he.out;obtain⟨u0,u1,m0,m1⟩:=hF k hk;obtain⟨u,hu⟩:∃u,Hid (U k=u):=⟨_,XAA R⟩;obtain⟨m,hm⟩:∃m,Hid (M k=m):=⟨_,XAA R⟩;rw [hu.out] at u0 u1 hq;rw [hm.out] at m0 m1;have k0:(0:Int)<=(k:Int):=qd
 have k1:(k:Int)<16:=qd;have uC:IntKind.i64.wrap ((k:Nat):Int)=(k:Int):=XAM _ qd;have sO:IntKind.i64.wrap (u-n)=u-n:=XAM _ qd;clear hC;go_enter func104,ntmps104;go_wp2_with (first|(go_at_call 142;refine(mo _ b U M HC.out [x] 1 h1 qd n _ 1 HA.out 0 he.out).mono ?_;rintro e w1 ⟨rfl,hb1⟩;have bK:=HC.out.below hb1;have z1:=hb1.size;rw [XAT] at z1;have c1:=bK.used hk;have c2:=bK.most hk;have f1:=bK.frozen (1+k);have f2:=bK.frozen (17+k);rw [hu.out] at c1;rw [hm.out] at c2));go_region;all_goals go_wp2
 go_ret;exact⟨R,by rw [hu.out];exact(bK.zU hk _).drew,((One.of_below b (df hb1)).set _ _).drew⟩
theorem SI(w:World)(b:Nat)(U M:Nat->Int)(hC:aV w b U M)(hF:Fine U M)(x n:Int)(k:Nat)(hk:k<16)(hx:x-1=(k:Int))(he:Hid (de [x] n=0))(hq:U k<n):
  Z 104 #[(b,0),I x,I n] w λr w'=>r=.returned (I 2)/\Below w w w':=by
 have HA:=XAA (Row.iR (ak.new w 3 #[I x]));have HC:=XAA (hC.alloc (.cells #[I x] 3));have h1:Hid (List.length [x]=1):=XAA rfl;have bl:=hC.lt;obtain⟨q1,q2,q3,q4⟩:=yb he.out;obtain⟨u0,u1,m0,m1⟩:=hF k hk;obtain⟨u,hu⟩:∃u,Hid (U k=u):=⟨_,XAA R⟩;obtain⟨m,hm⟩:∃m,Hid (M k=m):=⟨_,XAA R⟩;rw [hu.out] at u0 u1 hq;rw [hm.out] at m0 m1;have k0:(0:Int)<=(k:Int):=qd
 have k1:(k:Int)<16:=qd;have uC:IntKind.i64.wrap ((k:Nat):Int)=(k:Int):=XAM _ qd;have sO:IntKind.i64.wrap (u-n)=u-n:=XAM _ qd;clear hC;go_enter func104,ntmps104;go_wp2_with (first|(go_at_call 142;refine(mo _ b U M HC.out [x] 1 h1 qd n _ 1 HA.out 0 he.out).mono ?_;rintro e w1 ⟨rfl,hb1⟩;have bK:=HC.out.below hb1;have z1:=hb1.size;rw [XAT] at z1;have c1:=bK.used hk;have c2:=bK.most hk;have f1:=bK.frozen (1+k);have f2:=bK.frozen (17+k);rw [hu.out] at c1;rw [hm.out] at c2))
 skip
 go_ret;exact⟨R,qa⟩
def ig(U:Nat->Int)(xs:List Int)(d:Int):Nat->Int:=λk=>if((k:Int)+1)∈xs then U k+d else U k
theorem Pa(U:Nat->Int)(d:Int):ig U [] d=U:=by funext k;simp [ig]
theorem O_{U:Nat->Int}{xs:List Int}{d:Int}{j k:Nat}(hj:j<xs.length)(hk:xs[j]=(k:Int)+1)(hs:jU xs j k=false):
  ig U (xs.take (j+1)) d=upd (ig U (xs.take j) d) k (U k+d)/\ig U (xs.take j) d k=U k:=by
 have hno:((k:Int)+1)∉xs.take j:=by unfold jU at hs;intro h;rw [XDS.2 h] at hs;cases hs
 refine⟨?_,by unfold ig;rw [XAD hno]⟩;funext i;unfold ig upd;rw [XDR hj,hk];simp only [XAe,XA2];by_cases hik:i=k
 .subst hik;simp
 .have:¬((i:Int)+1=(k:Int)+1):=by omega
  simp [this,hik]
theorem abR{xs:List Int}(h:xs.Nodup){j k:Nat}(hj:j<xs.length)(hk:xs[j]=(k:Int)+1):jU xs j k=false:=by
 have h1:=Ku hj hk;have h2:(xs.take (j+1)).Nodup:=h.sublist (List.take_sublist _ _);rw [XAR h2] at h1;cases hs:jU xs j k
 .rfl
 .rw [hs] at h1;simp at h1
def jl(U:Nat->Int)(n:Int)(xs:List Int):Bool:=xs.all λx=>decide (n<=U (x-1).toNat)
theorem YX{U:Nat->Int}{n:Int}{xs:List Int}{k:Nat}(h:xs.length<=k):jl U n (xs.drop k)=true:=qet
theorem YY{U:Nat->Int}{n:Int}{xs:List Int}{j k:Nat}(h:j<xs.length)(hk:xs[j]=(k:Int)+1):jl U n (xs.drop j)=(decide (n<=U k) && jl U n (xs.drop (j+1))):=by
 rw [XBt h,hk];show(decide (n<=U ((k:Int)+1-1).toNat) && _)=_;rw [show((k:Int)+1-1).toNat=k from qd];rfl
theorem YW{U:Nat->Int}{n:Int}{xs:List Int}(h:jl U n xs=true){j k:Nat}(hj:j<xs.length)(hk:xs[j]=(k:Int)+1):n<=U k:=by
 unfold jl at h;have:=XBu.1 h _ (XCu hj);rw [hk,show((k:Int)+1-1).toNat=k from qd] at this;simpa using this
theorem PW(w:World)(b:Nat)(U M:Nat->Int)(hC:aV w b U M)(xs:List Int)(m:Nat)(hm:Hid (xs.length=m))(hmx:m<=9223372036854775807)(n:Int)(A:Option Addr)(c:Nat)(hA:Row w A (fw xs))(e:Int)(he:de xs n=e)(h0:e≠0):
  Z 130 #[(b,0),.slice A m c,I n] w λr w'=>r=.returned (I e)/\Below w w w':=by
 have HC:=XAA hC;have HA:=XAA hA;have hne:(e !=0)=true:=XBP.2 h0;have HE:=XAA he;clear hC hA h0 he;go_enter func130,ntmps130;go_wp2_with (first|(go_at_call 142;refine(mo _ b U M HC.out xs m hm hmx n A c HA.out e HE.out).mono ?_;rintro r w1 ⟨rfl,hb1⟩));go_ret;exact⟨R,hb1⟩
def Eu(w:World)(b:Nat)(U M:Nat->Int)(xs:List Int)(n:Int)(r:Ending)(w':World):Prop:=
 (jl U n xs=true/\r=.returned (I 0)/\aV w' b (ig U xs (-n)) M/\One b w w')\/(jl U n xs=false/\r=.returned (I 2)/\Below w w w')
theorem PX(w:World)(b:Nat)(U M:Nat->Int)(hC:aV w b U M)(hF:Fine U M)(xs:List Int)(m:Nat)(hm:Hid (xs.length=m))(Wf:m<=8)(n:Int)(g off c:Nat)(hgb:g≠b)(hg:g<w.heap.size)(hA:∀j u,(fw xs)[j]? =some u->w.cell? (g,off+j)=some u)(hR:Row w (some ⟨g,off,none⟩) (fw xs))(he:Hid (de xs n=0)):
  Z 130 #[(b,0),.slice (g,off) m c,I n] w (Eu w b U M xs n):=by
 have HC:=XAA hC;have HA:=XAA hA;have HR:=XAA hR;have HF:=XAA hF;obtain⟨hG,hfit⟩:=ya.1 he.out;obtain⟨hnd,-,-,hn0,hn1⟩:=tN.1 hfit;obtain⟨ah,hRl⟩:=Xq (jl U n xs);have HG:=XAA hG;have Nz:=XAA hnd;have HL:Hid (jl U n (xs.drop 0)=ah):=XAA hRl;have E4:=XAA hRl;have bl:=hC.lt;have I8:Hid (∀j,j<xs.length->∃k:Nat,k<16/\xs[j]? =some ((k:Int)+1)):=XAA (λj hj=>by
  obtain⟨h1,h2⟩:=xZ hG hj
  exact⟨(xs[j]-1).toNat,qd,by rw [XAO hj];congr 1;omega⟩)
 clear hC hA hR hF hG hfit hnd hRl;go_enter func130,ntmps130;go_wp2_with (first|(go_at_call 142;refine(mo _ b U M HC.out xs m hm qd n _ c HR.out 0 he.out).mono ?_;rintro r w1 ⟨rfl,hb1⟩));have bK:=XAA (HC.out.below hb1);have z1:=hb1.size;go_loopw [9,21] (λ_ q wr=>∃j:Nat,j<=m/\q=I j/\Hid (jl U n (xs.drop j)=ah)/\wr=w1) (λ_ q _=>m-(intOf q).toNat)
 case atStart=>exact⟨0,qd,R,HL,R⟩
 case round=>
  obtain⟨j,hj,rfl,HJ,rfl⟩:=hrel;by_cases hlt:j<m
  .have hjl:j<xs.length:=by rw [hm.out];exact hlt
   obtain⟨k,mH,hxk⟩:=I8.out j hjl;have nO:xs[j]=(k:Int)+1:=qfy
   have cK:=(hb1.cell (p:=⟨g,off+j,none⟩) hg).trans (HA.out j _ (yU hjl));rw [nO] at cK;have HS:=XAA (YY (U:=U) (n:=n) hjl nO);obtain⟨u,hu⟩:=Xq (U k);have c1:=bK.out.used mH;obtain⟨u0,u1,-,-⟩:=HF.out k mH;rw [hu] at c1 HS u0 u1;have j0:(0:Int)<=(j:Int):=qd
   have j1:(j:Int)<(m:Int):=qd;have k0:(0:Int)<=(k:Int):=qd;have k1:(k:Int)<16:=qd;have hx1:(k:Int)+1-1=(k:Int):=qd;clear hxk nO hjl hu;by_cases hq:n<=u
   .have HN:Hid (jl U n (xs.drop (j+1))=ah):=XAA (by rw [<-HJ.out,HS.out,XAR hq];rfl);go_wp2;go_roundw
    case rel=>exact⟨j+1,qd,qbf,HN,trivial⟩
    case measure=>simp [intOf];omega
   .have HN:Hid (ah=false):=XAA (by rw [<-HJ.out,HS.out,XAS hq];rfl);go_wp2;go_ret;exact .inr ⟨E4.out.trans HN.out,R,hb1⟩
  .have HN:Hid (ah=true):=XAA (by rw [<-HJ.out,YX qju]);obtain⟨wo,rfl⟩:∃wo:World,wo=wr:=⟨_,R⟩;have E7:=XAA (E4.out.trans HN.out);go_wp2;go_loopw [11,37] (λ_ q w2=>∃j:Nat,j<=m/\q=I j/\aV w2 b (ig U (xs.take j) (-n)) M/\One b w w2) (λ_ q _=>m-(intOf q).toNat)
   case atStart=>exact⟨0,qd,R,by rw [List.take_zero,Pa];exact bK.out,One.of_below b hb1⟩
   case round=>
    obtain⟨j,hj,rfl,hC2,hT⟩:=hrel;by_cases hlt2:j<m
    .have hjl:j<xs.length:=by rw [hm.out];exact hlt2
     obtain⟨k,mH,hxk⟩:=I8.out j hjl;have nO:xs[j]=(k:Int)+1:=qfy
     have cK:wr.cell? (g,off+j)=I ((k:Int)+1):=by rw [XAP (w:=w) (hT.block g hg hgb),HA.out j _ (yU hjl),nO]
     have hns:=abR Nz.out hjl nO;obtain⟨ha1,ha2⟩:=O_ (U:=U) (d:= -n) hjl nO hns;have HA1:=XAA ha1;have hlow:=YW E7.out hjl nO;obtain⟨u0,u1,-,-⟩:=HF.out k mH;obtain⟨u,hu⟩:=Xq (U k);have c1:=hC2.used mH;have f1:=hC2.frozen (1+k);rw [ha2,hu] at c1;rw [hu] at hlow u0 u1;have HU:=XAA hu;have j0:(0:Int)<=(j:Int):=qd
     have j1:(j:Int)<(m:Int):=qd;have k0:(0:Int)<=(k:Int):=qd;have k1:(k:Int)<16:=qd;have hx1:(k:Int)+1-1=(k:Int):=qd;have uC:IntKind.i64.wrap ((k:Nat):Int)=(k:Int):=XAM _ qd;have sO:IntKind.i64.wrap (u-n)=u-n:=XAM _ qd;have bL:Hid (∀w',aV w' b (ig U (xs.take j) (-n)) M->aV (w'.setCell (b,1+k) (I (u-n))) b (ig U (xs.take (j+1)) (-n)) M):=XAA (λw' h=>by
      have:=h.zU mH (u-n)
      rw [HA1.out,HU.out,show u+ -n=u-n from qd]
      exact this)
     clear ha1 ha2 hu hxk nO hjl hns;go_wp2;go_region;all_goals go_wp2
     all_goals
      go_roundw
      case rel=>exact⟨j+1,qd,qbf,by first|exact bL.out _ hC2|exact bL.out _ (hC2.drewN _),by first|exact(hT.set _ _).drew|exact(hT.drewN _).set _ _⟩
      case measure=>simp [intOf];omega
    .have hjm:j=m:=by omega
     subst hjm;rw [XCA (by rw [hm.out];exact XAB _)] at hC2;go_wp2;go_ret;exact .inl ⟨E7.out,R,hC2,hT⟩

def rS(U M:Nat->Int)(n:Int):List Int->Int
 | []=>0
 |x::r=>bif decide (n<=M (x-1).toNat-U (x-1).toNat) then rS U M n r else x
theorem Fine.up{U M:Nat->Int}(h:Fine U M){k:Nat}{n:Int}(hn:0<=n)(hq:n<=M k-U k):Fine (upd U k (U k+n)) M:=by
 intro i hi;obtain⟨h1,h2,h3,h4⟩:=h i hi;unfold upd;by_cases hik:i=k
 .subst hik;rw [XAE rfl];omega
 .rw [XAD hik];exact⟨h1,h2,h3,h4⟩
section
def uH:Nat->Int:=λ_=>0
def wA:Nat->Int:=λ_=>9007199254740991
def sG(i:Nat):Nat->Int:=λk=>if k<i then 9007199254740991 else 0
theorem aaI(i:Nat):upd (sG i) i 9007199254740991=sG (i+1):=by
 funext k;unfold upd sG;by_cases h:k=i
 .subst h;rw [XAE R,XAE qd]
 .rw [XAD h];by_cases h2:k<i
  .rw [XAE h2,XAE qd]
  .rw [XAD h2,XAD qd]
theorem aV.R0{w:World}{b:Nat}{U M M':Nat->Int}(h:aV w b U M)(e:∀k,k<16->M k=M' k):aV w b U M':=by
 obtain⟨cs,hB,h1,h2,h3⟩:=h;exact⟨cs,hB,h1,h2,λk hk=>⟨(h3 k hk).1,by rw [(h3 k hk).2,e k hk]⟩⟩
theorem TB:Fine uH wA:=λ_ _=>⟨XBG 0,by unfold uH;omega,by unfold wA;omega,by unfold wA;omega⟩
theorem RH:Ez #[.bool true,I 0,I 0,I 0,I 0,I 0,I 0,I 0,I 0,I 0,I 0,I 0,I 0,I 0,I 0,I 0,I 0,I 0,I 0,I 0,I 0,I 0,I 0,I 0,I 0,I 0,I 0,I 0,I 0,I 0,I 0,I 0,I 0] uH (sG 0):=by
 refine⟨R,R,λk hk=>?_⟩;obtain rfl|rfl|rfl|rfl|rfl|rfl|rfl|rfl|rfl|rfl|rfl|rfl|rfl|rfl|rfl|rfl:k=0\/k=1\/k=2\/k=3\/k=4\/k=5\/k=6\/k=7\/k=8\/k=9\/k=10\/k=11\/k=12\/k=13\/k=14\/k=15:=qd
 all_goals exact⟨R,R⟩
set_option maxRecDepth 100000 in
theorem new_any(w:World):Z 28 #[] w λe w'=>∃b,e=.returned (.pointer (b,0))/\aV w' b uH wA/\w.heap.size<=b/\Below w w w':=by
 go_enter func28,ntmps28;go_wp2;have hC:aV (w.alloc (.cells #[.bool true,I 0,I 0,I 0,I 0,I 0,I 0,I 0,I 0,I 0,I 0,I 0,I 0,I 0,I 0,I 0,I 0,I 0,I 0,I 0,I 0,I 0,I 0,I 0,I 0,I 0,I 0,I 0,I 0,I 0,I 0,I 0,I 0] 135)) w.heap.size uH (sG 0):=⟨_,ak.new w 135 _,RH⟩;go_loopw [2,5] (λ_ q wr=>∃i:Nat,i<=16/\q=I i/\aV wr w.heap.size uH (sG i)/\Below w w wr) (λ_ q _=>16-(intOf q).toNat)
 case atStart=>exact⟨0,qd,R,hC,qa⟩
 case round=>
  clear hC;obtain⟨i,hi,rfl,hC,hw⟩:=hrel;by_cases hlt:i<16
  .have c2:=hC.most hlt;have f2:=hC.frozen (17+i);have HN:=XAA (hC.D0 hlt 9007199254740991);rw [aaI] at HN;have k0:(0:Int)<=(i:Int):=by omega
   have k1:(i:Int)<16:=qd;clear hC;go_wp2;go_roundw
   case rel=>exact⟨i+1,qd,qbf,HN.out,hw.setCell (XAB _) _⟩
   case measure=>simp [intOf];omega
  .have V9:i=16:=by omega
   subst V9;go_wp2;go_ret;exact⟨_,R,hC.R0 (λk hk=>by unfold sG wA;rw [XAE hk]),XAB _,hw⟩
theorem vi{B:Nat}{a w w':World}{v:Value}{n:Nat}{e:TypeId}{xs:List Value}{base size:Nat}(h:Below B a w)(hg:w.grownBy w' v.ownBlock)(ho:w.ownsRow base e size v n xs)(hB:B<=w.heap.size)(hbase:B<=base):Below B a w':=by
 refine below_grown h hg hB λg hg'=>?_;rcases ho.2 with⟨rfl,_⟩|⟨g',cap,cur,rfl,hb,_⟩
 .simp [Value.ownBlock] at hg'
 .simp only [Value.ownBlock,XEN] at hg';omega
end
end Go.Proofs.YtedefgjfgdcfdaaGreatDoor
