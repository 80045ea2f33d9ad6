/- A part of the proof that ModelWrong holds: its theorems stand as they are typed. -/
import Derived.Test.YtafmoofknjncpaaGreatDoorF
set_option linter.all false
set_option maxRecDepth 100000
set_option maxHeartbeats 8000000
namespace Go.Proofs.YtafmoofknjncpaaGreatDoor
section
open Tryz Go.RowKit Go.Shelf
theorem Ke:(prog.info? 142).map (fun i=>(i.size,i.bytes,i.zero.map fun z=>z.cells.size))=some (5,40,some 5):=yG
theorem Jc:prog.underlying 229=some (.slice 142):=yG
theorem Au.new {α:Type} {I:World->(Nat->Prop)->α->List Value->Prop} (w:World) (lo K:Nat) (e:TypeId) (l:List α) (A:List (List Value)) (k n:Nat) (G:k=w.heap.size) (H:n=l.length) (O:lo<=w.heap.size) (D:A.length=l.length) (J:∀cs∈A,cs.length=K) (hm:l.length<=maxLen)
  (hI:∀i (h1:i<l.length) (h2:i<A.length),I (w.alloc (.cells A.flatten.toArray e)) (fun b=>b<w.heap.size+1/\b≠w.heap.size) l[i] A[i]):Au I lo e K (w.alloc (.cells A.flatten.toArray e)) l (.slice (some ⟨k,0,none⟩) n n):=by
 subst G H
 have F:A.flatten.length=l.length*K:=by
  rw[<-D];clear D hI hm
  induction A with
  | nil=>simp
  | cons c r M=>
   rw[Zdy,Zbj,M (fun cs h=>J cs (by simp[h])),J c (by simp),Zao,Zfy];omega
 refine⟨A,⟨⟨by rw[F,D],.inr ⟨w.heap.size,l.length,A.flatten.toArray,by rw[D],O,Zhe _ _,by omega,hm,by simp[F],by rw[D,<-F];exact Zbk⟩⟩,J⟩,D,fun i h1 h2=>?_⟩
 have:=hI i h1 h2
 rw[Zaq]
 have e:(fun b=>b<w.heap.size+1/\some b≠(Value.slice (some ⟨w.heap.size,0,none⟩) l.length l.length).ownBlock)=fun b=>b<w.heap.size+1/\b≠w.heap.size:=by
  funext b
  simp[Value.ownBlock]
 rw[e]
 exact this
theorem Xb (i k m:Nat) (a:Dv):(Lg i k m a).length=a.Ay.length:=by simp[Lg]
theorem Qf (i k:Nat):∀(m:Nat) (l:List Dv),(E6 i k m l).length<=(l.map Dv.size).sum
 | m,[]=>by simp[E6]
 | m,a::r=>by
  have:=Qf i k (m+1) r;simp only[E6,Na,Zbj,Zao,Xb,Zbi,Zfm];unfold Dv.size at*
  omega
theorem O5 (i:Nat):∀(k:Nat) (l:List A7),(C9 i k l).length<=(l.map A7.size).sum
 | k,[]=>by simp[C9]
 | k,r::l=>by
  have:=O5 i (k+1) l;have h2:=Qf i k 0 r.Aw;simp only[C9,Jp,Zbj,Zao,Zbi,Zfm];unfold A7.size at*
  omega
theorem Oc:∀(i:Nat) (l:List Bc),(Cr i l).length<=l.length+(l.map Bc.size).sum
 | i,[]=>by simp[Cr]
 | i,s::l=>by
  have:=Oc (i+1) l;have h2:=O5 i 0 s.Ai;simp only[Cr,Hb,Zbj,Zao,Zbi,Zfm];unfold Bc.size at*
  omega
theorem Tv (s:Ap) (A:Ef s):(Ca s).length<=20001:=by
 have h:=A.size;have h2:=Oc 0 s.Ac;unfold Ap.size at h;simp only[Ca,Kt,Zao,Zbj,Zeq,List.length_range];omega
def Ic (i k m:Nat) (n N:Nat):List B9:=((List.range N).drop n).map fun q=>⟨-1,i,k,m,(q:Nat)⟩
theorem W8 (i k m:Nat) (a:Dv):Ic i k m 0 a.Ay.length=Lg i k m a:=rfl
theorem Zi (i k m N:Nat):Ic i k m N N=[]:=by simp[Ic]
theorem W9 (i k m n N:Nat) (h:n<N):Ic i k m n N=⟨-1,i,k,m,(n:Nat)⟩::Ic i k m (n+1) N:=by
 unfold Ic;rw[Zbq yV];simp
def Ih (n N:Nat):List B9:=((List.range N).drop n).map fun q=>⟨(q:Nat),-1,-1,-1,-1⟩
theorem Aau (N:Nat):Ih N N=[]:=by simp[Ih]
theorem Ri (n N:Nat) (h:n<N):Ih n N=⟨(n:Nat),-1,-1,-1,-1⟩::Ih (n+1) N:=by
 unfold Ih;rw[Zbq yV];simp
theorem Kc {xs rest all:List B9} (h:xs++rest=all) (A:all.length<=20001):xs.length<=20001:=by rw[<-h,Zbj]at A;omega
theorem Sg (xs:List B9) (h:xs.length<=20001):xs.length+1<=maxLen/\(xs.length+1)*40<=140737488355328:=⟨yP,yE⟩
theorem Agi (s:Ap) (b0:Ef s) (cs:zP) (w:zN) (n:Nat) (aI:n<=w) (aJ:Br w n s cs):
  Calls prog 120 #[.agg cs.toArray] w fun e w'=>∃v,e=.returned v/\Al Fi 5 w' (fun b=>b<w') (Ca s) v/\Below w w w':=by
 have aV:=aJ
 obtain⟨v,u,rfl,bk,aY⟩:=aJ
 obtain⟨aL,aP,rfl,-⟩:=bk
 obtain⟨aO,aK,rfl,-,aS⟩:=aY.at
 have c0:=Af (w:=w) (.cells #[s.Aj,.slice aL s.An aP,.slice aO s.Ac aK] 30)
 have df:=Ae w [s.Aj,.slice aL s.An aP,.slice aO s.Ac aK] 30
 have aX:=Zaa (Rd s b0 _ _ n (Zag aI c0.size) (A0.Ab.below aV (c0.mono aI)))
 have hlen:=Tv s b0
 have bw:s.An.length+s.Ac<=20000:=uN
 have aH:[top]++(Ih 0 s.An.length++Cr 0 s.Ac)=Ca s:=rfl
 have aF:∀x∈s.Ac,x.Ai.length<=20000:=fun x ag=>by
  have h1:=b0.size;unfold Ap.size at h1;have h2:=Ha Bc.size s.Ac x ag;have h3:x.Ai.length<=(x.Ai.map A7.size).sum:=Lo _ _ (fun r _=>by unfold A7.size;omega);have h4:x.size=(x.Ai.map A7.size).sum:=rfl;omega
 have af:∀x∈s.Ac,∀r∈x.Ai,r.Aw.length<=20000:=fun x ag r aB=>by
  have h1:=b0.size;unfold Ap.size at h1;have h2:=Ha Bc.size s.Ac x ag;have h3:=Ha A7.size x.Ai r aB;have h4:x.size=(x.Ai.map A7.size).sum:=rfl;have h5:r.Aw.length<=(r.Aw.map Dv.size).sum:=Lo _ _ (fun r _=>by unfold Dv.size;omega);have h6:r.size=1+r.Bu.size+(r.Aw.map Dv.size).sum:=rfl;omega
 have T:∀x∈s.Ac,∀r∈x.Ai,∀a∈r.Aw,a.Ay.length<=20000:=fun x ag r aB a bh=>by
  have h1:=b0.size;unfold Ap.size at h1;have h2:=Ha Bc.size s.Ac x ag;have h3:=Ha A7.size x.Ai r aB;have h4:x.size=(x.Ai.map A7.size).sum:=rfl;have h5:=Ha Dv.size r.Aw a bh;have h6:r.size=1+r.Bu.size+(r.Aw.map Dv.size).sum:=rfl;have h7:a.Ay.length<=a.size:=by unfold Dv.size;omega
  omega
 have bn:=Zaa aS
 have bj:=Zaa aF
 have br:=Zaa af
 have bg:=Zaa T
 have b9:=Zaa aH
 generalize Ca s=all at*
 clear aS aF af T aV aY b0 aH
 go_enter func120,ntmps120
 go_wp2_with fail
 refine aX.out.mono ?_
 refine Z2S ?_
 intro a8 aa b7 c7
 have bE:w.heap.size<a8:=xT
 have aT:=b7 0 _ rfl
 have aQ:=b7 1 _ rfl
 have aN:=b7 2 _ rfl
 simp only[Zac]at aT aQ aN
 have b3:=Au.new (I:=Fi) a8 a8 5 142 [top] [top.cells] a8 1 rfl rfl (Zab _) rfl (by simp[B9.cells]) (by unfold maxLen;simp) (fun i h1 h2=>by
  have:i=0:=by simp at h1;omega
  subst this;rfl)
 clear c0 df aa aX
 go_wp2_with fail
 go_loopw [3,20] (fun u v wr=>∃(i:Nat) (xs:List B9),i<=s.An/\v=.int .i64 i/\Au Fi a8 142 5 wr xs u/\xs++(Ih i s.An.length++Cr 0 s.Ac)=all/\Below a8 a8 wr) (fun _ v _=>s.An.length - (intOf v).toNat)
 case atStart=>exact⟨0,[top],Zap _,rfl,b3,b9.out,Af _⟩
 case round=>
  clear b3;obtain⟨i,xs,b6,rfl,F,A,D⟩:=hrel;obtain⟨a9,gc,rfl,-⟩:=F.shape;by_cases a6:i<s.An
  ·have bl:(i:Int) <s.An.length:=by omega
   have G:=Zaa (Sg xs (Kc A hlen));have a4:=D.size;go_wp2_with (at_builtin;go_loud (refine Am Fi.Ab rfl _ _ 229 rfl a8.heap.size 142 5 40 Jc Ke yH _ _ rfl F (⟨(i:Nat),-1,-1,-1,-1⟩:B9) (B9.cells ⟨(i:Nat),-1,-1,-1,-1⟩) rfl yF rfl rfl vW G.out.1 G.out.2 (by first | omega | (simp;omega)) ?_;intro a5 a7 M J ad H O ab _))
   go_roundw
   case rel=>exact⟨i+1,xs++[⟨(i:Nat),-1,-1,-1,-1⟩],yE,yK,by simpa using J,by rw[<-A,Ri i _ a6];simp,D.trans H⟩
   case measure=>simp[intOf];omega
  obtain rfl:i=s.An:=by omega
  have ar:¬((s.An.length:Int) <s.An.length):=yE;rw[Aau,Zau]at A;have aU:=Aa b7 D yE;have f2:=aU 2 _ rfl;simp only[Zac]at f2;clear aT aQ aN;go_wp2_with fail
  go_loopw [3,32] (fun u v wr=>∃(i:Nat) (xs:List B9),i<=s.Ac/\v=.int .i64 i/\Au Fi a8 142 5 wr xs u/\xs++Cr i (s.Ac.drop i)=all/\Below a8 a8 wr) (fun _ v _=>s.Ac.length - (intOf v).toNat)
  case atStart=>exact⟨0,xs,Zap _,rfl,F,by simpa using A,D⟩
  case round=>
   clear F A D f2 aU;obtain⟨i,xs,b6,rfl,F,A,D⟩:=hrel;have U:=c7.trans (D.mono c7.size);obtain⟨a9,gc,rfl,-⟩:=F.shape;by_cases a6:i<s.Ac
   ·have bl:(i:Int) <s.Ac.length:=by omega
    obtain⟨b,o,rfl,bB,aR,h1,h2⟩:=bn.out i a6;obtain⟨bG,rfl,bq⟩:=h2;obtain⟨au,rc,rfl,-,b4⟩:=bq.at;rw[Zbq a6]at A;have aF:=bj.out _ (Zat a6);have af:=br.out _ (Zat a6);have T:=bg.out _ (Zat a6);generalize s.Ac[i]=st at*
    simp only[Cr,Hb,Zas]at A;generalize aW:Cr (i+1) (s.Ac.drop (i+1))=aC at A;refine Z1c ?_;intro d0 d1;have a0:=Ae wr [st.name,.slice au st.Ai rc] 37;have Y:Below a8 a8 (wr.alloc (.cells #[st.name,.slice au st.Ai rc] 37)):=D.alloc D.size _;have a1:=F.alloc Fi.Ab (.cells #[st.name,.slice au st.Ai rc] 37);have sg:=Zaa fun k (ae:(Value.slice a9 xs gc).ownBlock=some k)=>(F.lt k ae).2
    have G:=Zaa (Sg xs (Kc A hlen));have bd:=Zaa b4;have bi:=Zaa af;have bc:=Zaa T;have bo:=Zaa aW;have a4:=D.size;clear b4 af T aW h1 F;go_wp2_with (at_builtin;go_loud (refine Am Fi.Ab rfl _ _ 229 rfl a8.heap.size 142 5 40 Jc Ke yH _ _ rfl a1 (⟨-1,(i:Nat),-1,-1,-1⟩:B9) (B9.cells ⟨-1,(i:Nat),-1,-1,-1⟩) rfl yF rfl rfl vW G.out.1 G.out.2 (by first | omega | (simp;omega)) ?_;intro a5 a7 M J ad H O ab _;have a2:M.rangeAt wr 0 [st.name,.slice au st.Ai rc]:=Ag a0 (O.block _ yF (fun e=>sQ));have f1:=a2 1 _ rfl;simp only[Zac]at f1))
    have a3:=Y.trans H;have W:(xs++[⟨-1,(i:Nat),-1,-1,-1⟩])++(C9 i 0 (st.Ai.drop 0)++aC)=all:=by rw[<-A];simp
    have V:Au Fi a8 142 5 M (xs++[⟨-1,(i:Nat),-1,-1,-1⟩]) (.slice a5 (xs+1) a7):=J;clear d0 d1 f1 a2 a0 a1 Y H O ab ad A J;go_loopw [3,45] (fun u v wr=>∃(k:Nat) (xs:List B9),k<=st.Ai.length/\v=.int .i64 k/\Au Fi a8 142 5 wr xs u/\xs++(C9 i k (st.Ai.drop k)++aC)=all/\Below a8 a8 wr) (fun _ v _=>st.Ai.length - (intOf v).toNat)
    case atStart=>exact⟨0,_,Zap _,rfl,V,W,a3⟩
    case round=>
     clear V W a3 U D a4;obtain⟨k,xs,ae,rfl,F,A,D⟩:=hrel;have U:=c7.trans (D.mono c7.size);obtain⟨a9,gc,rfl,-⟩:=F.shape;by_cases aA:k<st.Ai.length
     ·have bx:(k:Int) <st.Ai.length:=by omega
      obtain⟨b2,bD,rfl,bu,aR,h1,h2⟩:=bd.out k aA;obtain⟨z0,ah,z2,z3,z4,z5,ak,ai,aj,z9,v,rfl,b8,b5⟩:=Bj.open h2;obtain⟨ax,ac,rfl,-,aG⟩:=b5.at;rw[Zbq aA]at A;have af:=bi.out _ (Zat aA);have T:=bc.out _ (Zat aA);generalize st.Ai[k]=r at*
      simp only[C9,Jp,Zas,Zdj]at A;generalize aZ:C9 i (k+1) (st.Ai.drop (k+1))++aC=aD at A;have aq:=Aa h1 U yE;refine Z0I ?_;intro d0 d1 d2 d3 d4 d5 d6 d7;refine Z34 ?_;intro d8 d9 d10 d11 d12 d13 d14 d15;simp only[Zaf]at d0;have a0:=Ae wr [.int .u8 r.kind.toNat,.bool r.Bh,.bool r.Bp,z0,ah,z2,z3,z4,z5,ak,.slice ai aj z9,.string r.text,.int .i64 r.Az,.slice ax r.Aw ac,.string r.A3,.int .i64 r.Bl] 48;have Y:Below a8 a8 (wr.alloc (.cells #[.int .u8 r.kind.toNat,.bool r.Bh,.bool r.Bp,z0,ah,z2,z3,z4,z5,ak,.slice ai aj z9,.string r.text,.int .i64 r.Az,.slice ax r.Aw ac,.string r.A3,.int .i64 r.Bl] 48)):=D.alloc D.size _;have a1:=F.alloc Fi.Ab (.cells #[.int .u8 r.kind.toNat,.bool r.Bh,.bool r.Bp,z0,ah,z2,z3,z4,z5,ak,.slice ai aj z9,.string r.text,.int .i64 r.Az,.slice ax r.Aw ac,.string r.A3,.int .i64 r.Bl] 48);have sg:=Zaa fun q (ae:(Value.slice a9 xs gc).ownBlock=some q)=>(F.lt q ae).2
      have G:=Zaa (Sg xs (Kc A hlen));have be:=Zaa aG;have bf:=Zaa T;have bs:=Zaa aZ;have a4:=D.size;clear aG T aZ h1 F aq b8;go_wp2_with (at_builtin;go_loud (refine Am Fi.Ab rfl _ _ 229 rfl a8.heap.size 142 5 40 Jc Ke yH _ _ rfl a1 (⟨-1,(i:Nat),(k:Nat),-1,-1⟩:B9) (B9.cells ⟨-1,(i:Nat),(k:Nat),-1,-1⟩) rfl yF rfl rfl vW G.out.1 G.out.2 (by first | omega | (simp;omega)) ?_;intro a5 a7 M J ad H O ab _;have a2:M.rangeAt wr 0 [.int .u8 r.kind.toNat,.bool r.Bh,.bool r.Bp,z0,ah,z2,z3,z4,z5,ak,.slice ai aj z9,.string r.text,.int .i64 r.Az,.slice ax r.Aw ac,.string r.A3,.int .i64 r.Bl]:=Ag a0 (O.block _ yF (fun e=>sQ));have f13:=a2 13 _ rfl;simp only[Zac]at f13))
      have a3:=Y.trans H;have W:(xs++[⟨-1,(i:Nat),(k:Nat),-1,-1⟩])++(E6 i k 0 (r.Aw.drop 0)++aD)=all:=by rw[<-A];simp
      have V:Au Fi a8 142 5 M (xs++[⟨-1,(i:Nat),(k:Nat),-1,-1⟩]) (.slice a5 (xs+1) a7):=J;clear d0 d1 d2 d3 d4 d5 d6 d7 d8 d9 d10 d11 d12 d13 d14 d15 f13 a2 a0 a1 Y H O ab ad A J;go_loopw [3,59] (fun u v wr=>∃(m:Nat) (xs:List B9),m<=r.Aw.length/\v=.int .i64 m/\Au Fi a8 142 5 wr xs u/\xs++(E6 i k m (r.Aw.drop m)++aD)=all/\Below a8 a8 wr) (fun _ v _=>r.Aw.length - (intOf v).toNat)
      case atStart=>exact⟨0,_,Zap _,rfl,V,W,a3⟩
      case round=>
       clear V W a3 U D a4;obtain⟨m,xs,hm,rfl,F,A,D⟩:=hrel;have U:=c7.trans (D.mono c7.size);obtain⟨a9,gc,rfl,-⟩:=F.shape;by_cases aE:m<r.Aw.length
       ·have bz:(m:Int) <r.Aw.length:=by omega
        obtain⟨bC,bF,rfl,bv,aR,h1,h2⟩:=be.out m aE;obtain⟨al,ao,ap,av,aw,ay,az,v,rfl,ba,bm⟩:=C2.open h2;obtain⟨an,am,rfl,-⟩:=bm;rw[Zbq aE]at A;have T:=bf.out _ (Zat aE);generalize r.Aw[m]=a at*
        simp only[E6,Na,Zas,Zdj]at A;generalize b1:E6 i k (m+1) (r.Aw.drop (m+1))++aD=aM at A;have aq:=Aa h1 U yE;refine Z0I ?_;intro d0 d1 d2 d3 d4 d5 d6 d7;simp only[Zaf]at d0;have a0:=Ae wr [.int .u8 a.kind.toNat,.string a.name,.slice an a.Ay am,al,.float .f64 ao,ap,av,.slice aw ay az] 120;have Y:Below a8 a8 (wr.alloc (.cells #[.int .u8 a.kind.toNat,.string a.name,.slice an a.Ay am,al,.float .f64 ao,ap,av,.slice aw ay az] 120)):=D.alloc D.size _;have a1:=F.alloc Fi.Ab (.cells #[.int .u8 a.kind.toNat,.string a.name,.slice an a.Ay am,al,.float .f64 ao,ap,av,.slice aw ay az] 120);have sg:=Zaa fun q (ae:(Value.slice a9 xs gc).ownBlock=some q)=>(F.lt q ae).2
        have G:=Zaa (Sg xs (Kc A hlen));have bp:=Zaa b1;have a4:=D.size;clear b1 h1 F aq ba;go_wp2_with (at_builtin;go_loud (refine Am Fi.Ab rfl _ _ 229 rfl a8.heap.size 142 5 40 Jc Ke yH _ _ rfl a1 (⟨-1,(i:Nat),(k:Nat),(m:Nat),-1⟩:B9) (B9.cells ⟨-1,(i:Nat),(k:Nat),(m:Nat),-1⟩) rfl yF rfl rfl vW G.out.1 G.out.2 (by first | omega | (simp;omega)) ?_;intro a5 a7 M J ad H O ab _;have a2:M.rangeAt wr 0 [.int .u8 a.kind.toNat,.string a.name,.slice an a.Ay am,al,.float .f64 ao,ap,av,.slice aw ay az]:=Ag a0 (O.block _ yF (fun e=>sQ));have f2:=a2 2 _ rfl;simp only[Zac]at f2))
        have a3:=Y.trans H;have W:(xs++[⟨-1,(i:Nat),(k:Nat),(m:Nat),-1⟩])++(Ic i k m 0 a.Ay.length++aM)=all:=by rw[W8,<-A];simp
        have V:Au Fi a8 142 5 M (xs++[⟨-1,(i:Nat),(k:Nat),(m:Nat),-1⟩]) (.slice a5 (xs+1) a7):=J;clear d0 d1 d2 d3 d4 d5 d6 d7 f2 a2 a0 a1 Y H O ab ad A J;go_loopw [3,74] (fun u v wr=>∃(q:Nat) (xs:List B9),q<=a.Ay.length/\v=.int .i64 q/\Au Fi a8 142 5 wr xs u/\xs++(Ic i k m q a.Ay.length++aM)=all/\Below a8 a8 wr) (fun _ v _=>a.Ay.length - (intOf v).toNat)
        case atStart=>exact⟨0,_,Zap _,rfl,V,W,a3⟩
        case round=>
         clear V W a3 U D a4;obtain⟨q,xs,bt,rfl,F,A,D⟩:=hrel;obtain⟨a9,gc,rfl,-⟩:=F.shape;by_cases bb:q<a.Ay.length
         ·have bA:(q:Int) <a.Ay.length:=by omega
          have G:=Zaa (Sg xs (Kc A hlen));have a4:=D.size;go_wp2_with (at_builtin;go_loud (refine Am Fi.Ab rfl _ _ 229 rfl a8.heap.size 142 5 40 Jc Ke yH _ _ rfl F (⟨-1,(i:Nat),(k:Nat),(m:Nat),(q:Nat)⟩:B9) (B9.cells ⟨-1,(i:Nat),(k:Nat),(m:Nat),(q:Nat)⟩) rfl yF rfl rfl vW G.out.1 G.out.2 (by first | omega | (simp;omega)) ?_;intro a5 a7 M J ad H O ab _))
          go_roundw
          case rel=>exact⟨q+1,xs++[⟨-1,(i:Nat),(k:Nat),(m:Nat),(q:Nat)⟩],yE,yK,by simpa using J,by rw[<-A,W9 _ _ _ q _ bb];simp,D.trans H⟩
          case measure=>simp[intOf];omega
         obtain rfl:q=a.Ay.length:=by omega
         have ar:¬((a.Ay.length:Int) <a.Ay.length):=yE;rw[Zi,Zau]at A;go_wp2_with fail
         go_roundw
         case rel=>exact⟨m+1,xs,yE,yK,F,by rw[bp.out];exact A,D⟩
         case measure=>simp[intOf];omega
       obtain rfl:m=r.Aw.length:=by omega
       have ar:¬((r.Aw.length:Int) <r.Aw.length):=yE;rw[Zdq]at A;go_wp2_with fail
       go_roundw
       case rel=>exact⟨k+1,xs,yE,yK,F,by rw[bs.out];exact A,D⟩
       case measure=>simp[intOf];omega
     obtain rfl:k=st.Ai.length:=by omega
     have ar:¬((st.Ai.length:Int) <st.Ai.length):=yE;rw[Zdq]at A;go_wp2_with fail
     go_roundw
     case rel=>exact⟨i+1,xs,yE,yK,F,by rw[bo.out];exact A,D⟩
     case measure=>simp[intOf];omega
   obtain rfl:i=s.Ac:=by omega
   have ar:¬((s.Ac.length:Int) <s.Ac.length):=yE;rw[Zdq]at A;simp only[Cr,Zdk]at A;subst A;go_wp2_with fail
   go_ret;exact⟨_,rfl,F.list Fi.Ab,c7.trans (D.mono c7.size)⟩
end
section
open Tryz Go.RowKit Go.Shelf
attribute [local go_sem] Oper.semAt_some
@[go_sem] theorem run_store_func (P:Program) (w:zN) (a:Addr) (m:Mode) (f:Fn) (x y:Array Value):(store a (.func f x y) m).run P w=stored P w a (.func f x y) m:=run_store P w a _ m rfl
structure H0 where
 err:Int
 gf:Nat
 lb:Array Value
def H0.cells (x:H0):List Value:=[.int .i64 x.err,.func (.func x.gf) #[] x.lb]
theorem Abt (l:List H0) (a:zO) (cap:Nat) (w:zN) (n:Nat) (G:n<=w.heap.size) (hlen:l.length<=1000000) (A:Bs w n 2 a (l.map H0.cells))
  (iP:∀x∈l,∀args w,(callFunc x.gf args).run prog w=.ok (.enter x.gf args) w)
  (hC:∀x∈l,∀X,Below w w X->Calls prog x.gf x.lb X fun e D=>e=.returned (.bool false)/\Below X X D):
  Calls prog 172 #[.slice a l cap] w fun e w'=>e=.returned (.int .i64 0)/\Below w w w':=by
 go_enter func172,ntmps172
 go_wp2_with fail
 go_step3
 go_wp2_with fail
 go_step3
 go_wp2_with fail
 go_loopw [3,8] (fun u v wr=>∃i:Nat,i<=l/\u=.int .i64 0/\v=.int .i64 i/\Below w w wr) (fun _ v _=>l.length - (intOf v).toNat)
 case atStart=>exact⟨0,Zap _,rfl,rfl,Zai _ _⟩
 case round=>
  obtain⟨i,F,rfl,rfl,U⟩:=hrel;by_cases ao:i<l
  ·have J:(i:Int) <l.length:=by omega
   rcases A with e | ⟨b,o,rfl,H,c5⟩
   ·rw[Zbr]at e;rw[e]at ao;simp at ao
   obtain⟨h1,-⟩:=c5 i xX;rw[Zbh]at h1;have dn:=hC l[i] (Zat _);have kr:=iP l[i] (Zat _);exact Z0H
  obtain rfl:i=l:=by omega
  refine Z1q ?_;intro fe;exact Z3a
end
section
open Tryz Go.RowKit Go.Shelf
theorem Aey (b:Nat) (A:Int) (h1:2<=A) (h2:A<=256) (w:zN) (D:w.cell? ⟨b,0,none⟩=some (.int .i64 A)):
  Calls prog 175 #[zK b] w fun e w'=>e=.returned (.bool false)/\w'=w:=by
 go_enter func175,ntmps175
 go_wp2_with fail
 refine(Hq _ _ _ _ h1 h2).mono ?_
 exact Z3o
theorem Anc (b:Nat) (a a2:zO) (m m2 c A:Nat) (h1:1<=m) (h2:m<=24) (h3:m2<=12) (w:zN) (G:w.cell? ⟨b,2,none⟩=some (.slice a m c)) (J:w.cell? ⟨b,1,none⟩=some (.slice a2 m2 A)):
  Calls prog 177 #[zK b] w fun e w'=>e=.returned (.bool false)/\w'=w:=by
 have D:(1:Int)<=m:=yE
 have F:(m:Int)<=24:=yE
 have H:decide (12< (m2:Int))=false:=Zhs yE
 go_enter func177,ntmps177
 go_wp2_with fail
 refine(Hq _ _ _ _ D F).mono ?_
 exact Z3o
theorem Aka (A:Int) (g1:2<=A) (g2:A<=256) (a a2:zO) (m m2 c D:Nat) (h1:1<=m) (h2:m<=24) (h3:m2<=12) (w:zN):
  Calls prog 145 #[.agg #[A,.slice a2 m2 D,.slice a m c]] w fun e w'=>e=.returned (.int .i64 0)/\Below w w w':=by
 have V:=Ae w [A,.slice a2 m2 D,.slice a m c] 30
 have M:Below w w ((w.alloc (.cells #[A,.slice a2 m2 D,.slice a m c] 30)).alloc (.cells #[.int .i64 300,.func (.func 175) #[] #[zK w],.int .i64 302,.func (.func 177) #[] #[zK w]] 289)):=(Af _).alloc yF _
 have U:=Aa V (Af (w:=w.alloc (.cells #[A,.slice a2 m2 D,.slice a m c] 30)) (.cells #[.int .i64 300,.func (.func 175) #[] #[zK w],.int .i64 302,.func (.func 177) #[] #[zK w]] 289)) yF
 have H:=Ae (w.alloc (.cells #[A,.slice a2 m2 D,.slice a m c] 30)) [.int .i64 300,.func (.func 175) #[] #[zK w],.int .i64 302,.func (.func 177) #[] #[zK w]] 289
 rw[Zaq]at H
 go_enter func145,ntmps145
 go_wp2_with fail
 refine(Abt [⟨300,175,#[zK w]⟩,⟨302,177,#[zK w]⟩] (some ⟨w+1,0,none⟩) 2 _ (w+2) yF yF (.inr ⟨w+1,0,rfl,yE,fun i O=>?_⟩) ?_ ?_).mono ?_
 ·have Y:i<2:=by simpa using O
  match i,Y with
  | 0,_=>exact⟨fun j v G=>H j v (by match j with | 0 | 1=>exact G | j+2=>simp[H0.cells]at G),rfl⟩
  | 1,_=>exact⟨fun j v G=>by
    have:=H (2+j) v (by match j with | 0 | 1=>exact G | j+2=>simp[H0.cells]at G);rw[show 0+1*2+j=0+(2+j)from yE];exact this,rfl⟩
 ·intro x F
  simp only[Zbc,Zbe,Zic]at F;rcases F with rfl | rfl<;>exact fun _ _=>rfl
 ·intro x F X T
  have hy:=Aa U T yJ;simp only[Zbc,Zbe,Zic]at F;rcases F with rfl | rfl
  ·exact(Aey _ A g1 g2 X (hy 0 _ rfl)).mono fun e w' ⟨h,J⟩=>⟨h,J▸Zai _ _⟩
  exact(Anc _ a a2 m m2 c D h1 h2 h3 X (hy 2 _ rfl) (hy 1 _ rfl)).mono fun e w' ⟨h,J⟩=>⟨h,J▸Zai _ _⟩
 rintro e a0 ⟨rfl,W⟩
 go_wp2_with fail
 go_ret
 exact⟨rfl,M.trans (W.mono M.size)⟩
end
section
open Tryz Go.RowKit Go.Shelf
theorem Aix (s t u:zS) (num:Bool) (x b:Nat) (w:zN) (U:b<w) (A:w.cell? ⟨b,0,none⟩=some (.string t)):
  Calls prog 226 #[.agg #[s,num,u,.float .f64 x],zK b] w fun e w'=>e=.returned (.bool (s.toList==t.toList))/\Below w w w':=by
 go_enter func226,ntmps226
 exact Z0N
def Et.cells (v:Et):List Value:=[.string v.name,.bool v.number,.string v.text,.float .f64 v.float]
def Vs (l:List Et) (s:zS) (j:Nat):Bool:=(l.map fun v=>v.name.toList==s.toList).getD j false
theorem M2 {l:List Et} {s:zS} {j:Nat} (h:j<l):Vs l s j=(l[j].name.toList==s.toList):=by
 simp[Vs,h]
theorem Alz (H:Int) (l:List Et) (vs:Value) (s:zS) (i:Nat) (F:i<l) (hlen:l.length<=100) (hy:l[i].name.toList=s.toList) (a4:∀j (h:j<i),(l[j]'yE).name.toList≠s.toList) (w:zN) (n:Nat) (a6:n<=w) (a8:Aco Dy 4 w n l vs) (a2:zO) (m2 G:Nat):
  Calls prog 188 #[.agg #[H,vs,.slice a2 m2 G],s] w fun e w'=>e=.returned (.tuple #[.bool l[i].number,zB])/\Below w w w':=by
 obtain⟨a,c,rfl,ad,a9⟩:=a8
 rcases a9 with rfl | ⟨b,o,rfl,U,J⟩
 ·simp at F
 have V:Bs w n 4 (some ⟨b,o,none⟩) (l.map Et.cells):=.inr ⟨b,o,rfl,U,fun j av=>by
  rw[Zbh];obtain⟨cs,h1,h2⟩:=J j xW;rw[show cs=_ from h2]at h1;exact⟨h1,rfl⟩⟩
 obtain⟨W,bm⟩:=zL ((w.alloc (.cells #[H,.slice (some ⟨b,o,none⟩) l c,.slice a2 m2 G] 30)).alloc (.cells #[s] 9))
 refine Z47 ?_
 intro el na
 have a0:W.rangeAt w 0 [H,.slice (some ⟨b,o,none⟩) l c,.slice a2 m2 G]:=by
  rw[<-bm];exact Aa (Ae w _ 30) (Af _) yF
 have a5:W.rangeAt (w+1) 0 [s]:=by
  rw[<-bm];have:=Ae (w.alloc (.cells #[H,.slice (some ⟨b,o,none⟩) l c,.slice a2 m2 G] 30)) [s] 9;exact Z1z
 have M:=Sf 226 #[zK (w+1)] (fun _ _=>rfl) (some ⟨b,o,none⟩) c (l.map Et.cells) (Vs l s) W n yE yJ (V.below el a6) (fun j av X az=>by
  have ab:j<l.length:=xW;rw[Zbh,M2 ab];exact Aix l[j].name s l[j].text l[j].number l[j].float _ X xV (Aa a5 az yE 0 _ rfl))
 rw[Zeq,F0 F (fun t a7=>by rw[M2 yE];simpa using a4 t a7) (by rw[M2 F];simpa using hy)]at M
 obtain⟨cs,A,a3⟩:=J i F
 rw[show cs=_ from a3]at A
 have c3:=Zaa M
 have aj:=Zaa bm
 clear M a4 hy V J a3 a5
 generalize af:l[i].number=num at A|-
 generalize l[i].name=ah at A
 generalize l[i].text=ai at A
 generalize l[i].float=ag at A
 have ak:(i:Int) <l.length:=yE
 subst bm
 go_enter func188,ntmps188
 go_wp2_with fail
 refine Z0P ?_
 rintro e O ⟨rfl,D⟩
 have aa:=D.size
 rw[na]at aa
 have T:=Aa a0 D yE
 have Y:Below w w O:=el.trans (D.mono yE)
 have a1:=Aa A Y yE
 have d1:=T 1 _ rfl
 have ae:=a1 1 _ rfl
 simp only[Zac]at d1
 have ac:w.heap.size<O:=yE
 clear el na a0 D T A a1
 go_wp2_with fail
 go_ret2
 exact⟨rfl,Y⟩
end
section
open Tryz Go.RowKit Go.Shelf
theorem Ad8 {α:Type} (l:List α) (f:α->Bool):E8 (fun j=>(l.map f).getD j false) l.length=match l.findIdx? f with | some i=>(i:Int) | none=> -1:=by
 cases h:l.findIdx? f with
 | none=>
  rw[List.findIdx?_eq_none_iff]at h;exact Hd fun t A=>by simpa[A]using h _ (Zat A)
 | some i=>
  obtain⟨D,h1,h2⟩:=Zdw.1 h;exact F0 D (fun t A=>by have:=h2 t A;simpa[show t<l from yE]using this) (by simpa[D]using h1)
theorem An0 (D:Int) (l:List Et) (vs:Value) (s:zS) (hlen:l.length<=100) (a0:∀x∈l,x.name.toList≠s.toList) (w:zN) (n:Nat) (J:n<=w) (V:Aco Dy 4 w n l vs) (a2:zO) (m2 A:Nat):
  Calls prog 188 #[.agg #[D,vs,.slice a2 m2 A],s] w fun e w'=>e=.returned (.tuple #[zA,zA])/\Below w w w':=by
 obtain⟨a,c,rfl,a6,Y⟩:=V
 have M:Bs w n 4 a (l.map Et.cells):=by
  rcases Y with rfl | ⟨b,o,rfl,U,O⟩
  ·exact .inl rfl
  exact .inr ⟨b,o,rfl,U,fun j av=>by
   rw[Zbh];obtain⟨cs,h1,h2⟩:=O j xW;rw[show cs=_ from h2]at h1;exact⟨h1,rfl⟩⟩
 obtain⟨W,bm⟩:=zL ((w.alloc (.cells #[D,.slice a l c,.slice a2 m2 A] 30)).alloc (.cells #[s] 9))
 refine Z47 ?_
 intro el na
 have a7:W.rangeAt w 0 [D,.slice a l c,.slice a2 m2 A]:=by
  rw[<-bm];exact Aa (Ae w _ 30) (Af _) yF
 have a1:W.rangeAt (w+1) 0 [s]:=by
  rw[<-bm];have:=Ae (w.alloc (.cells #[D,.slice a l c,.slice a2 m2 A] 30)) [s] 9;exact Z1z
 have H:=Sf 226 #[zK (w+1)] (fun _ _=>rfl) a c (l.map Et.cells) (Vs l s) W n yE yJ (M.below el J) (fun j av X az=>by
  have a4:j<l:=xW;rw[Zbh,M2 a4];exact Aix l[j].name s l[j].text l[j].number l[j].float _ X xV (Aa a1 az yE 0 _ rfl))
 rw[Zeq,Hd (fun t G=>by rw[M2 G];simpa using a0 _ (Zat G))]at H
 have c3:=Zaa H
 subst bm
 go_enter func188,ntmps188
 go_wp2_with fail
 refine Z0P ?_
 rintro e a5 ⟨rfl,F⟩
 have a3:=F.size
 rw[na]at a3
 have T:=el.trans (F.mono yE)
 go_wp2_with fail
 go_ret2
 exact⟨rfl,T⟩
theorem Ok (D:Int) (l:List Et) (vs:Value) (s:zS) (hlen:l.length<=100) (w:zN) (n:Nat) (G:n<=w) (H:Aco Dy 4 w n l vs) (a2:zO) (m2 A:Nat):
  Calls prog 188 #[.agg #[D,vs,.slice a2 m2 A],s] w fun e w'=>e=.returned (.tuple #[.bool (Fp l s==some true),.bool (Fp l s).isSome])/\Below w w w':=by
 unfold Fp
 cases h:l.findIdx? (fun v=>v.name.toList==s.toList)with
 | none=>
  rw[List.findIdx?_eq_none_iff]at h;exact An0 D l vs s hlen (fun x J=>by simpa using h x J) w n G H a2 m2 A
 | some i=>
  obtain⟨F,h1,h2⟩:=Zdw.1 h;have:=Alz D l vs s i F hlen vD (fun j M=>by simpa using h2 j M) w n G H a2 m2 A;simp only[Zbs,Zam F,Zaj,Zgo];rw[show(some l[i].number==some true)=l[i].number by cases l[i].number<;>rfl];exact this
theorem Aqc (s t:zS) (a:zO) (m c b:Nat) (w:zN) (U:b<w) (A:w.cell? ⟨b,0,none⟩=some (.string t)):
  Calls prog 141 #[.agg #[s,.slice a m c],zK b] w fun e w'=>e=.returned (.bool (s.toList==t.toList))/\Below w w w':=by
 go_enter func141,ntmps141
 exact Z0N
theorem Ur (s:Ap) (b0:Ef s) (g:zS) (cs:zP) (w:zN) (n:Nat) (J:n<=w) (U:Br w n s cs):
  Calls prog 104 #[.agg cs.toArray,g] w fun e w'=>e=.returned (.tuple #[.int .i64 ((Er s g).getD 0:Nat),.bool (Er s g).isSome])/\Below w w w':=by
 have aa:=U
 obtain⟨v,u,rfl,ah,ae⟩:=U
 obtain⟨F,D,a1,rfl,ai,a8,ac,hI⟩:=ae.rows Cf.len
 obtain⟨W,bm⟩:=zL ((w.alloc (.cells #[s.Aj,v,.slice F s.Ac D] 30)).alloc (.cells #[g] 9))
 refine Z47 ?_
 intro el na
 have a7:W.rangeAt w 0 [s.Aj,v,.slice F s.Ac D]:=by
  rw[<-bm];exact Aa (Ae w _ 30) (Af _) yF
 have af:W.rangeAt (w+1) 0 [g]:=by
  rw[<-bm];have:=Ae (w.alloc (.cells #[s.Aj,v,.slice F s.Ac D] 30)) [g] 9;exact Z1z
 have hlen:s.Ac.length<=20000:=uN
 have H:=T3 141 #[zK (w+1)] (fun _ _=>rfl) F D a1 (fun j=>(s.Ac.map fun x=>x.name.toList==g.toList).getD j false) W n yE yE (ac.below el J) (fun j a3 X az=>by
  have V:j<s.Ac:=yE;obtain⟨v,h1,a2,a4,rfl,_⟩:=hI j V a3;rw[h1];have e:(s.Ac.map fun x=>x.name.toList==g.toList).getD j false=(s.Ac[j].name.toList==g.toList):=by simp[V]
  rw[e];exact Aqc s.Ac[j].name g a2 s.Ac[j].Ai.length a4 _ X xV (Aa af az yE 0 _ rfl))
 rw[a8,Ad8]at H
 have a6:=fun X (az:Below w w X)=>Rd s b0 _ X n (Zag J az.size) (A0.Ab.below aa (az.mono J))
 have ad:=Zaa a6
 have ab:Er s g=s.Ac.findIdx? fun x=>x.name.toList==g.toList:=rfl
 rw[ab]
 have a5:∀i,(s.Ac.findIdx? fun x=>x.name.toList==g.toList)=some i->i<s.Ac.length:=fun i h=>(Zdw.1 h).1
 generalize(s.Ac.findIdx? fun x=>x.name.toList==g.toList)=r at H a5|-
 have a9:=Zaa a7
 have G:=Zaa el
 cases r with
 | none=>
  have O:=Zaa H;subst bm;go_enter func104,ntmps104
  go_wp2_with fail
  refine O.out.mono ?_;rintro e Y ⟨rfl,A⟩;go_wp2_with fail
  go_ret2;exact⟨rfl,G.out.trans (A.mono G.out.size)⟩
 | some i=>
  have O:=Zaa H;subst bm;go_enter func104,ntmps104
  go_wp2_with fail
  refine O.out.mono ?_;rintro e Y ⟨rfl,A⟩;have M:=Aa a9.out A yE;have T:=G.out.trans (A.mono G.out.size);have d0:=M 0 _ rfl;have d1:=M 1 _ rfl;have d2:=M 2 _ rfl;simp only[Zac]at d0 d1 d2;simp only[]at*
  go_wp2_with fail
  refine(ad.out _ T).mono ?_;rintro e ag ⟨rfl,a0⟩;go_wp2_with fail
  go_ret2;exact⟨rfl,T.trans (a0.mono T.size)⟩
end
section
open Tryz Go.RowKit Go.Shelf
theorem Jl (l:List H0) (w:zN) (k m:Nat) (G:k=w.heap.size) (hm:m=l) (hlen:l.length<=100) (Y:∀x∈l,∀args w,(callFunc x.gf args).run prog w=.ok (.enter x.gf args) w)
  (hC:∀x∈l,∀X,Below w w X->Calls prog x.gf x.lb X fun e V=>e=.returned (.bool false)/\Below X X V):
  Calls prog 172 #[.slice (some ⟨k,0,none⟩) m m] (w.alloc (.cells (l.map H0.cells).flatten.toArray 289)) fun e w'=>e=.returned (.int .i64 0)/\Below w w w':=by
 subst G hm
 have U:=Af (w:=w) (.cells (l.map H0.cells).flatten.toArray 289)
 have J:∀cs∈l.map H0.cells,cs.length=2:=fun cs W=>by
  obtain⟨x,_,rfl⟩:=Zfb.1 W;rfl
 refine(Abt l _ _ _ (w.heap.size+1) yF yE (.inr ⟨w,0,rfl,yE,fun i A=>⟨fun j v D=>?_,J _ (Zat A)⟩⟩) Y fun x F X O=>hC x F X (U.trans (O.mono yF))).mono ?_
 ·have T:=J _ (Zat A)
  have M:j<2:=by rw[<-T];exact(Zeg.1 D).1
  have:=Ae w (l.map H0.cells).flatten 289 (i*2+j) v (by rw[flat_get _ J i j A M];exact D);rw[show 0+(i*2+j)=0+i*2+j from yE]at this;exact this
 rintro e a0 ⟨rfl,H⟩
 exact⟨rfl,U.trans (H.mono U.size)⟩
theorem Aaf (s t:zS) (a:zO) (m c b:Nat) (w:zN) (U:b<w) (A:w.cell? ⟨b,0,none⟩=some (.string t)):
  Calls prog 180 #[.agg #[s,.slice a m c],zK b] w fun e w'=>e=.returned (.bool (s.toList==t.toList))/\Below w w w':=by
 go_enter func180,ntmps180
 exact Z0N
theorem Acy (s t u:zS) (num:Bool) (x b:Nat) (w:zN) (U:b<w) (A:w.cell? ⟨b,0,none⟩=some (.string t)):
  Calls prog 174 #[.agg #[s,num,u,.float .f64 x],zK b] w fun e w'=>e=.returned (.bool (s.toList==t.toList))/\Below w w w':=by
 go_enter func174,ntmps174
 exact Z0N
theorem Ang (s:Ap) (i:Nat) (x:Bc) (G:s.Ac[i]? =some x) (F:Th s i x) (hlen:s.Ac.length<=1000) (D jr bi:Nat) (a:zO) (c:Nat) (u:Value) (W:zN) (n:Nat) (T:n<=W)
  (dg:W.rangeAt D 0 [x.name,.slice a x.Ai c]) (dm:W.cell? ⟨jr,2,none⟩=some u) (hu:Al Cf 2 W (fun b=>b<n) s.Ac u) (cd:W.cell? ⟨bi,0,none⟩=some (.int .i64 i)):
  Calls prog 178 #[zK D,zK jr,zK bi] W fun e w'=>e=.returned (.bool false)/\Below W W w':=by
 obtain⟨a6,a4⟩:=Cw G
 obtain⟨A,bb,H,rfl,ae,dn,jv,hI⟩:=hu.rows Cf.len
 have ab:decide ((12:Int) <x.Ai.length)=false:=Zhs (by have:=F.Fm;omega)
 have fv:=Bm dg yF
 have b1:=Jw dm
 have b2:=Jw cd
 have j5:=Zaa (Jt x.name W F.name)
 have ac:=dg 0 _ rfl
 have O:∀X,Below W W X->Calls prog 179 #[.slice A i bb,.func (.func 180) #[] #[zK D]] X fun e w'=>e=.returned (.bool false)/\Below X X w':=by
  intro X az;have a0:(H.take i).length=i:=yJ;have h:=Yx 180 #[zK D] (fun _ _=>rfl) A bb (H.take i) (fun _=>false) X n xV yE ((jv.take i).below az T) (fun j a7 Y a3=>by
   have a5:j<i:=yE;obtain⟨v,h1,h2⟩:=hI j yE yE;obtain⟨U,V,rfl,_⟩:=h2;rw[Zen,h1];have cf:=F.first j s.Ac[j] a5 (Zam yE);have J:=az.trans (a3.mono az.size);have:=Aaf s.Ac[j].name x.name U s.Ac[j].Ai.length V D Y (by have:=J.size;omega) (Aa dg J fv 0 _ rfl);rw[show(s.Ac[j].name.toList==x.name.toList)=false from vO]at this;exact this)
  rw[a0,any_false]at h;exact h
 have cS:=Zaa O
 have a9:(i:Int)<=bb:=yE
 have a1:=dg 0 _ rfl
 have a2:=dg 1 _ rfl
 simp only[Zac]at a1 a2
 have M:A≠none:=by
  exact Z1M
 obtain⟨bf,rfl⟩:∃bf,A=some bf:=by cases A with | none=>exact absurd rfl M | some bf=>exact⟨bf,rfl⟩
 clear O M hI jv F G a4
 exact Z0O
theorem Akh (s:Ap) (i:Nat) (x:Bc) (a1:s.Ac[i]? =some x) (M:Th s i x) (hlen:s.Ac.length<=1000) (cs:zP) (w:zN) (n:Nat) (G:n<=w) (H:Br w n s cs):
  Calls prog 146 #[.agg cs.toArray,i] w fun e w'=>e=.returned (.int .i64 0)/\Below w w w':=by
 obtain⟨v,u,rfl,V,ko⟩:=H
 obtain⟨F,q2⟩:=Cw a1
 obtain⟨O,bb,rfl,Y,e2⟩:=ko.at
 obtain⟨b,o,rfl,U,T,h1,h2⟩:=e2 i F
 rw[q2]at h2
 obtain⟨a0,rfl,J⟩:=h2
 obtain⟨fp,rc,rfl,_⟩:=J
 refine Z2A ?_
 intro W bm el na c4 dt du
 have hr:=Zaa (Jl [⟨303,178,#[zK (w+2),zK w,zK (w+1)]⟩] W (w+3) 1 na.symm rfl yF uM
  (by
   intro y hy X A;simp only[Zbf]at hy;subst hy;have D:=el.trans (A.mono yE);have:=D.size;exact Ang s i x a1 M hlen _ _ _ fp rc _ X n yE (Aa du A yE) (Aa c4 A yE 2 _ rfl) ((Al.Ab Cf.Ab).below ko (D.mono G)) (Aa dt A yE 0 _ rfl)))
 exact Z3E
end
end Go.Proofs.YtafmoofknjncpaaGreatDoor
