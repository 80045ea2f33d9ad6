/- A part of the proof that ModelWrong holds: its theorems stand as they are typed. -/
import Derived.Test.YtafmoofknjncpaaGreatDoorE
set_option linter.all false
set_option maxRecDepth 100000
set_option maxHeartbeats 8000000
namespace Go.Proofs.YtafmoofknjncpaaGreatDoor
section
open Tryz Go.RowKit Go.Shelf
def Hi {α:Type} (f:α->Nat) (l:List α) (i:Nat):Nat:=((l.drop i).map f).sum
theorem O1 {α:Type} (f:α->Nat) (l:List α) (i:Nat) (h:i<l):Hi f l i=f l[i]+Hi f l (i+1):=by
 unfold Hi;rw[Zbq h,Zbi,Zfm]
theorem Qo {α:Type} (f:α->Nat) (l:List α):Hi f l l.length=0:=by simp[Hi]
theorem Ib {α:Type} (f:α->Nat) (l:List α):Hi f l 0=(l.map f).sum:=by simp[Hi]
theorem Lo {α:Type} (f:α->Nat) (l:List α) (h:∀x∈l,1<=f x):l.length<=(l.map f).sum:=by
 induction l with
 | nil=>simp
 | cons a r A=>simp only[Zao,Zbi,Zfm];have:=h a yF;have:=A fun x a1=>h x xP;omega
theorem Bj.open {w:zN} {n:Nat} {r:A7} {cs:zP} (h:Fo w n r cs):
  ∃(z0:UInt8) (A z2 z3 z4:UInt64) (z5 G:Int) (D:zO) (F z9:Nat) (v:Value),cs=[.int .u8 r.kind.toNat,.bool r.Bh,.bool r.Bp,.int .u8 z0.toNat,.int .u64 A.toNat,.int .u64 z2.toNat,.int .u64 z3.toNat,.int .u64 z4.toNat,.int .i64 z5,.int .i64 G,.slice D F z9,.string r.text,.int .i64 r.Az,v,.string r.A3,.int .i64 r.Bl]/\
   Bo w n r.Bu [z0,A,z2,z3,z4,z5,G,.slice D F z9]/\Al C2 8 w (fun b=>b<n) r.Aw v:=by
 obtain⟨J,v,rfl,H,hA⟩:=h
 have M:Bo w n r.Bu J:=H
 obtain⟨z0,A,z2,z3,z4,z5,G,D,F,z9,rfl⟩:=Bo.eight M
 exact⟨z0,A,z2,z3,z4,z5,G,D,F,z9,v,rfl,H,hA⟩
theorem C2.open {w:zN} {n:Nat} {r:Dv} {cs:zP} (h:Aht w n r cs):
  ∃(z0:UInt8) (A:Nat) (z2:zS) (z3:Int) (D:zO) (F z9:Nat) (v:Value),cs=[.int .u8 r.kind.toNat,.string r.name,v,.int .u8 z0.toNat,.float .f64 A,.string z2,.int .i64 z3,.slice D F z9]/\
   Ch w n r.Bw [z0,.float .f64 A,z2,z3,.slice D F z9]/\Al Bz 8 w (fun b=>b<n) r.Ay v:=by
 obtain⟨v,es,rfl,hA,G⟩:=h
 have H:Ch w n r.Bw es:=G
 obtain⟨z0,A,z2,z3,D,F,z9,rfl⟩:=Ch.G2 H
 exact⟨z0,A,z2,z3,D,F,z9,v,rfl,G,hA⟩
theorem Bz.open {w:zN} {n:Nat} {r:Dl} {cs:zP} (h:L0 w n r cs):
  ∃(z0:UInt8) (A:Nat) (z2:zS) (z3:Int) (D:zO) (F z9:Nat),cs=[.int .u8 r.kind.toNat,.string r.text,.int .i64 r.group,.int .u8 z0.toNat,.float .f64 A,.string z2,.int .i64 z3,.slice D F z9]/\
   Ch w n r.Bw [z0,.float .f64 A,z2,z3,.slice D F z9]:=by
 obtain⟨es,rfl,G⟩:=h
 have H:Ch w n r.Bw es:=G
 obtain⟨z0,A,z2,z3,D,F,z9,rfl⟩:=Ch.G2 H
 exact⟨z0,A,z2,z3,D,F,z9,rfl,G⟩
theorem Rd (s:Ap) (af:Ef s) (cs:zP) (w:zN) (n:Nat) (M:n<=w) (bb:Br w n s cs):
  Calls prog 24 #[.agg cs.toArray] w fun e w'=>e=.returned (.bool true)/\Below w w w':=by
 obtain⟨v,u,rfl,bH,aX⟩:=bb
 obtain⟨bi,bl,rfl,-⟩:=bH
 obtain⟨bk,bd,rfl,-,aR⟩:=aX.at
 obtain⟨T,ay⟩:=zL (s.An.length+s.Ac.length+Hi Bc.size s.Ac 0)
 have ch:T<=20000:=by rw[<-ay,Ib];exact af.size
 have H:=af.Bu
 have F:=af.act
 have bp:=Af (w:=w) (.cells #[s.Aj,.slice bi s.An bl,.slice bk s.Ac bd] 30)
 have c6:s.Ac.length<=20000:=yE
 have b0:=Zaa aR
 have bG:=Zaa H
 have bS:=Zaa F
 clear aR H F aX af
 go_enter func24,ntmps24
 go_wp2_with fail
 go_step3
 go_wp2_with fail
 go_step3
 go_wp2_with fail
 go_loopw [3,22] (fun x v wr=>∃i t:Nat,i<=s.Ac/\x=.int .i64 t/\v=.int .i64 i/\t+Hi Bc.size s.Ac i=T/\Below w w wr) (fun _ v _=>s.Ac.length - (intOf v).toNat)
 case atStart=>exact⟨0,s.An.length+s.Ac.length,Zap _,yK,rfl,ay,bp⟩
 case round=>
  obtain⟨i,t,c0,rfl,rfl,A,U⟩:=hrel;by_cases ad:i<s.Ac
  ·have cg:(i:Int) <s.Ac.length:=by omega
   obtain⟨b,o,rfl,cd,ao,h1,h2⟩:=b0.out i ad;obtain⟨cj,rfl,bR⟩:=h2;obtain⟨bC,rc,rfl,-,b6⟩:=bR.at;rw[O1 _ _ _ ad]at A;have H:=bG.out _ (Zat ad);have F:=bS.out _ (Zat ad);generalize aV:Hi Bc.size s.Ac (i+1)=aE at A;have O:s.Ac[i].size=Hi A7.size s.Ac[i].Ai 0:=by rw[Ib];rfl
   rw[O]at A;have aW:s.Ac[i].Ai.length<=20000:=by
    have:s.Ac[i].Ai.length<=Hi A7.size s.Ac[i].Ai 0:=rH;omega
   generalize s.Ac[i]=st at*
   refine Z1c ?_;intro d0 d1;have bh:=Zaa b6;have bT:=Zaa H;have bE:=Zaa F;have ca:=Zaa b0;have bs:=Zaa aV;clear b6 H F h1 O aV;go_wp2_with fail
   have D:Below w w (wr.alloc (.cells #[st.name,.slice bC st.Ai rc] 37)):=U.alloc U.size _;clear d0 d1;go_loopw [3,29] (fun x v wr=>∃k t:Nat,k<=st.Ai/\x=.int .i64 t/\v=.int .i64 k/\t+(Hi A7.size st.Ai k+aE)=T/\Below w w wr) (fun _ v _=>st.Ai.length - (intOf v).toNat)
   case atStart=>exact⟨0,t,Zap _,rfl,rfl,A,D⟩
   case round=>
    clear A D U;obtain⟨k,t,bX,rfl,rfl,A,U⟩:=hrel;by_cases aj:k<st.Ai
    ·have c7:(k:Int) <st.Ai.length:=by omega
     obtain⟨b2,cf,rfl,c2,ao,h1,h2⟩:=bh.out k aj;obtain⟨z0,az,z2,z3,z4,z5,aP,aD,aG,z9,v,rfl,al,b9⟩:=Bj.open h2;obtain⟨aS,ac,rfl,-,aw⟩:=b9.at;rw[O1 _ _ _ aj]at A;have H:=bT.out _ (Zat aj);have F:=bE.out _ (Zat aj);generalize aZ:Hi A7.size st.Ai (k+1)+aE=aF;have O:st.Ai[k].size=1+st.Ai[k].Bu.size+Hi Dv.size st.Ai[k].Aw 0:=by rw[Ib];rfl
     rw[O]at A;have aW:st.Ai[k].Aw.length<=20000:=by
      have:st.Ai[k].Aw.length<=Hi Dv.size st.Ai[k].Aw 0:=by rw[Ib];exact Lo _ _ (fun r _=>by unfold Dv.size;omega)
      omega
     generalize st.Ai[k]=r at*
     have aq:=Aa h1 U yE;refine Z0I ?_;intro d0 d1 d2 d3 d4 d5 d6 d7;refine Z34 ?_;intro d8 d9 d10 d11 d12 d13 d14 d15;simp only[Zaf]at d0;have D:Below w w (wr.alloc (.cells #[r.kind,r.Bh,r.Bp,z0,az,z2,z3,z4,z5,aP,.slice aD aG z9,r.text,r.Az,.slice aS r.Aw ac,r.A3,r.Bl] 48)):=U.alloc U.size _;have a9:=Ae wr [r.kind,r.Bh,r.Bp,z0,az,z2,z3,z4,z5,aP,.slice aD aG z9,r.text,r.Az,.slice aS r.Aw ac,r.A3,r.Bl] 48;have aJ:=Zaa (Aam r.Bu _ _ n H (Zag M D.size) (al.below (D.mono M)));have aY:=Zaa fun X (h:Below w w X)=>Iz r.Bu _ X n H (Zag M h.size) (al.below (h.mono M))
     have aH:min (r.Bu.size:Int) 20000=r.Bu.size:=yE;have aN:=Zaa aH;have bo:=Zaa aw;have bI:=Zaa F;have aO:=Zaa aZ;have c3:r.Bu.size<=10000:=H;generalize bm:r.Bu.size=bw at*
     clear aH bm aw F aZ h1 aq O H;go_wp2_with fail
     refine aJ.out.mono ?_;rintro e bY ⟨rfl,ak⟩;have ah:=D.trans (ak.mono D.size);have G:=Aa a9 ak yF;have aU:=G 3 _ rfl;have b3:=G 4 _ rfl;have av:=G 5 _ rfl;have aA:=G 6 _ rfl;have b7:=G 7 _ rfl;have aL:=G 8 _ rfl;have aM:=G 9 _ rfl;have aQ:=G 10 _ rfl;simp only[Zac]at aU b3 av aA b7 aL aM aQ;clear d0 d1 d2 d3 d4 d5 d6 d7 d8 d9 d10 d11 d12 d13 d14 d15;go_wp2_with fail
     refine(aY.out _ ah).mono ?_;rintro e bZ ⟨rfl,ax⟩;have b5:=ah.trans (ax.mono ah.size);have bD:=ak.size;have bj:=Aa G ax (by simp at bD;omega) 13 _ rfl;simp only[Zac]at bj;clear aU b3 av aA b7 aL aM aQ a9 G D ah U;rw[aN.out];clear aJ aY aN al;go_wp2_with fail
     go_loopw [3,49] (fun x v wr=>∃m t:Nat,m<=r.Aw/\x=.int .i64 t/\v=.int .i64 m/\t+(Hi Dv.size r.Aw m+aF)=T/\Below w w wr) (fun _ v _=>r.Aw.length - (intOf v).toNat)
     case atStart=>exact⟨0,t+(1+bw),Zap _,yK,rfl,by have:=aO.out;omega,b5⟩
     case round=>
      clear A b5;obtain⟨m,t,hm,rfl,rfl,A,U⟩:=hrel;by_cases au:m<r.Aw
      ·have c8:(m:Int) <r.Aw.length:=by omega
       obtain⟨ce,ci,rfl,c4,ao,h1,h2⟩:=bo.out m au;obtain⟨Y,a2,a3,a4,a5,a6,a7,v,rfl,ab,bM⟩:=C2.open h2;obtain⟨a1,a0,rfl,-,aB⟩:=bM.at;rw[O1 _ _ _ au]at A;have F:=bI.out _ (Zat au);generalize b4:Hi Dv.size r.Aw (m+1)+aF=aI;have O:r.Aw[m].size=1+r.Aw[m].Bw.size+r.Aw[m].Ay.length+Hi (fun p=>p.Bw.size) r.Aw[m].Ay 0:=by rw[Ib];rfl
       rw[O]at A;generalize r.Aw[m]=a at*
       have aW:a.Ay.length<=20000:=yE;have aq:=Aa h1 U yE;have d0:=aq 0 _ rfl;have d1:=aq 1 _ rfl;have d2:=aq 2 _ rfl;have d3:=aq 3 _ rfl;have d4:=aq 4 _ rfl;have d5:=aq 5 _ rfl;have d6:=aq 6 _ rfl;have d7:=aq 7 _ rfl;simp only[Zaf]at d0;have a9:=Ae wr [a.kind,a.name,.slice a1 a.Ay a0,Y,.float .f64 a2,a3,a4,.slice a5 a6 a7] 120;have b1:(wr.alloc (.cells #[a.kind,a.name,.slice a1 a.Ay a0,Y,.float .f64 a2,a3,a4,.slice a5 a6 a7] 120)).heap.size=wr.heap.size+1:=yF;have D:Below w w (wr.alloc (.cells #[a.kind,a.name,.slice a1 a.Ay a0,Y,.float .f64 a2,a3,a4,.slice a5 a6 a7] 120)):=U.alloc U.size _;have br:=Zaa aB;have aK:=Zaa b4;have bV:=F.1;have bn:=Zaa F.2;clear F O aB b4 h1 aq;go_wp2_with fail
       clear d0 d1 d2 d3 d4 d5 d6 d7;generalize wr.alloc (.cells #[a.kind,a.name,.slice a1 a.Ay a0,Y,.float .f64 a2,a3,a4,.slice a5 a6 a7] 120)=ae at a9 b1 D|-;have aa:(ae.drewN 1).rangeAt wr 0 [a.kind,a.name,.slice a1 a.Ay a0,Y,.float .f64 a2,a3,a4,.slice a5 a6 a7]:=Ag a9 yN;have a8:Below w w (ae.drewN 1):=below_drewN D D.size 1;have bQ:(ae.drewN 1).heap.size=wr.heap.size+1:=by rw[Zhg];exact b1
       refine C1 [(0,.inl none),(1,.inl none),(2,.inl (some 0)),(5,.inl none),(6,.inl (some 0)),(7,.inl none),(3,.inr [0]),(4,.inl none),(8,.inl none),(9,.inl none),(10,.inl none)]
        (fun _ W=>W.rangeAt wr 0 [a.kind,a.name,.slice a1 a.Ay a0,Y,.float .f64 a2,a3,a4,.slice a5 a6 a7]) yG yG (fun _=>aa) ?_
       refine Z3s ?_;generalize ae.drewN 1=bf at aa a8 bQ|-;have aT:=Zaa (Acf a.Bw _ bf n bV (Zag M a8.size) (ab.below (a8.mono M)));generalize ap:a.Bw.size=xs at*
       clear ap ab;refine Z2m ?_;refine Z2m ?_;refine Av (.agg #[Y,.float .f64 a2,a3,a4,.slice a5 a6 a7]) yI (fun w' V=>?_) (fun K J=>?_)
       ·have bz:=V 3 _ rfl
        have bB:=V 4 _ rfl;have bJ:=V 5 _ rfl;have bL:=V 6 _ rfl;have bK:=V 7 _ rfl;simp only[Zac]at bz bB bJ bL bK;go_simp
       refine Z42 ?_;clear J K;refine Z2m ?_;refine Av (.slice a1 a.Ay a0) yI (fun w' V=>?_) (fun K J=>?_)
       ·have bu:=V 2 _ rfl
        simp only[Zac]at bu;go_simp
       refine Z42 ?_;clear J K;refine Z2m ?_;refine Ci (fun K J=>?_) (Bg aa);go_wp2_with fail
       refine aT.out.mono ?_;rintro e bc ⟨rfl,ag⟩;go_wp2_with fail
       have an:=Aa aa ag yE;refine J _ _ (Bg an) ?_;clear J K;refine Z4w ?_;refine C7 ?_;have ai:=a8.trans (ag.mono a8.size);have bx:=an 2 _ rfl;simp only[Zac]at bx;clear aa a8 a9 D an aT;go_wp2_with fail
       go_loopw [3,66] (fun x v wr=>∃l t:Nat,l<=a.Ay/\x=.int .i64 t/\v=.int .i64 l/\t+(Hi (fun p=>p.Bw.size) a.Ay l+aI)=T/\Below w w wr) (fun _ v _=>a.Ay.length - (intOf v).toNat)
       case atStart=>
        have bN:IntKind.i64.wrap (1+(xs:Int))=1+xs:=Zcy _ yE;have bP:IntKind.i64.wrap (1+(xs:Int)+a.Ay)=1+xs+a.Ay:=Zcy _ yE;have bO:IntKind.i64.wrap ((t:Int)+(1+xs+a.Ay.length))=t+(1+xs+a.Ay.length):=Zcy _ yE;refine⟨0,t+(1+xs+a.Ay.length),Zap _,?_,rfl,by have:=aK.out;omega,ai⟩;rw[bN,bP,bO];exact Zhr _ yE
       case round=>
        clear A ai;obtain⟨l,t,c1,rfl,rfl,A,U⟩:=hrel;by_cases am:l<a.Ay
        ·have c9:(l:Int) <a.Ay.length:=by omega
         obtain⟨bW,c5,rfl,cb,ao,h1,h2⟩:=br.out l am;obtain⟨be,q1,bA,bF,bU,b8,ba,rfl,ab⟩:=Bz.open h2;rw[O1 _ _ _ am]at A;have bg:=bn.out _ (Zat am);generalize aC:Hi (fun p=>p.Bw.size) a.Ay (l+1)+aI=cc;generalize a.Ay[l]=p at*
         have aq:=Aa h1 U yE;refine Z0I ?_;intro d0 d1 d2 d3 d4 d5 d6 d7;simp only[Zaf]at d0;have D:Below w w (wr.alloc (.cells #[p.kind,p.text,p.group,be,.float .f64 q1,bA,bF,.slice bU b8 ba] 124)):=U.alloc U.size _;have bq:=Zaa (Acf p.Bw _ _ n bg (Zag M D.size) (ab.below (D.mono M)));have bt:=Zaa aC;generalize ap:p.Bw.size=bv at*
         have hle:¬((20000:Int) <t):=yE;clear aC h1 aq ab ap;go_wp2_with fail
         refine bq.out.mono ?_;rintro e bc ⟨rfl,ag⟩;have ai:=D.trans (ag.mono D.size);clear d0 d1 d2 d3 d4 d5 d6 d7;go_wp2_with fail
         go_roundw
         case rel=>exact⟨l+1,t+bv,yE,yK,yK,by have:=bt.out;omega,ai⟩
         case measure=>simp[intOf];omega
        obtain rfl:l=a.Ay:=by omega
        have ar:¬((a.Ay.length:Int) <a.Ay.length):=yE;rw[Qo]at A;go_wp2_with fail
        go_roundw
        case rel=>exact⟨m+1,t,yE,rfl,yK,by have:=aK.out;omega,U⟩
        case measure=>simp[intOf];omega
      obtain rfl:m=r.Aw:=by omega
      have ar:¬((r.Aw.length:Int) <r.Aw.length):=yE;rw[Qo]at A;have hle:¬((20000:Int) <t):=yE;go_wp2_with fail
      go_roundw
      case rel=>exact⟨k+1,t,yE,rfl,yK,by have:=aO.out;omega,U⟩
      case measure=>simp[intOf];omega
    obtain rfl:k=st.Ai:=by omega
    have ar:¬((st.Ai.length:Int) <st.Ai.length):=yE;rw[Qo]at A;go_wp2_with fail
    go_roundw
    case rel=>exact⟨i+1,t,yE,rfl,yK,by rw[bs.out];omega,U⟩
    case measure=>simp[intOf];omega
  obtain rfl:i=s.Ac:=by omega
  have ar:¬((s.Ac.length:Int) <s.Ac.length):=yE;rw[Qo]at A;have hle:(t:Int)<=20000:=yE;go_wp2_with fail
  go_ret;exact⟨yK,U⟩
end
section
open Tryz Go.RowKit Go.Shelf
def Di (_w:zN) (_S:zT) (x:Int) (cs:zP):Prop:=cs=[.int .i64 x]
theorem Di.Ab:Cp Di:=fun _ _ _ _ _ _ _ _ h=>h
def Gk {α:Type} (I:World->(Nat->Prop)->α->Value->Prop) (w:zN) (S:zT) (x:α) (cs:zP):Prop:=∃v,cs=[v]/\I w S x v
theorem Gk.Ab {α:Type} {I:World->(Nat->Prop)->α->Value->Prop} (hI:Cp I):Cp (Gk I):=by
 rintro w w' S S' x cs A hm ⟨v,rfl,h⟩;exact⟨v,rfl,hI _ _ _ _ _ _ A hm h⟩
def weight (r:A7):Nat:=if r.kind=1 then r.Bu.size else 0
def El (s:Ap):List (List Int):=(List.range s.Ac).map fun i=>((s.Ac[i]?).elim [] fun x=>(List.range x.Ai).map fun k=>((Fv s i k:Nat):Int))
theorem Ha {α:Type} (f:α->Nat):∀(l:List α) (x:α),x∈l->f x<=(l.map f).sum
 | y::r,x,h=>by
  simp only[Zbi,Zfm];rcases List.mem_cons.1 h with rfl | h
  ·omega
  ·have:=Ha f r x h;omega
theorem Pn {α:Type} (f:α->Nat):∀(l:List α) (k:Nat),((l.take k).map f).sum<=(l.map f).sum
 | [],k=>yF
 | a::r,0=>yF
 | a::r,k+1=>by
  simp only[Zfq,Zbi,Zfm];have:=Pn f r k;omega
theorem Qn {α:Type} (f g:α->Nat):∀(l:List α),(∀x∈l,f x<=g x)->(l.map f).sum<=(l.map g).sum
 | [],_=>yF
 | a::r,h=>by
  simp only[Zbi,Zfm];have:=Qn f g r (fun x a1=>h x xP);have:=h a yF;omega
theorem Ud (l:List A7) (k:Nat):Cu (l.take k)<=Cu l:=Pn _ l k
theorem Ac7 (x:Bc):Cu x.Ai<=x.size:=Qn _ _ _ fun r _=>by unfold A7.size;split<;>omega
def J4 (s:Ap) (i:Nat):Nat:=((s.Ac.take i).map fun x=>Cu x.Ai).sum
def I4 (s:Ap) (i:Nat) (l:List A7):List Int:=(List.range l).map fun k=>((J4 s i+Cu (l.take (k+1)):Nat):Int)
theorem Qm (s:Ap) (i:Nat) (x:Bc) (h:s.Ac[i]? =some x):(El s)[i]? =some (I4 s i x.Ai):=by
 obtain⟨A,rfl⟩:=Zeg.1 h;have D:(El s).length=s.Ac.length:=by simp[El]
 rw[Zam yE];simp[El,I4,Fv,J4,A]
theorem Yh (s:Ap) (i:Nat) (A:i<s.Ac):J4 s (i+1)=J4 s i+Cu s.Ac[i].Ai:=by
 unfold J4;rw[Zay A,Zet,Zfl];simp only[Zbi,Zeu,Zfm,Zfn,Zaf]
theorem Apl (s:Ap) (i:Nat):J4 s i<=(s.Ac.map Bc.size).sum:=Zag (Pn _ _ _) (Qn _ _ _ fun x _=>Ac7 x)
theorem Au.P4 {α:Type} {I:World->(Nat->Prop)->α->List Value->Prop} {w:zN} {lo K:Nat} {e:TypeId} {v:Value} {l:List α} (h:Au I lo e K w l v) (n:Nat) (A:l=n):∃a c,v=.slice a n c/\n<=c:=by subst A;exact h.shape
theorem Zc (l:List A7) (k:Nat) (A:k<l):Cu (l.take (k+1))=Cu (l.take k)+weight l[k]:=by
 unfold Cu;rw[Zay A,Zet,Zfl];simp only[Zbi,Zeu,Zfm,Zfn,Zaf,weight]
theorem Au.Ark {α:Type} {I:World->(Nat->Prop)->α->List Value->Prop} {w:zN} {lo K:Nat} {e:TypeId} {v:Value} {l:List α} (h:Au I lo e K w l v) (S:zT) (H:∀b,v.ownBlock=some b->S b) (hI:∀x cs,I w (fun b=>b<w.heap.size/\some b≠v.ownBlock) x cs->I w S x cs):Al I K w S l v:=by
 obtain⟨F,h1,h2,h3⟩:=h;obtain⟨a,c,rfl,M⟩:=h1.shape;refine⟨a,c,by rw[h2],yE,?_⟩;rcases h1.at_ with h0 | ⟨g,O,G,_,J,A⟩
 ·left;rw[h0]at h2;exact Zeo.1 h2.symm
 cases G;exact .inr ⟨g,0,rfl,H g rfl,fun i D=>⟨F[i]'yE,A i yE,hI _ _ (h3 i D yE)⟩⟩
theorem Ie:(prog.info? 3).map (fun i=>(i.size,i.bytes,i.zero.map fun z=>z.cells.size))=some (1,8,some 1):=yG
theorem Hs:prog.underlying 160=some (.slice 3):=yG
theorem Ag3:(prog.info? 160).map (fun i=>(i.size,i.bytes,i.zero.map fun z=>z.cells.size))=some (1,24,some 1):=yG
theorem Ac2:prog.underlying 227=some (.slice 160):=yG
theorem Afo (s:Ap) (b0:Ef s) (cs:zP) (w:zN) (n:Nat) (ar:n<=w) (aX:Br w n s cs):
  Calls prog 119 #[.agg cs.toArray] w fun e w'=>∃v,e=.returned v/\Al (Gk (Al Di 1)) 1 w' (fun b=>b<w') (El s) v/\Below w w w':=by
 obtain⟨v,u,rfl,bk,aP⟩:=aX
 obtain⟨aA,aE,rfl,-⟩:=bk
 obtain⟨aC,aw,rfl,-,aM⟩:=aP.at
 have H:=b0.Bu
 have aF:=Af (w:=w) (.cells #[s.Aj,.slice aA s.An aE,.slice aC s.Ac aw] 30)
 have bz:s.Ac.length<=20000:=uN
 have aN:∀i (J:i<s.Ac.length),Hi A7.size s.Ac[i].Ai 0<=20000:=fun i J=>by
  have h1:=b0.size;have h2:s.Ac[i].size<=(s.Ac.map Bc.size).sum:=Ha Bc.size s.Ac _ (Zat J);unfold Ap.size at h1;rw[Ib];have h3:s.Ac[i].size=(s.Ac[i].Ai.map A7.size).sum:=rfl;omega
 have aQ:∀i k (J:i<s.Ac.length),J4 s i+Cu (s.Ac[i].Ai.take k)<=20000:=fun i k J=>by
  have h1:=b0.size;unfold Ap.size at h1;have h2:J4 s i+Cu s.Ac[i].Ai=J4 s (i+1):=(Yh s i J).symm;have h3:J4 s (i+1)<=(s.Ac.map Bc.size).sum:=Apl s (i+1);have h4:=Ud s.Ac[i].Ai k;omega
 have bn:=Zaa aM
 have bj:=Zaa H
 have b3:=Zaa aN
 have bb:=Zaa aQ
 have aR:Au (Gk (Al Di 1)) w 160 1 (w.alloc (.cells #[s.Aj,.slice aA s.An aE,.slice aC s.Ac aw] 30)) ((El s).take 0) (.slice none 0 0):=Au.nil _ _ _ _ _
 have bK:(El s).length=s.Ac.length:=by simp[El]
 clear aM H aP b0 aN aQ
 go_enter func119,ntmps119
 go_wp2_with fail
 go_loopw [3,4,13] (fun x u v wr=>∃i:Nat,i<=s.Ac.length/\x=.int .i64 (J4 s i:Nat)/\v=.int .i64 i/\Au (Gk (Al Di 1)) w 160 1 wr ((El s).take i) u/\Below w w wr) (fun _ _ v _=>s.Ac.length - (intOf v).toNat)
 case atStart=>exact⟨0,Zap _,by simp[J4],rfl,aR,aF⟩
 case round=>
  clear aR aF;obtain⟨i,J,rfl,rfl,O,U⟩:=hrel;have k8:((El s).take i).length=i:=yJ;obtain⟨aa,gc,rfl,-⟩:=O.P4 i k8;by_cases M:i<s.Ac.length
  ·have bE:(i:Int) <s.Ac.length:=by omega
   obtain⟨b,o,rfl,bC,bg,h1,h2⟩:=bn.out i M;obtain⟨bJ,rfl,bp⟩:=h2;obtain⟨ah,rc,rfl,-,aT⟩:=bp.at;have H:=bj.out _ (Zat M);have b7:=b3.out i M;have aU:=fun k=>bb.out i k M
   have aG:=Qm s i s.Ac[i] (Zam M);have aS:=Yh s i M;generalize s.Ac[i]=st at*
   have bF:st.Ai.length<=20000:=by
    have:st.Ai.length<=Hi A7.size st.Ai 0:=rH;omega
   refine Z1c ?_;intro d0 d1;have b4:=Zaa aT;have bq:=Zaa H;have ba:=Zaa aU;have br:=Zaa aG;have bo:=Zaa aS;clear aT H h1 b7 aU aG aS;generalize ay:J4 s i=A at*
   have b1:=Zaa ay;clear ay;go_wp2_with fail
   have W:Below w w (wr.alloc (.cells #[st.name,.slice ah st.Ai rc] 37)):=U.alloc U.size _;have aj:=O.alloc (Gk.Ab (Al.Ab Di.Ab)) (.cells #[st.name,.slice ah st.Ai rc] 37);have b9:(Value.slice aa i gc).ownBlock=none\/∃g,(Value.slice aa i gc).ownBlock=some g/\g<wr.heap.size:=by
    cases aW:(Value.slice aa i gc).ownBlock with
    | none=>exact .inl rfl
    | some g=>exact .inr ⟨g,rfl,(O.lt g aW).2⟩
   clear O U d0 d1;generalize ic:wr.alloc (.cells #[st.name,.slice ah st.Ai rc] 37)=F at W aj|-;have bG:F.heap.size=wr+1:=xS;clear ic;go_loopw [3,7,20] (fun x u v wr=>∃k:Nat,k<=st.Ai.length/\x=.int .i64 (A+Cu (st.Ai.take k):Nat)/\v=.int .i64 k/\Au Di F 3 1 wr ((I4 s i st.Ai).take k) u/\Below F F wr) (fun _ _ v _=>st.Ai.length - (intOf v).toNat)
   case atStart=>exact⟨0,Zap _,by simp[Cu],rfl,Au.nil _ _ _ _ _,Zai _ _⟩
   case round=>
    obtain⟨k,bs,rfl,rfl,hI,a3⟩:=hrel;have bL:(I4 s i st.Ai).length=st.Ai.length:=by simp[I4]
    have G:((I4 s i st.Ai).take k).length=k:=yJ;obtain⟨bv,bw,rfl,-⟩:=hI.P4 k G;have ai:Below w w wr:=W.trans (a3.mono W.size);by_cases am:k<st.Ai.length
    ·have bA:(k:Int) <st.Ai.length:=by omega
     obtain⟨b2,bD,rfl,bx,bg,h1,h2⟩:=b4.out k am;obtain⟨z0,a5,z2,z3,z4,z5,a9,a6,a7,z9,v,rfl,ax,aV⟩:=Bj.open h2;obtain⟨ab,ac,rfl,-⟩:=aV;have H:=bq.out _ (Zat am);have az:=Zc st.Ai k am;have ae:=ba.out (k+1);have aK:(I4 s i st.Ai).take (k+1)=(I4 s i st.Ai).take k++[((A+Cu (st.Ai.take (k+1)):Nat):Int)]:=by
      rw[Zay yE];simp[I4,b1.out]
     have aI:=Zaa aK;generalize b8:st.Ai[k]=r at*
     have aq:=Aa h1 ai yE;refine Z0I ?_;intro d0 d1 d2 d3 d4 d5 d6 d7;refine Z34 ?_;intro d8 d9 d10 d11 d12 d13 d14 d15;simp only[Zaf]at d0;have a0:Below F F (wr.alloc (.cells #[r.kind,r.Bh,r.Bp,z0,a5,z2,z3,z4,z5,a9,.slice a6 a7 z9,r.text,r.Az,.slice ab r.Aw ac,r.A3,r.Bl] 48)):=a3.alloc a3.size _;have bm:=Ae wr [r.kind,r.Bh,r.Bp,z0,a5,z2,z3,z4,z5,a9,.slice a6 a7 z9,r.text,r.Az,.slice ab r.Aw ac,r.A3,r.Bl] 48;have ak:=hI.alloc Di.Ab (.cells #[r.kind,r.Bh,r.Bp,z0,a5,z2,z3,z4,z5,a9,.slice a6 a7 z9,r.text,r.Az,.slice ab r.Aw ac,r.A3,r.Bl] 48);have an:Below w w (wr.alloc (.cells #[r.kind,r.Bh,r.Bp,z0,a5,z2,z3,z4,z5,a9,.slice a6 a7 z9,r.text,r.Az,.slice ab r.Aw ac,r.A3,r.Bl] 48)):=W.trans (a0.mono W.size);have h63:k+1<=maxLen/\(k+1)*8<=140737488355328:=⟨yP,yE⟩;have iy:=Zaa h63;have ag:=Zaa az;clear h63 az aK h1 aq b8;by_cases T:r.kind=1
     ·have bl:((r.kind.toNat:Int)==1)=true:=H4 T
      have hw:weight r=r.Bu.size:=if_pos T;have b5:=Zaa (Aam r.Bu _ _ n H (Zag ar an.size) (ax.below (an.mono ar)));have aO:=Zaa hw;have bH:A+Cu (st.Ai.take k)+r.Bu.size<=20000:=by rw[ag.out,aO.out]at ae;omega
      have a4:(A+Cu (st.Ai.take (k+1)):Nat)=A+Cu (st.Ai.take k)+r.Bu.size:=by rw[ag.out,aO.out];omega
      have ad:=Zaa a4;clear a4 hw T ae;generalize a1:A+Cu (st.Ai.take (k+1))=V at*
      generalize a2:A+Cu (st.Ai.take k)=a8 at*
      have al:=Zaa (show((V:Nat):Int)=((A+Cu (st.Ai.take (k+1)):Nat):Int)by rw[a1]);have bd:=Zaa a2;clear a1 a2;generalize r.Bu.size=bf at*
      go_wp2_with fail
      refine b5.out.mono ?_;rintro e bt ⟨rfl,ao⟩;have aZ:=ak.below Di.Ab ao (Zab _);have aH:=a0.trans (ao.mono a0.size);have bh:=aH.size;clear d0 d1 d2 d3 d4 d5 d6 d7 d8 d9 d10 d11 d12 d13 d14 d15 hI ak an bm ax;have bB:((a8:Int)+bf)=(V:Nat):=by rw[ad.out];omega
      go_wp2_with (at_builtin;go_loud (refine Am Di.Ab rfl _ _ 160 rfl F.heap.size 3 1 8 Hs Ie yH _ _ rfl aZ _ _ rfl yF rfl rfl yL (by rw[G];exact iy.out.1) (by rw[G];exact iy.out.2) yE ?_;intro au av ap D aD Y _ _ _))
      try rw[G]at D
      rw[<-aI.out]at D;go_roundw
      case rel=>exact⟨k+1,yE,by rw[<-al.out],yK,D,aH.trans Y⟩
      case measure=>simp[intOf];omega
     have bl:((r.kind.toNat:Int)==1)=false:=D4 T;have hw:weight r=0:=if_neg T;have a4:(A+Cu (st.Ai.take (k+1)):Nat)=A+Cu (st.Ai.take k):=by rw[ag.out,hw];omega
     have ad:=Zaa a4;clear a4 hw T ae;generalize a1:A+Cu (st.Ai.take (k+1))=V at*
     generalize a2:A+Cu (st.Ai.take k)=a8 at*
     have al:=Zaa (show((V:Nat):Int)=((A+Cu (st.Ai.take (k+1)):Nat):Int)by rw[a1]);have bd:=Zaa a2;clear a1 a2;have bh:=a0.size;have aB:=Zaa (show(a8:Int)=((V:Nat):Int)by rw[ad.out]);go_wp2_with (at_builtin;go_loud (refine Am Di.Ab rfl _ _ 160 rfl F.heap.size 3 1 8 Hs Ie yH _ _ rfl ak _ _ rfl yF rfl rfl yL (by rw[G];exact iy.out.1) (by rw[G];exact iy.out.2) yE ?_;intro au av ap D aD Y _ _ _))
     try rw[G]at D
     rw[aB.out]at D;rw[<-aI.out]at D;go_roundw
     case rel=>exact⟨k+1,yE,by rw[<-al.out,<-aB.out],yK,D,a0.trans Y⟩
     case measure=>simp[intOf];omega
    obtain rfl:k=st.Ai.length:=by omega
    have bi:¬((st.Ai.length:Int) <st.Ai.length):=yE;rw[Zfp yE]at hI;have aY:=aj.below (Gk.Ab (Al.Ab Di.Ab)) a3 yE;have aJ:=bo.out;have af:=br.out;have h63:i+1<=maxLen/\(i+1)*24<=140737488355328:=⟨yP,yE⟩;have iy:=Zaa h63;have be:=hI.Ark (fun b=>b<wr/\some b≠(Value.slice aa i gc).ownBlock) (fun b U=>⟨(hI.lt b U).2,fun e=>by
     rcases b9 with h | ⟨g,h,bu⟩
     ·rw[h]at e;cases e
     rw[h]at e;injection e with e;have:=(hI.lt b U).1;omega⟩) (fun _ _ h=>h)
    have bI:=ai.size;have aL:(El s).take (i+1)=(El s).take i++[I4 s i st.Ai]:=by
     rw[Zay yE];congr 2;rw[Zam yE]at af;injection af
    have b6:=Zaa aL;have bc:=Zaa (show((J4 s (i+1):Nat):Int)=((A+Cu st.Ai:Nat):Int)by rw[aJ]);rw[Zbk]at*
    clear h63 aL af aJ aj a3;generalize A+Cu st.Ai=a8 at*
    go_wp2_with (at_builtin;go_loud (refine Am (Gk.Ab (Al.Ab Di.Ab)) rfl _ _ 227 rfl w.heap.size 160 1 24 Ac2 Ag3 yH _ _ rfl aY _ _ rfl yF ⟨_,rfl,be⟩ rfl yL uA uB yE ?_;intro au av ap D aD Y _ _ _))
    try rw[k8]at D
    rw[<-b6.out]at D;go_roundw
    case rel=>exact⟨i+1,yE,by rw[bc.out],yK,D,ai.trans Y⟩
    case measure=>simp[intOf];omega
  obtain rfl:i=s.Ac.length:=by omega
  have bi:¬((s.Ac.length:Int) <s.Ac.length):=yE;go_wp2_with fail
  go_ret;rw[Zfp yE]at O;exact⟨_,rfl,O.list (Gk.Ab (Al.Ab Di.Ab)),U⟩
end
end Go.Proofs.YtafmoofknjncpaaGreatDoor
