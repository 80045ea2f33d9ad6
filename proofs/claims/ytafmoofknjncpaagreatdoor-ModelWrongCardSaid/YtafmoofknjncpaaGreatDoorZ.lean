/- A part of the proof that ModelWrong holds: its theorems stand as they are typed. -/
import Derived.Test.YtafmoofknjncpaaGreatDoorY
set_option linter.all false
set_option maxRecDepth 100000
set_option maxHeartbeats 8000000
namespace Go.Proofs.YtafmoofknjncpaaGreatDoor
open Tryz Go.RowKit Go.Shelf
structure Xt where
 (Aj:UInt8) (values:zQ) (Ac:List (List Acl))
def Mj (w:zN) (S:zT) (x:Xt) (cs:zP):Prop:=∃A D,cs=[.int .u8 x.Aj.toNat,A,D]/\Al Nb 1 w S x.values A/\Al (Gk (Al Iw 6)) 1 w S x.Ac D
theorem Se:(prog.info? 53).map (fun i=>(i.size,i.bytes,i.zero.map fun z=>z.cells.size))=some (4,48,some 4):=yG
theorem Ql:prog.underlying 27=some (.slice 53):=yG
theorem Al3 (r:Nat) (h:r<5):∃x f:Nat,f<2^64/\D1 f=true/\(∀W,(convert 3 49 (.int .i64 r)).run prog W=.ok (.float .f64 x) W)/\(∀W,(binOp .quo 49 (.float .f64 x) (.float .f64 4611686018427387904)).run prog W=.ok (.float .f64 f) W):=by
 rcases(show r=0\/r=1\/r=2\/r=3\/r=4 from yE)with rfl | rfl | rfl | rfl | rfl
 ·exact⟨0,0,yH,yH,fun W=>yG,fun W=>yG⟩
 ·exact⟨4607182418800017408,4602678819172646912,yH,yH,fun W=>yG,fun W=>yG⟩
 ·exact⟨4611686018427387904,4607182418800017408,yH,yH,fun W=>yG,fun W=>yG⟩
 ·exact⟨4613937818241073152,4609434218613702656,yH,yH,fun W=>yG,fun W=>yG⟩
 exact⟨4616189618054758400,4611686018427387904,yH,yH,fun W=>yG,fun W=>yG⟩
theorem T9 {α β:Type} (x:α) (y:β):∀(l:List α) (r:List β),l[r.length]? =some x->l.zip (r++[y])=l.zip r++[(x,y)]
 | [],r,h=>yX
 | a::l,[],h=>by simp at h;simp[h]
 | a::l,b::r,h=>by
  simp only[Zao,Zae]at h;simp[T9 x y l r h]
theorem Zl (fs:List Nat) (f:Nat) (A:zS) (h:Cv[fs.length]? =some A):Dt (fs++[f])=Dt fs++[⟨A,true,Fw,f⟩]:=by
 unfold Dt;rw[T9 A f _ _ h];simp
theorem U9 (fs:List ByteArray) (f:zS) (A:zS) (h:Dq[fs.length]? =some A):Ht (fs++[f])=Ht fs++[⟨A,false,f,0⟩]:=by
 unfold Ht;rw[T9 A f _ _ h];simp
theorem Aa5 (fs:List Nat):(Dt fs).length<=4:=by simp[Dt,Cv];omega
theorem Ahz (fs:List ByteArray):(Ht fs).length<=2:=by simp[Ht,Dq];omega
theorem Ac0 (f:Nat):prog.built 51 [(0,.bool true),(2,.float .f64 f)]=some #[.bool true,.string ⟨#[]⟩,.float .f64 f]:=by kernel_rfl
theorem U6 (s:ByteArray):prog.built 51 [(1,.string s)]=some #[.bool false,.string s,.float .f64 0]:=by kernel_rfl
theorem Rp (A s:ByteArray) (b:Bool) (f:Nat):prog.built 53 [(0,.string A),(1,.agg #[.bool b,.string s,.float .f64 f])]=some #[.string A,.bool b,.string s,.float .f64 f]:=by kernel_rfl
def P3:List ByteArray:=[⟨#[]⟩,⟨#[97]⟩,⟨#[98,98]⟩,⟨#[49]⟩,⟨#[48,46,53]⟩]
theorem Acz {s:zS} (h:s∈P3):s.size<=3:=by
 simp only[P3,Zbc,Zbe,Zic]at h;rcases h with rfl | rfl | rfl | rfl | rfl<;>decide
theorem Akc (fs:List Nat) (A:List ByteArray) (h4:fs.length=4) (h2:A.length=2) (F:∀f∈fs,f<2^64/\D1 f=true) (D:∀t∈A,t.size<=3):Pf (Dt fs++Ht A):=by
 rcases fs with _ | ⟨f0,_ | ⟨f1,_ | ⟨f2,_ | ⟨f3,_ | ⟨f4,r⟩⟩⟩⟩⟩<;>simp at h4
 rcases A with _ | ⟨t0,_ | ⟨t1,_ | ⟨t2,r⟩⟩⟩<;>simp at h2
 exact⟨f0,f1,f2,f3,t0,t1,rfl,F,D t0 yF,D t1 yF⟩
theorem Agr {l:List Bc} {x:Bc} (h:∀(j:Nat) (y:Bc),l[j]? =some y->D7[j]? =some y.name) (D:D7[l.length]? =some x.name):∀(j:Nat) (y:Bc),(l++[x])[j]? =some y->D7[j]? =some y.name:=by
 intro j y hy;rcases Zga j l.length with A | A
 ·rw[Zbp A]at hy;exact h j y hy
 rw[Zee A]at hy;obtain⟨k,F⟩:=zL (j - l);rw[F]at hy;rcases k with _ | k
 ·simp only[Zad,Zbb]at hy
  subst hy;rw[show j=l from yE];exact D
 simp at hy
theorem V8 (W:zN):(Instr.buildSlice 85 5 #[(0,.string ⟨#[]⟩),(1,.string ⟨#[97]⟩),(2,.string ⟨#[98,98]⟩),(3,.string ⟨#[49]⟩),(4,.string ⟨#[48,46,53]⟩)]).run prog W=.ok (.slice (some ⟨W,0,none⟩) 5 5) (W.alloc (.cells #[Value.string ⟨#[]⟩,.string ⟨#[97]⟩,.string ⟨#[98,98]⟩,.string ⟨#[49]⟩,.string ⟨#[48,46,53]⟩] 9)):=
 U8 5 _ _ yH yH yG W
theorem Alq (x:Xt) (hlen:x.values.length<=maxLen) (cs:zP) (w:zN) (n:Nat) (aR:n<=w) (a1:Mj w (fun b=>b<n) x cs):
  Calls prog 5 #[.agg cs.toArray] w fun e w'=>∃s co,e=.returned (.agg co.toArray)/\A0 w' (fun b=>w<=b/\b<w') s co/\H7 s/\Below w w w':=by
 obtain⟨e5,eI,rfl,ah,aS⟩:=a1
 obtain⟨aC,aD,rfl,ea,bS⟩:=ah.flat (fun x:UInt8=>[Value.int .u8 x.toNat]) (fun _ _ h=>h) (fun _=>rfl)
 obtain⟨bX,bg,rfl,eN,bR⟩:=aS
 have bv:=bS x.values
 rw[Zbk]at bv
 have ez:=x.Aj.toNat_lt
 obtain⟨qp,eg,e3,eF⟩:∃qp:Nat,(2:Int)+(x.Aj.toNat:Int)%11=(qp:Int)/\2<=qp/\qp<=12:=⟨2+x.Aj.toNat%11,yE,yE,yE⟩
 obtain⟨am,cr⟩:=zL (((w.alloc (.cells #[x.Aj,.slice aC x.values aD,.slice bX x.Ac bg] 25)).alloc (.cells #[zE,zH,zH] 30)).alloc (.cells #[qp,zH,zH] 30))
 have cu:am.heap[w.heap.size]? =some (.cells #[x.Aj,.slice aC x.values aD,.slice bX x.Ac bg] 25 (0,0)):=by rw[<-cr];exact Kv (Kv (G4 _ rfl) _) _
 have hA3:am.heap[w.heap.size+1]? =some (.cells #[zE,zH,zH] 30 (0,0)):=by rw[<-cr];exact Kv (G4 _ yF) _
 have cC:am.heap[w.heap.size+2]? =some (.cells #[qp,zH,zH] 30 (0,0)):=by rw[<-cr];exact G4 _ yF
 have bC:am.heap.size=w+3:=xK
 have bM:Below w w am:=rC
 have bO:=Zaa cu
 have ct:=Zaa hA3
 have cA:=Zaa cC
 have cQ:=Zaa bR
 have bn:=Zaa bv
 have bN:=Zaa cr
 clear cu hA3 cC bR bS bv cr
 go_enter func5,ntmps5
 go_wp2_with fail
 have cr:=bN.out
 rw[cr]
 clear cr bN
 refine(Pr _).mono ?_
 rintro e b4 ⟨rfl,aO⟩
 have aI:Below am am b4:=by rw[aO];exact Af _
 have eM:b4.heap.size=w+4:=by rw[aO];simp[bC]
 have bT:b4.rangeAt (w+3) 0 [nX,nY,nZ,nL]:=by rw[aO,<-bC];exact Ae _ _ _
 clear aO
 have cv:=(aI.block w yE).trans bO.out
 have hA4:=(aI.block (w+1) yE).trans ct.out
 have cB:=(aI.block (w+2) yE).trans cA.out
 have br:Below w w b4:=bM.trans (aI.mono yE)
 have bo:=Zaa cv
 have cU:=Zaa hA4
 have cS:=Zaa cB
 have cW:=Zaa bT
 clear cv hA4 cB bT bO ct cA aI bM
 rw[bC]
 go_wp2_with fail
 go_loopw [24] (fun v wr=>∃(i:Nat) (fs:List Nat) (u:Value),i<=4/\v=.int .i64 i/\fs=i/\(∀f∈fs,f<2^64/\D1 f=true)/\Au (A2 Dy b4) b4 53 4 wr (Dt fs) u/\wr.heap[w.heap.size+2]? =some (.cells #[qp,u,zH] 30 (0,0))/\b4.grownBy wr (some (w.heap.size+2))) (fun v _=>4 - (intOf v).toNat)
 case atStart=>exact⟨0,[],_,Zap _,rfl,rfl,yF,Au.nil _ _ _ _ _,cS.out,Ju _ _⟩
 case round=>
  obtain⟨i,fs,u,ae,rfl,dU,bY,M,T,H⟩:=hrel;obtain⟨e6,gc,rfl,bb⟩:=M.shape;subst dU;have bm:=H.size;have ed:=Aa5 fs;by_cases cK:fs.length<4
  ·skip
   have cq:(fs.length:Int) <4:=yE;obtain⟨gb,a7⟩:∃gb,Cv[fs.length]? =some gb:=⟨_,Zam cK⟩;have aF:wr.cell? ⟨w+3,fs.length,none⟩=some (.string gb):=by
    have h1:(Cv.map Value.string)[fs.length]? =some (.string gb):=by rw[Zbl,a7];rfl
    have h2:=Ag cW.out (H.block (w+3) yE (B4 yE)) fs _ h1;rwa[Zac]at h2
   obtain⟨V,ah⟩:=zL (Jo x.values fs);have bq:=U0 x.values fs;rw[ah]at bq;have bZ:(V:Int).tmod 5=((V%5:Nat):Int):=by rw[Zbg yE];rfl
   obtain⟨ei,f,dl,dm,bI,ch⟩:=Al3 (V%5) (Zgd _ yH);have bcx:=Zaa a7;have aQ:=Zaa T;have cP:=Zaa bI;have d6:=Zaa ch;have b9:=Zaa ah;clear a7 T bI ch ah;go_wp2_with fail
   have ee:(wr.drewN 1).heap=wr.heap:=Zhg _ _;have c9:Below wr wr (wr.drewN 1):=(Zai _ _).grown (B5 _ 1 none) (Zab _) yF;have j4:(wr.drewN 1).heap.size=wr.heap.size:=yO;have ag:=(c9.block (w+2) yE).trans aQ.out;have O:=A4 ag 1 _ rfl;simp only[Zac]at O;refine Ce [(0,.inl none),(1,.inl (some 0)),(2,.inl none),(3,.inl none),(4,.inl none),(5,.inr ([],[0])),(6,.inl none),(7,.inl none),(8,.inl none),(9,.inl none),(10,.inl none),(11,.inr ([],[0])),(12,.inr ([],[])),(13,.inl none),(14,.inr ([],[]))]
    (fun _ W=>W.cell? ⟨w+2,1,none⟩=some (.slice e6 (Dt fs).length gc)) [0] yG yG (lv1 O) ?_
   refine Z3s ?_;have ma:=M.below (A2.Ab Dy.Ab _) c9 (Zab _);have pk:=Bn H (Ck (some (w.heap.size+2)) c9 (Zab _));generalize wr.drewN 1=a2 at c9 j4 ag O ma pk|-;have aL:=(pk.block w yE (B4 yE)).trans bo.out;have an:=A4 aL 1 _ rfl;simp only[Zac]at an;have aq:Below w w a2:=br.grown pk yE (fun r e=>yM);have ri:=Zaa ag;have aj:=Zaa O;have aV:=Zaa an;clear ee ag O aL an aF M H;refine Z3Z ?_;refine Ba (.slice e6 (Dt fs).length gc) yI (fun w' a4=>?_) (fun K J=>?_)
   ·have cz:w'.cell? ⟨w+2,1,none⟩=some (.slice e6 (Dt fs).length gc):=a4
    go_simp
   refine Z2n ?_;clear J K;refine Z4K ?_;refine A1 rfl (fun K J=>?_);go_wp2_with fail
   refine(Rq x.values fs w a2 n aC aD (by have:=aq.size;omega) yE hlen aV.out (bn.out.below (aq.mono aR) (Zab _))).mono ?_;rintro e a0 ⟨rfl,G⟩;rw[b9.out];go_wp2_with fail
   refine J _ _ yF (Bg (fun _=>(Zaw (a:=⟨w+2,1,none⟩) (G.block (w+2) yE)).trans aj.out)) ?_;clear J K;have aN:=ma.below (A2.Ab Dy.Ab _) G (Zab _);have b7:=G.size;have bE:=Bn pk (Ck (some (w.heap.size+2)) G (Zab _));refine Z3Z ?_;refine Gx rfl (fun W _=>Akp _ _ _ rfl rfl (cP.out W)) ?_;refine Gx rfl (fun W _=>Ann _ _ _ _ rfl rfl rfl (d6.out W)) ?_;refine Jh 51 _ _ rfl rfl (by simp only[Zev,Zbi,Zeu];exact Ac0 f) (fun K J=>?_);refine J _ ?_;clear J K;refine Jh 53 _ _ rfl rfl (by simp only[Zev,Zbi,Zeu];exact Rp gb _ true f) (fun K J=>?_);refine J _ ?_;clear J K;refine P6 Dy.Ab rfl rfl rfl rfl _ _ 27 rfl b4.heap.size 53 4 48 Ql Se yH (Dt fs) (.slice e6 (Dt fs).length gc) aN ⟨gb,true,Fw,f⟩ [.string gb,zB,zC,.float .f64 f]
    rfl rfl yL yP yE yE
    (w.heap.size+2) 1 30 [qp,.slice e6 (Dt fs).length gc,zH] yE ((G.block _ yE).trans ri.out) rfl (fun W=>yU) (fun v=>⟨rfl,rfl⟩) (fun v fy W=>yU) (fun v ak nr ax W h1 h2=>yU)
    (Bg (fun h=>(Zaw (a:=⟨w+2,1,none⟩) ((Af _).block (w+2) yE)).trans h)) ?_
   intro ak ax bs l0 dX aH aJ al nn _;have oc:=Lp bE al aJ (fun k e=>(aN.lt k e).1);rw[<-Zl fs f gb bcx.out]at l0;have aP:=Zaa aH;clear aH aJ;go_wp2_with fail
   go_roundw
   case rel=>exact⟨fs+1,fs++[f],_,yE,yK,yF,Fa bY ⟨dl,dm⟩,l0,aP.out,oc⟩
   case measure=>simp[intOf];omega
  have eB:¬((fs.length:Int) <4):=by omega
  have h4:fs.length=4:=yE;obtain⟨l6,de⟩:∃l6,l6=wr:=⟨_,rfl⟩;subst de;go_wp2_with fail
  refine(O0 _).mono ?_;rintro e k0 ⟨rfl,b5⟩;have mb:Below l6 l6 k0:=by rw[b5];exact Af _
  have sb:k0.heap.size=l6.heap.size+1:=by rw[b5];simp
  have iE:k0.rangeAt l6 0 [.string ⟨#[115]⟩,.string ⟨#[116]⟩]:=by rw[b5];exact Ae _ _ _
  clear b5;have rk:=M.below (A2.Ab Dy.Ab _) mb (Zab _);have cG:=(mb.block (w+2) yE).trans T;have kT:=Bn H (Ck (some (w.heap.size+2)) mb (Zab _));have cg:some l6.heap.size≠(Value.slice e6 (Dt fs).length gc).ownBlock:=fun e=>by have:=(M.lt _ e.symm).2;omega
  have fB:=Zaa cG;have cY:=Zaa iE;clear cG iE T;go_wp2_with fail
  go_loopw [46] (fun v wr=>∃(i:Nat) (dh:List ByteArray) (u:Value),i<=2/\v=.int .i64 i/\dh=i/\(∀t∈dh,t.size<=3)/\Au (A2 Dy b4) b4 53 4 wr (Dt fs++Ht dh) u/\wr.heap[w.heap.size+2]? =some (.cells #[qp,u,zH] 30 (0,0))/\b4.grownBy wr (some (w.heap.size+2))/\some l6.heap.size≠u.ownBlock/\wr.rangeAt l6 0 [.string ⟨#[115]⟩,.string ⟨#[116]⟩]/\l6.heap.size<wr.heap.size) (fun v _=>2 - (intOf v).toNat)
  case atStart=>exact⟨0,[],_,Zap _,rfl,rfl,yF,by rw[show Dt fs++Ht []=Dt fs by simp[Ht]];exact rk,fB.out,kT,cg,cY.out,yE⟩
  case round=>
   clear rk kT cg M H bb;obtain⟨i,dh,u,ae,rfl,dZ,eH,M,T,H,jy,aY,dI⟩:=hrel;obtain⟨e6,gc,rfl,bb⟩:=M.shape;subst dZ;have dr:(Dt fs++Ht dh).length<=6:=by rw[Zbj];have:=Ahz dh;omega
   obtain⟨e4,bh⟩:=zL ((Dt fs++Ht dh));rw[bh]at M T jy dr bb;have bd3:=Zaa bh;clear bh;by_cases dS:dh.length<2
   ·skip
    have cq:(dh.length:Int) <2:=yE;obtain⟨gb,a7⟩:∃gb,Dq[dh.length]? =some gb:=⟨_,Zam dS⟩;have aF:wr.cell? ⟨l6,dh.length,none⟩=some (.string gb):=by
     have h1:(Dq.map Value.string)[dh.length]? =some (.string gb):=by rw[Zbl,a7];rfl
     have h2:=aY dh _ h1;rwa[Zac]at h2
    obtain⟨V,ah⟩:=zL (Jo x.values (dh+4));have bq:=U0 x.values (dh+4);rw[ah]at bq;have bZ:(V:Int).tmod 5=((V%5:Nat):Int):=by rw[Zbg yE];rfl
    obtain⟨q,aT⟩:∃q,q=V%5:=⟨_,rfl⟩;rw[<-aT]at bZ;have dR:q<5:=yE;have e1:(q:Int) <5:=yE;have aO:IntKind.i64.wrap ((dh.length:Int)+4)=(dh.length:Int)+4:=Zcy _ yE;obtain⟨s,b0⟩:∃s,P3[q]? =some s:=⟨_,Zam (show q<P3.length from dR)⟩;have bby:s.size<=3:=Acz (Zax b0);have cl:([zC,.string ⟨#[97]⟩,.string ⟨#[98,98]⟩,.string ⟨#[49]⟩,.string ⟨#[48,46,53]⟩]:List Value)[q]? =some (.string s):=by
     have h1:(P3.map Value.string)[q]? =some (.string s):=xF;exact h1
    have bcx:=Zaa a7;have aQ:=Zaa T;have c2:=Zaa cl;have b9:=Zaa ah;clear a7 T cl ah b0 aT;go_wp2_with fail
    have ee:(wr.drewN 1).heap=wr.heap:=Zhg _ _;have c9:Below wr wr (wr.drewN 1):=(Zai _ _).grown (B5 _ 1 none) (Zab _) yF;have j4:(wr.drewN 1).heap.size=wr.heap.size:=yO;have ag:=(c9.block (w+2) (by have:=H.size;omega)).trans aQ.out;have O:=A4 ag 1 _ rfl;simp only[Zac]at O;refine Tq [(0,.inl none),(1,.inl (some 0)),(2,.inl none),(4,.inl none),(5,.inl none),(6,.inl none)] 3 ([],[0]) [(7,.inr ([],[0])),(8,.inl none),(9,.inl none),(10,.inr ([],[0])),(11,.inl none),(12,.inl none),(13,.inr ([],[0])),(14,.inr ([],[])),(15,.inl none),(16,.inr ([],[]))]
     7 ([],[0]) [(8,.inl none),(3,.inr ([],[0])),(9,.inl none),(10,.inr ([],[0])),(11,.inl none),(12,.inl none),(13,.inr ([],[0])),(14,.inr ([],[])),(15,.inl none),(16,.inr ([],[]))]
     (fun _ W=>W.cell? ⟨w+2,1,none⟩=some (.slice e6 e4 gc)) [0] yG yG (lv1 O) ?_
    refine Z3s ?_;have ma:=M.below (A2.Ab Dy.Ab _) c9 (Zab _);have pg:=Aa aY c9 dI;have pk:=Bn H (Ck (some (w.heap.size+2)) c9 (Zab _));generalize wr.drewN 1=a2 at c9 j4 ag O ma pk pg|-;have ew:=pk.size;have aq:Below w w a2:=br.grown pk yE (fun r e=>yM);have aL:=(pk.block w yE (B4 yE)).trans bo.out;have an:=A4 aL 1 _ rfl;simp only[Zac]at an;have aV:=Zaa an;have ri:=Zaa ag;have aj:=Zaa O;clear ee aL an aF M H aY ag O;refine Z3Z ?_;refine Ba (.slice e6 e4 gc) yI (fun w' a4=>?_) (fun K J=>?_)
    ·have cz:w'.cell? ⟨w+2,1,none⟩=some (.slice e6 e4 gc):=a4
     go_simp
    refine Z2n ?_;clear J K;refine Z03 ?_;refine Z03 ?_;refine B1 ⟨?_,?_⟩
    ·obtain⟨a0,a8⟩:=zL (a2.alloc (.cells #[Value.string ⟨#[]⟩,.string ⟨#[97]⟩,.string ⟨#[98,98]⟩,.string ⟨#[49]⟩,.string ⟨#[48,46,53]⟩] 9))
     have G:Below a2 a2 a0:=by rw[<-a8];exact Af _
     have cH:a0.rangeAt a2 0 (#[Value.string ⟨#[]⟩,.string ⟨#[97]⟩,.string ⟨#[98,98]⟩,.string ⟨#[49]⟩,.string ⟨#[48,46,53]⟩]).toList:=by rw[<-a8];exact Ae _ _ _
     have b7:a0.heap.size=a2+1:=by rw[<-a8];simp
     refine M5 (w':=a0) rfl (by rw[<-a8];exact O4 _ _ _ _ rfl (V8 _) (by simp[Act.eval])) yF (Bg (fun _=>(Zaw (a:=⟨w+2,1,none⟩) (G.block (w+2) yE)).trans aj.out)) ?_;clear a8;have hC:=Rq x.values (dh+4) w a0 n aC aD (by have:=aq.size;omega) yE hlen ((Zaw (a:=⟨w,1,none⟩) (G.block w yE)).trans aV.out) (bn.out.below ((aq.trans (G.mono yE)).mono aR) (Zab _));rw[b9.out]at hC;simp only[Zct,Int.cast_ofNat_Int]at hC;have c3:=Zaa hC;clear hC;refine A1 rfl (fun K J=>?_);go_wp2_with fail
     refine Z54 ?_;rintro e bs ⟨rfl,al⟩;have bU:=G.trans (al.mono yE);go_wp2_with fail
     refine J _ _ yF (Bg (fun _=>(Zaw (a:=⟨w+2,1,none⟩) (bU.block (w+2) yE)).trans aj.out)) ?_;clear J K;have bqh:bs.cell? ⟨a2,q,none⟩=some (.string s):=by
      have h1:=Aa cH al yE q _ c2.out;rwa[Zac]at h1
     refine Z4X ?_;intro l0 bgk bgm oc nn;rw[j4]at bqh;clear cH;refine Z03 ?_;exact Z4m
    have hC:=Rq x.values (dh+4) w a2 n aC aD (by have:=aq.size;omega) yE hlen aV.out (bn.out.below (aq.mono aR) (Zab _));rw[b9.out]at hC;simp only[Zct,Int.cast_ofNat_Int]at hC;have c3:=Zaa hC;clear hC;refine A1 rfl (fun K J=>?_);go_wp2_with fail
    refine Z54 ?_;rintro e a0 ⟨rfl,G⟩;go_wp2_with fail
    refine J _ _ yF (Bg (fun _=>(Zaw (a:=⟨w+2,1,none⟩) (G.block (w+2) yE)).trans aj.out)) ?_;clear J K;refine Z3Z ?_;obtain⟨bs,ba⟩:=zL (a0.alloc (.cells #[Value.string ⟨#[]⟩,.string ⟨#[97]⟩,.string ⟨#[98,98]⟩,.string ⟨#[49]⟩,.string ⟨#[48,46,53]⟩] 9));have al:Below a0 a0 bs:=by rw[<-ba];exact Af _
    have cD:bs.rangeAt a0 0 (#[Value.string ⟨#[]⟩,.string ⟨#[97]⟩,.string ⟨#[98,98]⟩,.string ⟨#[49]⟩,.string ⟨#[48,46,53]⟩]).toList:=by rw[<-ba];exact Ae _ _ _
    have dt:=G.size;have bU:=G.trans (al.mono dt);refine M5 (w':=bs) rfl (by rw[<-ba];exact O4 _ _ _ _ rfl (V8 _) (by simp[Act.eval])) yF (Bg (fun _=>(Zaw (a:=⟨w+2,1,none⟩) (bU.block (w+2) yE)).trans aj.out)) ?_;clear ba;have bqh:bs.cell? ⟨a0,q,none⟩=some (.string s):=by
     have h1:=cD q _ c2.out;rwa[Zac]at h1
    refine Z4X ?_;intro l0 bgk bgm oc nn;clear cD;refine Z3Z ?_;exact Z4m
   have eh:¬((dh.length:Int) <2):=by omega
   have h2:dh.length=2:=yE;obtain⟨a9,df⟩:∃a9,a9=wr:=⟨_,rfl⟩;subst df;have cc:Pf e4:=by rw[<-bd3.out];exact Akc fs dh h4 h2 bY eH
   have cd:=M.fresh Dy.Ab;have eu:=H.size;have aZ:Below w w a9:=br.grown H yE (fun r e=>yM);have cf:=(H.block w yE (B4 yE)).trans bo.out;have c6:=(H.block (w+1) yE (B4 yE)).trans cU.out;obtain⟨L,eC,bQ,c8⟩:∃L:Nat,min (x.Ac.length:Int) 4=(L:Int)/\L<=x.Ac/\L<=4:=⟨min x.Ac.length 4,yE,yE,yE⟩;have bl:=A4 cf 2 _ rfl;simp only[Zac]at bl;have er:(L:Int)<=bg:=yE;have dc:=Zaa cc;have dd:=Zaa cd;have cZ:=Zaa c6;have aQ:=Zaa T;clear cc cd cf c6 T M H jy aY bb;go_wp2_with fail
   go_loopw [77] (fun v wr=>∃(i:Nat) (D:List Bc) (us:Value),i<=L/\v=.int .i64 i/\D=i/\(∀(j:Nat) (y:Bc),D[j]? =some y->D7[j]? =some y.name)/\(∀y∈D,StateM L y)/\Au (A2 Cf a9) a9 37 2 wr D us/\wr.heap[w.heap.size+2]? =some (.cells #[qp,.slice e6 e4 gc,us] 30 (0,0))/\a9.grownBy wr (some (w.heap.size+2))) (fun v _=>L - (intOf v).toNat)
   case atStart=>exact⟨0,[],_,Zap _,rfl,rfl,yF,yF,Au.nil _ _ _ _ _,aQ.out,Ju _ _⟩
   case round=>
    obtain⟨i,D,us,ae,rfl,dP,ck,bW,M,T,H⟩:=hrel;obtain⟨du,dv,rfl,es⟩:=M.shape;subst dP;have bm:=H.size;have bc:Below w w wr:=aZ.grown H (by have:=aZ.size;omega) (fun r e=>yM);by_cases ec:D<L
    ·skip
     have cq:(D.length:Int) <L:=yE;rcases cQ.out with e | ⟨b,o,rfl,eE,aG⟩
     ·rw[e]at bQ;simp at bQ;omega
     obtain⟨dx,h1,aM⟩:=aG D yE;have a5:=Aa h1 bc yE;have aA:=(Gk.Ab (Al.Ab Iw.Ab)).below aM (bc.mono aR);generalize x.Ac[D.length]=aU at aA;obtain⟨v,rfl,e0⟩:=aA;obtain⟨eD,rc,rfl,eK,bG⟩:=e0;have d0:=a5 0 _ rfl;simp only[Zaf,Zba]at d0;obtain⟨gb,a7⟩:∃gb,D7[D.length]? =some gb:=⟨_,Zam (show D.length<4 from yE)⟩;obtain⟨a3,dg⟩:∃a3,a3=wr:=⟨_,rfl⟩;subst dg;have bcx:=Zaa a7;have cL:=Zaa bG;have d7:=Zaa T;have e8:(D.length:Int) <4:=yE;clear h1 aM a5 aG a7 bG T;go_wp2_with fail
     refine(Yk _).mono ?_;rintro e wn ⟨rfl,a8⟩;have G:Below a3 a3 wn:=by rw[a8];exact Af _
     have b7:wn.heap.size=a3.heap.size+1:=by simp[a8]
     have ex:a3.heap.size<wn.heap.size:=yE;have aF:wn.cell? ⟨a3,D.length,none⟩=some (.string gb):=by
      have h1:(D7.map Value.string)[D.length]? =some (.string gb):=by rw[Zbl,bcx.out];rfl
      have h2:wn.rangeAt a3 0 [.string ⟨#[97]⟩,.string ⟨#[98]⟩,.string ⟨#[99]⟩,.string ⟨#[100]⟩]:=by rw[a8];exact Ae _ _ _
      have h3:=h2 D _ h1;rwa[Zac]at h3
     clear a8 b7;obtain⟨a6,eb,ca,dk⟩:∃a6:Nat,min (aU.length:Int) 5=(a6:Int)/\a6<=aU/\a6<=5:=⟨min aU.length 5,yE,yE,yE⟩;have ep:(a6:Int)<=rc:=yE;obtain⟨aw,ai⟩:=zL (wn.alloc (.cells #[.string gb,zH] 37));have dT:Below a3 a3 aw:=by rw[<-ai];exact G.alloc yE _
     have ef:aw.heap.size=wn+1:=by simp[<-ai]
     have cb:aw.heap[wn.heap.size]? =some (.cells #[.string gb,zH] 37 (0,0)):=by rw[<-ai];exact G4 _ rfl
     have d9:=Zaa cb;have c4:=Zaa ai;clear cb ai;go_wp2_with fail
     have ai:=c4.out;rw[ai];clear c4;go_loopw [93] (fun v wr=>∃(k:Nat) (F:List A7) (bx:Value),k<=a6/\v=.int .i64 k/\F=k/\(∀r∈F,Ti L r)/\Au (A2 Bj aw) aw 48 16 wr F bx/\wr.heap[wn.heap.size]? =some (.cells #[.string gb,bx] 37 (0,0))/\aw.grownBy wr (some (wn.heap.size))) (fun v _=>a6 - (intOf v).toNat)
     case atStart=>exact⟨0,[],_,Zap _,rfl,rfl,yF,Au.nil _ _ _ _ _,d9.out,Ju _ _⟩
     case round=>
      clear aF ai G d0 bl;obtain⟨k,F,bx,e2,rfl,cO,c0,bf,aW,bu⟩:=hrel;obtain⟨ao,ap,rfl,eq⟩:=bf.shape;subst cO;have ev:=bu.size;have aB:Below a3 a3 wr:=dT.grown bu yE (fun r e=>yM);have c7:=cL.out;by_cases e9:F<a6
      ·skip
       have em:(F.length:Int) <a6:=yE;rcases c7 with e | ⟨b2,eG,rfl,e7,bV⟩
       ·rw[e]at ca;simp at ca;omega
       obtain⟨dx,h1,aM⟩:=bV F yE;have ds:n<=a3.heap.size:=by have:=bc.size;omega
       have a5:=Aa h1 aB yE;have aA:=Iw.Ab.below aM (aB.mono ds);generalize aU[F.length]=A at aA;obtain⟨eA,ey,rfl,dB,dY⟩:=aA;obtain⟨af,ad,rfl,dO,cE⟩:=dB;obtain⟨ac,ab,rfl,dH,bP⟩:=dY;have aS:Iw wr (fun b=>b<n) A [A.kind,A.n,A.Az,A.A3,.slice af A.Ea ad,.slice ac A.Aw ab]:=⟨_,_,rfl,⟨af,ad,rfl,dO,cE⟩,ac,ab,rfl,dH,bP⟩;have d0:=a5 0 _ rfl;have d1:=a5 1 _ rfl;have d2:=a5 2 _ rfl;have d3:=a5 3 _ rfl;have d4:=a5 4 _ rfl;have d5:=a5 5 _ rfl;simp only[Zaf]at d0;have cX:=Zaa aW;have dM:=Zaa aS;clear h1 aM a5 bV aW aS cE bP;go_wp2_with fail
       obtain⟨ay,ic⟩:=zL (wr.alloc (.cells #[A.kind,A.n,A.Az,A.A3,.slice af A.Ea ad,.slice ac A.Aw ab] 91));rw[ic];have bt:Below wr wr ay:=wH;have np:ay.heap.size=wr+1:=xS;have cw:ay.rangeAt wr 0 [A.kind,A.n,A.Az,A.A3,.slice af A.Ea ad,.slice ac A.Aw ab]:=by rw[<-ic];exact Ae wr [A.kind,A.n,A.Az,A.A3,.slice af A.Ea ad,.slice ac A.Aw ab] _
       clear ic d0 d1 d2 d3 d4 d5;refine Z4y ?_;intro ee c9;have bj:(ay.drewN 1).rangeAt wr 0 [A.kind,A.n,A.Az,A.A3,.slice af A.Ea ad,.slice ac A.Aw ab]:=Ag cw yO;refine Z56 ?_;intro j4;have b8:=(c9.block (wn.heap.size) yE).trans cX.out;have O:=A4 b8 1 _ rfl;simp only[Zac]at O;refine Ce [(0,.inl none),(1,.inl (some 0)),(2,.inl (some 1)),(3,.inl none),(4,.inl none),(5,.inr ([],[0])),(6,.inr ([],[0])),(7,.inr ([],[])),(8,.inl none),(9,.inr ([],[]))]
        (fun k W=>match k with | 0=>W.cell? ⟨wn,1,none⟩=some (.slice ao F ap) | _=>W.rangeAt wr 0 [A.kind,A.n,A.Az,A.A3,.slice af A.Ea ad,.slice ac A.Aw ab]) [0,1] yG yG (lv2 O bj) ?_
       refine Z3s ?_;have ma:=bf.below (A2.Ab Bj.Ab _) c9 (Zab _);have pk:=Bn bu (Ck (some (wn.heap.size)) c9 (Zab _));have bF:=Iw.Ab.below dM.out (c9.mono yE);generalize ay.drewN 1=a2 at c9 bj j4 b8 O ma pk bF|-;have ri:=Zaa b8;have dK:=Zaa bF;have aj:=Zaa O;clear bj ee cw bt np b8 bF O;refine Z3Z ?_;refine Ba (.slice ao F ap) yI (fun w' a4=>?_) (fun K J=>?_)
       ·have cz:w'.cell? ⟨wn,1,none⟩=some (.slice ao F ap):=a4
        go_simp
       refine Z2n ?_;clear J K;refine Ba (.agg #[A.kind,A.n,A.Az,A.A3,.slice af A.Ea ad,.slice ac A.Aw ab]) yI (fun w' a4=>?_) (fun K J=>?_)
       ·have be:=a4 0 _ rfl
        have bk:=a4 1 _ rfl;have bA:=a4 2 _ rfl;have bB:=a4 3 _ rfl;have bD:=a4 4 _ rfl;have dL:=a4 5 _ rfl;simp only[Zac]at be bk bA bB bD dL;go_simp
       refine Z2n ?_;clear J K;refine Z03 ?_;refine A1 rfl (fun K J=>?_);go_wp2_with fail
       refine(Akt A L yE c8 [A.kind,A.n,A.Az,A.A3,.slice af A.Ea ad,.slice ac A.Aw ab] a2 n yE dK.out).mono ?_;rintro e a0 ⟨t,cs,rfl,bi,dN,G⟩;obtain⟨be,b1,b2,cN,s1,s2,s3,dV,cI,cJ,dF,dC,dD,bk,bA,dG,dJ,dz,bB,bD,rfl⟩:=X7 t cs bi;have cV:=Zaa bi;clear bi;go_wp2_with fail
       refine J _ _ yF (Bg (fun _=>(Zaw (a:=⟨wn,1,none⟩) (G.block (wn.heap.size) yE)).trans aj.out)) ?_;clear J K;have aN:=ma.below (A2.Ab Bj.Ab _) G (Zab _);have b7:=G.size;have bE:=Bn pk (Ck (some (wn.heap.size)) G (Zab _));refine P6 Bj.Ab rfl rfl rfl rfl _ _ 35 rfl aw.heap.size 48 16 168 Ml N0 yH F (.slice ao F ap) aN t [.int .u8 be,b1,b2,.int .u8 cN,.int .u64 s1,.int .u64 s2,.int .u64 s3,.int .u64 dV,cI,cJ,.slice dF dC dD,bk,bA,.slice dG dJ dz,bB,bD]
        (Bj.Ab.wide cV.out (fun b U=>⟨⟨U.2,fun e=>sM⟩,yE⟩)) rfl yL yP yE yE
        (wn.heap.size) 1 37 [.string gb,.slice ao F ap] yE ((G.block _ yE).trans ri.out) rfl (fun W=>yU) (fun v=>⟨rfl,rfl⟩) (fun v fy W=>yU) (fun v ak nr ax W h1 h2=>yU)
        (Bg (fun h=>(Zaw (a:=⟨wn,1,none⟩) ((Af _).block (wn.heap.size) yE)).trans h)) ?_
       intro ak ax bs l0 dX aH aJ al nn _;have oc:=Lp bE al aJ (fun k e=>(aN.lt k e).1);have aP:=Zaa aH;clear aH aJ;go_wp2_with fail
       go_roundw
       case rel=>exact⟨F+1,F++[t],_,yE,yK,yF,Fa c0 dN,l0,aP.out,oc⟩
       case measure=>simp[intOf];omega
      obtain rfl:a6=F:=by omega
      have ek:¬((F.length:Int) <F.length):=yE;have ci:=bf.fresh Bj.Ab;have hI:A2 Cf a9 wr (fun b=>b<wr/\some b≠(Value.slice du D dv).ownBlock) ⟨gb,F⟩ [.string gb,.slice ao F ap]:=
       ⟨_,rfl,(Al.Ab Bj.Ab).wide ci (fun b U=>⟨⟨U.2,fun e=>by have:=(M.lt b e.symm).2;omega⟩,yE⟩)⟩
      have dj:=M.below (A2.Ab Cf.Ab _) aB (Zab _);have bp:=(aB.block (w+2) yE).trans d7.out;have dn:=Bn H (Ck (some (w.heap.size+2)) aB (Zab _));have bz:=A4 aW;have dw:=bz 0 _ rfl;have dy:=bz 1 _ rfl;have v2:=A4 bp 2 _ rfl;simp only[Zac]at dw dy v2;have dE:=Zaa hI;have da:=Zaa bp;clear ci hI bp bz c7 aW;go_wp2_with (at_builtin;go_loud (refine Am (A2.Ab Cf.Ab _) rfl _ _ 28 rfl a9.heap.size 37 2 40 N9 Pt yH D _ rfl dj ⟨gb,F⟩ [.string gb,.slice ao F ap] rfl rfl dE.out rfl yL yP yE yE ?_;intro ak ax bd cy eL bL el eo en;have b6:=(bL.block (w+2) yE).trans da.out;have v3:=A4 b6 2 _ rfl;have f3:=Zhv bd (w+2) 2 _ 30 b6;simp only[Zac]at v3))
      have aE:=As bd (w+2) 2 (.slice ak (D+1) ax);have aK:=Zhy bd (w+2) 2 _ 30 (.slice ak (D+1) ax) b6;have l0:=cy.Om Cf.Ab aE yE;have oc:=Bn (Yy dn bL) aE;have aP:=Zaa aK;clear aK b6 cy;go_roundw
      case rel=>exact⟨D+1,D++[⟨gb,F⟩],_,yE,yK,yF,Agr ck bcx.out,Fa bW ⟨dk,c0⟩,l0,aP.out,oc⟩
      case measure=>simp[intOf];omega
    obtain rfl:L=D:=by omega
    have ej:¬((D.length:Int) <D.length):=yE;obtain⟨aa,di⟩:∃aa,aa=wr:=⟨_,rfl⟩;subst di;have v2:=A4 T 2 _ rfl;have f2:=Zhv aa (w+2) 2 _ 30 T;simp only[Zac]at v2;have c1:=Zaa T;clear T bl;go_upto_if 117 with fail
    go_cut [9] (fun v ay=>∃(Y:List Bc) (us:Value),ay.heap[w.heap.size+2]? =some (.cells #[qp,.slice e6 e4 gc,us] 30 (0,0))/\Al Cf 2 ay (fun b=>a9.heap.size<=b/\b<ay) Y us/\(1<=Y.length/\Y.length<=4/\(∀(j:Nat) (y:Bc),Y[j]? =some y->D7[j]? =some y.name)/\∀y∈Y,StateM Y y)/\a9.grownBy ay (some (w.heap.size+2)))
    case first=>
     rcases Zfz D.length with h0 | h0
     ·have aT:((D.length:Int)==0)=true:=by rw[h0];rfl
      clear h0;obtain⟨az,bw⟩:=zL (aa.alloc (.cells #[.string ⟨#[97]⟩,zH] 37));have bJ:Below aa aa az:=by rw[<-bw];exact Af _
      have cj:az.rangeAt aa 0 [.string ⟨#[97]⟩,zH]:=by rw[<-bw];exact Ae _ _ _
      have cn:az.heap.size=aa.heap.size+1:=by simp[<-bw]
      have aX:=(bJ.block (w+2) yE).trans c1.out;have dA:=A4 aX 2 _ rfl;have g2:=Zhv az (w+2) 2 _ 30 aX;simp only[Zac]at dA;have aK:=Zhy az (w+2) 2 _ 30 (.slice (some ⟨aa,0,none⟩) 1 1) aX;have aE:=As az (w+2) 2 (.slice (some ⟨aa,0,none⟩) 1 1);have dQ:=Zaa aK;have d8:=Zaa cj;have c5:=Zaa cn;clear aK cj cn aX v2 f2;go_wp2_with fail
      go_meet
      case rel=>exact⟨[⟨⟨#[97]⟩,[]⟩],_,dQ.out,⟨_,_,rfl,Zab _,.inr ⟨_,_,rfl,⟨bm,by have h1:=c5.out;simp[h1]⟩,fun i ae=>by
       have e:i=0:=vB;subst e;exact⟨_,Ag d8.out (aE.block _ (by have:=c5.out;omega) (B4 yE)),_,rfl,none,0,rfl,Zab _,.inl rfl⟩⟩⟩,⟨Zab _,yH,fun j y hy=>by
        rcases j with _ | j
        ·simp only[Zad,Zbb]at hy
         subst hy;rfl
        ·simp at hy,fun y hy=>by
        simp only[Zbf]at hy;subst hy;exact⟨yF,yF⟩⟩,Bn (Yy H (bJ.mono bm)) aE⟩
     have aT:((D.length:Int)==0)=false:=by rw[Zaz];omega
     have cF:=M.fresh Cf.Ab;have db:=Zaa cF;clear cF;go_wp2_with fail
     go_meet
     case rel=>exact⟨D,_,c1.out,db.out,⟨h0,c8,ck,bW⟩,H⟩
    case rest=>
     obtain⟨Y,us,aG,bH,⟨cR,cM,dp,dq⟩,b3⟩:=hcut;have et:=b3.size;obtain⟨av,au,rfl,-⟩:=id bH;have a1:=A4 aG;refine Z2Z ?_;intro d0 d1 d2;simp only[Zac]at d0 d1 d2;have cp:=Dp ((b3.block (w+1) yE (B4 yE)).trans cZ.out);have cm:=Zaa cp;have dW:=Zaa bH;have ce:=(Al.Ab Dy.Ab).block dd.out (fun b U=>b3.block b U.2 (B4 yE));have cT:=Zaa ce;have cx:Below w w wc:=aZ.grown b3 (by have:=aZ.size;omega) (fun r e=>yM);clear cp a1 aG ce;go_wp2_with (refine Zil rfl 30 _ _ rfl (w.heap.size+1) 0 #[qp,.slice e6 e4 gc,.slice av Y au] rfl rfl cm.out yG yL ?_)
     have um:=Ao wc (w+1) [qp,.slice e6 e4 gc,.slice av Y au] 0;have bK:=Zar wc (w+1) 0 [qp,.slice e6 e4 gc,.slice av Y au] cm.out;generalize wc.setCells (w+1) 0 [.int .i64 qp,.slice e6 e4 gc,.slice av Y au]=eJ at um bK|-;refine Zho (v:=.agg #[qp,.slice e6 e4 gc,.slice av Y au]) (Aq rfl _ _ (w+1) 0 [qp,.slice e6 e4 gc,.slice av Y au] rfl bK yG yG) rfl ⟨⟨qp,e4,Y⟩,[qp,.slice e6 e4 gc,.slice av Y au],rfl,⟨_,_,rfl,?_,?_⟩,⟨⟨by show(2:Int)<=(qp:Int);omega,by show(qp:Int)<=12;omega⟩,dc.out,cR,cM,dp,dq⟩,cx.grown um cx.size (fun r e=>yM)⟩
     ·exact(Al.Ab Dy.Ab).wide ((Al.Ab Dy.Ab).block cT.out (fun b U=>um.block b yE (B4 yE))) (fun b U=>⟨yE,tF⟩)
     exact(Al.Ab Cf.Ab).wide ((Al.Ab Cf.Ab).block dW.out (fun b U=>um.block b U.2 (B4 yE))) (fun b U=>⟨yE,tF⟩)
end Go.Proofs.YtafmoofknjncpaaGreatDoor
