/- A part of the proof that ModelWrong holds: its theorems stand as they are typed. -/
import Derived.Deep.DeepCutAuto
import Derived.Test.YtafmoofknjncpaaGreatDoorR
import Derived.Test.YtafmoofknjncpaaGreatDoorS
set_option linter.all false
set_option maxRecDepth 100000
set_option maxHeartbeats 8000000
namespace Go.Proofs.YtafmoofknjncpaaGreatDoor
open Tryz Go.RowKit Go.Shelf
structure Sy where
 (kind n m:UInt8)
def Sy.cells (x:Sy):List Value:=[.int .u8 x.kind.toNat,.int .u8 x.n.toNat,.int .u8 x.m.toNat]
theorem Ej {a b:Int} (h:a=b):Value.int .i64 a=Value.int .i64 b:=by rw[h]
theorem Q8:0<8/\8<=1000:=yH
theorem Abe (s:zS) (h:s∈Ji):1<=s.size/\s.size<=10:=by
 simp only[Ji,Zbc,Zbe,Zic]at h;rcases h with rfl | rfl | rfl | rfl | rfl | rfl | rfl | rfl | rfl | rfl | rfl | rfl<;>exact⟨yH,yH⟩
theorem Yr (l:Cc) (a7:l.kind=2) (U:¬l.blank) (hp:l.plain):Cd (.node l [])/\(Tree.node l []:Rx).Da<=1/\(Tree.node l []:Rx).B3=0:=by
 refine⟨Cd.node.2 ⟨.cls _ a7 U hp,yF⟩,?_,?_⟩
 ·simp[Tree.Da,Tree.Cm,a7]
 rw[E0,if_neg yY];rfl
theorem Q7:Cd (.node (Fq 1) [])/\(Tree.node (Fq 1) []:Rx).Da<=1/\(Tree.node (Fq 1) []:Rx).B3=0:=by
 refine⟨Cd.node.2 ⟨.empty _ rfl (Ki 1) (Kh 1),yF⟩,by simp[Tree.Da,Tree.Cm,Fq],?_⟩;rw[E0,if_neg yH];rfl
theorem Agv (l:List Sy) (L bO:Nat) (d3:min (bO:Int) 25=(L:Int)) (bB:l=L) (d5:L<=25) (a:zO) (c:Nat) (cV:L<=c) (w:zN) (n:Nat) (cT:n<=w) (b1:Bs w n 3 a (l.map Sy.cells)):
  Calls prog 48 #[.slice a bO c] w fun e w'=>∃t cs,e=.returned (.agg cs.toArray)/\B2 w' (fun b=>w<=b/\b<w') t cs/\F3 t/\t.size<=26/\Below w w w':=by
 have d4:max (L:Int) 0=L:=yE
 obtain⟨aD,gd⟩:=zL (w.alloc (.cells zV 43))
 have bo:Below w w aD:=by rw[<-gd];exact Af _
 have bF:aD.heap.size=w+1:=xY
 have bC:aD.heap[w.heap.size]? =some (.cells zV 43 (0,0)):=by rw[<-gd];exact Zhe w _
 have bY:=Zaa bC
 have x2:=Zaa bF
 have cF:=Zaa b1
 have cK:=Zaa bB
 clear bC bF b1 bB
 go_enter func48,ntmps48
 go_wp2_with fail
 clear gd
 go_loopw [3,4,5,22] (fun v cw cu cv wr=>∃(i:Nat) (p:List Rx) (u g:Nat),i<=L/\cv=.int .i64 i/\cw=.int .i64 u/\cu=.int .i64 g/\Au (A2 B2 (w+1)) (w+1) 43 8 wr p v/\F2 p i u g/\Below (w+1) aD wr) (fun _ _ _ v _=>L - (intOf v).toNat)
 case atStart=>exact⟨0,[],1,0,Zap _,rfl,rfl,rfl,Au.nil _ _ _ _ _,F2.nil,Zai _ _⟩
 case round=>
  obtain⟨i,p,u,g,cS,rfl,rfl,rfl,an,H,U⟩:=hrel;obtain⟨bA,gc,rfl,qv⟩:=an.shape;have dj:=H.one;have d9:=H.Cj;have bv:=H.nine;by_cases bT:i<L
  ·have df:(i:Int) <L:=by omega
   have aY:i<l:=by rw[cK.out];exact bT
   rcases cF.out with e | ⟨b,o,rfl,dc,bq⟩
   ·rw[Zbr]at e;rw[e]at aY;simp at aY
   have af:=bo.trans (U.mono wZ);have h1:=Aa (bq i (by simpa using aY)).1 af yE;rw[Zbh]at h1;generalize l[i]=x at h1;obtain⟨k,m,bits⟩:=x;have cE:=k.toNat_lt;have cL:=m.toNat_lt;have c0:=bits.toNat_lt;simp only[Sy.cells]at h1;generalize k.toNat=Y at h1 cE;obtain⟨M,a7⟩:∃M,M=m.toNat:=⟨_,rfl⟩;generalize bits.toNat=B at h1 c0;have d0:=h1 0 _ rfl;have d1:=h1 1 _ rfl;have d2:=h1 2 _ rfl;simp only[Zaf]at d0;obtain⟨ay,ic⟩:=zL (wr.alloc (.cells #[.int .u8 Y,m,.int .u8 B] 169));refine Z2N ?_;intro bt np;have j8:ay.rangeAt wr 0 [.int .u8 Y,m,.int .u8 B]:=by rw[<-ic];exact Ae wr [.int .u8 Y,m,.int .u8 B] 169
   have aC:=j8 0 _ rfl;have ao:=j8 1 _ rfl;have aB:=j8 2 _ rfl;simp only[Zac]at aC ao aB;have aU:p<=i:=by have h1:=H.size;have h2:=Tree.Co p;omega
   have bK:=an.below (A2.Ab B2.Ab _) bt (Zab _);have iv:=U.trans (bt.mono (by have:=U.size;have:=x2.out;omega));have bM:p.length+1<=maxLen/\(p.length+1)*80<=140737488355328:=⟨yP,yE⟩;have aE:=Zaa bM;have ff:=Zaa bK;have dw:=Zaa H;have c2:=Zaa iv;have bS:=U.size;have cy:=x2.out;obtain⟨q,aP⟩:∃q,q=p.length:=⟨_,rfl⟩;rw[<-aP]at ff aU qv|-;have hv:=Zaa aP;clear an bK H U iv bq h1 j8 aP af bM;rcases(show(Y:Int)%12<4\/(Y:Int)%12=4\/(5<=(Y:Int)%12/\(Y:Int)%12<7)\/(7<=(Y:Int)%12/\(Y:Int)%12<9)\/(Y:Int)%12=9\/10<=(Y:Int)%12 from yE)with h12 | h12 | h12 | h12 | h12 | h12
   ·as_aux_lemma=>
     clear a7;go_wp2_with fail
     refine(Adw m _).mono ?_;rintro e cR ⟨s,rfl,bV,b2⟩;go_wp2_with fail
     have bN:=Abe s bV;refine(Y5 s bN.1 bN.2 _).mono ?_;rintro e ad ⟨⟨ep,v0,v1,v2,v3,fg,gi⟩,cs,rfl,a5,a8,al,am,af⟩;obtain⟨bn,br,rfl⟩:=C3 a5;have fx:Below ay ay ad:=b2.trans (af.mono b2.size);have ah:=Yr _ a8 al am;have ai:=Zaa ah;have aX:=Zaa a5;simp only at a8;clear ah a5 a8 al am;have hI:A2 B2 (w+1) ad (fun b=>b< (ad).heap.size/\some b≠(Value.slice bA q gc).ownBlock) (.node ⟨ep,v0,v1,v2,v3,fg,gi⟩ []) [ep,v0,v1,v2,v3,fg,gi,.slice bn 0 br]:=Tree.A6.mono aX.out (fun b U=>U.elim);have ht:=Zaa hI;have dv:=ff.out.below (A2.Ab B2.Ab _) fx (Zab _);have hs:=Zaa dv;have bp:=fx.size;clear hI dv;dsimp only;go_step;refine Iq Ez E9 Q8 rfl rfl rfl rfl ?_;go_wp2_with (at_builtin;go_loud (refine Am (A2.Ab B2.Ab _) rfl _ _ 41 rfl (w.heap.size+1) 43 8 80 Ez E9 yH p _ rfl hs.out (.node ⟨ep,v0,v1,v2,v3,fg,gi⟩ []) [ep,v0,v1,v2,v3,fg,gi,.slice bn 0 br] rfl yE ht.out rfl yL aE.out.1 aE.out.2 yE ?_;intro ak ax ag cj cJ aN cG cB _))
     go_roundw
     case rel=>exact⟨i+1,p++[(.node ⟨ep,v0,v1,v2,v3,fg,gi⟩ [])],u,g,yE,yK,rfl,rfl,cj,dw.out.leaf yE ai.out.1 rfl ai.out.2.1 ai.out.2.2,c2.out.trans ((fx.mono yE).trans (aN.mono yE))⟩
     case measure=>simp[intOf];omega
   ·as_aux_lemma=>
     clear a7;have fx:Below ay ay ay:=Zai _ _;have hI:A2 B2 (w+1) ay (fun b=>b< (ay).heap.size/\some b≠(Value.slice bA q gc).ownBlock) (.node (Fq 1) []) [.int .u8 1,zI,zI,zI,zI,zE,zE,zH]:=Tree.A6.shut (E:=Cc.cells) (l:=Fq 1) (Zap _) (.inl rfl);have ht:=Zaa hI;have dv:=ff.out.below (A2.Ab B2.Ab _) fx (Zab _);have hs:=Zaa dv;have bp:=fx.size;clear hI dv;go_upto_region 11 with fail
     go_step;iterate 6 go_step
     refine Iq Ez E9 Q8 rfl rfl rfl rfl ?_;go_wp2_with (at_builtin;go_loud (refine Am (A2.Ab B2.Ab _) rfl _ _ 41 rfl (w.heap.size+1) 43 8 80 Ez E9 yH p _ rfl hs.out (.node (Fq 1) []) [.int .u8 1,zI,zI,zI,zI,zE,zE,zH] rfl yE ht.out rfl yL aE.out.1 aE.out.2 yE ?_;intro ak ax ag cj cJ aN cG cB _))
     go_roundw
     case rel=>exact⟨i+1,p++[(.node (Fq 1) [])],u,g,yE,yK,rfl,rfl,cj,dw.out.leaf yE Q7.1 rfl Q7.2.1 Q7.2.2,c2.out.trans ((fx.mono yE).trans (aN.mono yE))⟩
     case measure=>simp[intOf];omega
   ·as_aux_lemma=>
     clear a7;have bE:¬((Y:Int)%12<4):=yE;have bs:((Y:Int)%12==4)=false:=yZ;have bm:(Y:Int)%12<7:=yE;have bl:(Y:Int)%12<9:=yE;have aJ:((Y:Int)%12==9)=false:=yZ;have bk:¬((9:Int) < (Y:Int)%12):=yE;rcases(show q=0\/q=1\/∃bc:Nat,(q:Int)=(bc:Int)+2 by rcases q with _ | _ | bc;exact .inl rfl;exact .inr (.inl rfl);exact .inr (.inr ⟨bc,yJ⟩))with rfl | rfl | ⟨bc,ac⟩
     ·go_wp2_with fail
      exact Z0o
     ·go_wp2_with fail
      exact Z0o
     have cf:p≠[]:=fun e=>by have:=hv.out;rw[e]at this;simp at this;omega
     obtain⟨bh,u0,rfl⟩:=Fu cf;have aw:bh≠[]:=fun e=>tW
     obtain⟨aq,t0,rfl⟩:=Fu aw;have k7:aq.length=bc:=vH;obtain⟨jb,aK,T,aF,aI,e2⟩:=(ff.out.at).resolve_left cf;injection T with a0 V a2;subst a0 a2;refine Z4O ?_;intro cs dn gk kq dk aQ w9 qh p6 bao;rw[p6]at kq;rw[bao]at qh;clear p6 bao;have a3:t0.size<=1000/\u0.size<=1000:=by
      exact Z1Q
     have aj:Cd t0/\Cd u0:=⟨dw.out.clean _ yF,dw.out.clean _ yF⟩;obtain⟨⟨e1,t0,t1,t2,t3,dy,gg⟩,j0⟩:=t0;obtain⟨⟨ep,v0,v1,v2,v3,fg,gi⟩,e4⟩:=u0;obtain⟨ie,gq,rfl⟩:=C3 kq;obtain⟨bn,br,rfl⟩:=C3 qh;have cc:(1:Int) < (bc:Int)+2:=yE;have bi4:=Zaa qv;have ae:=Zaa a3;have av:=Zaa aj;clear e2 dn aQ cf aw qv V a3 aj;go_wp2_with fail
     clear d0 d1 d2 aC ao aB;refine Z43 ?_;intro gd ba cjy lu qv lB ry ee c9 jm j4;refine C1 [(0,.inl none),(1,.inl none),(2,.inl none),(3,.inl none),(4,.inl none),(5,.inl none),(6,.inl none),(7,.inl none),(8,.inl none),(9,.inl none),(10,.inl (some 0)),(11,.inl none),(12,.inl none),(13,.inl none),(14,.inl none),(15,.inl (some 0)),(16,.inr []),(17,.inr []),(18,.inr []),(19,.inl none)]
      (fun _ W=>W.rangeAt jb (bc*8) [e1,t0,t1,t2,t3,dy,gg,.slice ie j0 gq]/\W.rangeAt jb ((bc+1)*8) [ep,v0,v1,v2,v3,fg,gi,.slice bn e4 br]) yG yG (fun _=>jm) ?_
     refine Z4B ?_;intro aO gM ma;generalize ay.drewN 1=bd at c9 jm j4 aO gM ma|-;have hC:Calls prog 76 #[.int .u8 3,.agg #[e1,t0,t1,t2,t3,dy,gg,.slice ie j0 gq],.agg #[ep,v0,v1,v2,v3,fg,gi,.slice bn e4 br]] bd _:=Sa 3 yH (.node ⟨e1,t0,t1,t2,t3,dy,gg⟩ j0) (.node ⟨ep,v0,v1,v2,v3,fg,gi⟩ e4) av.out.1 av.out.2 ae.out.1 ae.out.2 _ _ bd _ (fun b U=>yQ) aO gM;have c3:=Zaa hC;have bi2:=Zaa ma;have bdm:=dw.out;rw[Zdj]at bdm;have jw:=bdm.join yE (k:=3) yH;have q8:=Zaa jw;generalize bh4:F9 3 (.node ⟨e1,t0,t1,t2,t3,dy,gg⟩ j0) (.node ⟨ep,v0,v1,v2,v3,fg,gi⟩ e4)=di at c3 q8;exact Z3r
   ·as_aux_lemma=>
     clear a7;have bE:¬((Y:Int)%12<4):=yE;have bs:((Y:Int)%12==4)=false:=yZ;have bm:¬((Y:Int)%12<7):=yE;have bl:(Y:Int)%12<9:=yE;have aJ:((Y:Int)%12==9)=false:=yZ;have bk:¬((9:Int) < (Y:Int)%12):=yE;rcases(show q=0\/q=1\/∃bc:Nat,(q:Int)=(bc:Int)+2 by rcases q with _ | _ | bc;exact .inl rfl;exact .inr (.inl rfl);exact .inr (.inr ⟨bc,yJ⟩))with rfl | rfl | ⟨bc,ac⟩
     ·go_wp2_with fail
      exact Z0o
     ·go_wp2_with fail
      exact Z0o
     have cf:p≠[]:=fun e=>by have:=hv.out;rw[e]at this;simp at this;omega
     obtain⟨bh,u0,rfl⟩:=Fu cf;have aw:bh≠[]:=fun e=>tW
     obtain⟨aq,t0,rfl⟩:=Fu aw;have k7:aq.length=bc:=vH;obtain⟨jb,aK,T,aF,aI,e2⟩:=(ff.out.at).resolve_left cf;injection T with a0 V a2;subst a0 a2;refine Z4O ?_;intro cs dn gk kq dk aQ w9 qh p6 bao;rw[p6]at kq;rw[bao]at qh;clear p6 bao;have a3:t0.size<=1000/\u0.size<=1000:=by
      exact Z1Q
     have aj:Cd t0/\Cd u0:=⟨dw.out.clean _ yF,dw.out.clean _ yF⟩;obtain⟨⟨e1,t0,t1,t2,t3,dy,gg⟩,j0⟩:=t0;obtain⟨⟨ep,v0,v1,v2,v3,fg,gi⟩,e4⟩:=u0;obtain⟨ie,gq,rfl⟩:=C3 kq;obtain⟨bn,br,rfl⟩:=C3 qh;have cc:(1:Int) < (bc:Int)+2:=yE;have bi4:=Zaa qv;have ae:=Zaa a3;have av:=Zaa aj;clear e2 dn aQ cf aw qv V a3 aj;go_wp2_with fail
     clear d0 d1 d2 aC ao aB;refine Z43 ?_;intro gd ba cjy lu qv lB ry ee c9 jm j4;refine C1 [(0,.inl none),(1,.inl none),(2,.inl none),(3,.inl none),(4,.inl none),(5,.inl none),(6,.inl none),(7,.inl none),(8,.inl none),(9,.inl none),(10,.inl (some 0)),(11,.inl none),(12,.inl none),(13,.inl none),(14,.inl none),(15,.inl (some 0)),(16,.inr []),(17,.inr []),(18,.inr []),(19,.inl none)]
      (fun _ W=>W.rangeAt jb (bc*8) [e1,t0,t1,t2,t3,dy,gg,.slice ie j0 gq]/\W.rangeAt jb ((bc+1)*8) [ep,v0,v1,v2,v3,fg,gi,.slice bn e4 br]) yG yG (fun _=>jm) ?_
     refine Z4B ?_;intro aO gM ma;generalize ay.drewN 1=bd at c9 jm j4 aO gM ma|-;have hC:Calls prog 76 #[.int .u8 4,.agg #[e1,t0,t1,t2,t3,dy,gg,.slice ie j0 gq],.agg #[ep,v0,v1,v2,v3,fg,gi,.slice bn e4 br]] bd _:=Sa 4 yH (.node ⟨e1,t0,t1,t2,t3,dy,gg⟩ j0) (.node ⟨ep,v0,v1,v2,v3,fg,gi⟩ e4) av.out.1 av.out.2 ae.out.1 ae.out.2 _ _ bd _ (fun b U=>yQ) aO gM;have c3:=Zaa hC;have bi2:=Zaa ma;have bdm:=dw.out;rw[Zdj]at bdm;have jw:=bdm.join yE (k:=4) yH;have q8:=Zaa jw;generalize bh4:F9 4 (.node ⟨e1,t0,t1,t2,t3,dy,gg⟩ j0) (.node ⟨ep,v0,v1,v2,v3,fg,gi⟩ e4)=di at c3 q8;exact Z3r
   ·as_aux_lemma=>
     clear a7;by_cases bv:g<9
     ·rcases(show q=0\/∃bc:Nat,(q:Int)=(bc:Int)+1 by rcases q with _ | bc;exact .inl rfl;exact .inr ⟨bc,yF⟩)with rfl | ⟨bc,ac⟩
      ·go_wp2_with fail
       exact Z0o
      refine Z3A ?_;intro cf;obtain⟨aq,t0,rfl⟩:=Fu cf;have k7:aq.length=bc:=vH;obtain⟨jb,aK,T,aF,aI,e2⟩:=(ff.out.at).resolve_left cf;injection T with a0 V a2;subst a0 a2;obtain⟨cs,dn,gk,kq,-⟩:=e2 bc yJ;rw[Zbn yE]at kq;simp only[k7,Zgj,Zek]at kq;obtain⟨⟨e1,t0,t1,t2,t3,dy,gg⟩,j0⟩:=t0;obtain⟨ie,gq,rfl⟩:=C3 kq;refine Z4c ?_;intro o3 i4 iw e0 tu wu wv wx;simp only[Zaf]at o3;clear e2 dn gk V cf;have cb:(g:Int) <9:=yE;have hC:=Ai0 _ _ ay _ (fun b U=>U.1.1) kq;have c3:=Zaa hC;clear hC kq;go_wp2_with fail
      refine Z0P ?_;rintro e ad ⟨cx,rfl,e7,af⟩;have dv:=ff.out.below (A2.Ab B2.Ab _) af (Zab _);have hy:A2 B2 (w+1) ad (fun b=>b<ad/\b≠jb) (.node (Fq 6) [(.node ⟨e1,t0,t1,t2,t3,dy,gg⟩ j0)]) cx:=Tree.A6.mono e7 fun b U=>by
       exact Z2b
      obtain⟨er,cp,fc⟩:=C3 e7;have rn:cx=[.int .u8 6,.int .u64 0,.int .u64 0,.int .u64 0,.int .u64 0,.int .i64 0,.int .i64 0,.slice er 1 cp]:=fc;subst rn;refine Z2w ?_;intro ck hs o6 bp;clear dv hy e7 fc;go_wp2_with (refine Zil rfl 43 _ _ rfl _ _ _ rfl rfl ?_ ?_ ?_ ?_)
      ·exact ck.out
      ·first | kernel_rfl | exact Fg
      ·simp[Value.oneCell']
      have cj:=Au.F5 (A2.Ab B2.Ab _) hs.out (cs:=[.int .u8 6,zI,zI,zI,zI,zE,zE,.slice er 1 cp]) rfl o6.out;rw[k7]at cj;have cm:=Ao ad jb [.int .u8 6,zI,zI,zI,zI,zE,zE,.slice er 1 cp] (bc*8);generalize ad.setCells jb (bc*8) [.int .u8 6,.int .u64 0,.int .u64 0,.int .u64 0,.int .u64 0,.int .i64 0,.int .i64 0,.slice er 1 cp]=ag at cj cm|-;go_roundw
      case rel=>exact⟨i+1,aq++[(.node (Fq 6) [(.node ⟨e1,t0,t1,t2,t3,dy,gg⟩ j0)])],u,g+1,yE,Ej yE,Ej yE,Ej yE,cj,dw.out.group yE bv,(c2.out.trans (af.mono yE)).grown cm xH (fun r e=>yM)⟩
      case measure=>simp[intOf];omega
     have cb:¬((g:Int) <9):=by omega
     rcases(show q=0\/∃bc:Nat,(q:Int)=(bc:Int)+1 by rcases q with _ | bc;exact .inl rfl;exact .inr ⟨bc,yF⟩)with rfl | ⟨bc,ac⟩
     ·go_wp2_with fail
      exact Z0o
     go_wp2_with fail
     exact Z0o
   as_aux_lemma=>
    rw[<-a7]at ic ao d1 cL;clear a7;have bE:¬((Y:Int)%12<4):=yE;have bs:((Y:Int)%12==4)=false:=yZ;have bm:¬((Y:Int)%12<7):=yE;have bl:¬((Y:Int)%12<9):=yE;have aJ:((Y:Int)%12==9)=false:=yZ;have bk:(9:Int) < (Y:Int)%12:=yE;rcases(show q=0\/∃bc:Nat,(q:Int)=(bc:Int)+1 by rcases q with _ | bc;exact .inl rfl;exact .inr ⟨bc,yF⟩)with rfl | ⟨bc,ac⟩
    ·go_wp2_with fail
     exact Z0o
    refine Z3A ?_;intro cf;obtain⟨aq,t0,rfl⟩:=Fu cf;have k7:aq.length=bc:=vH;obtain⟨jb,aK,T,aF,aI,e2⟩:=(ff.out.at).resolve_left cf;injection T with a0 V a2;subst a0 a2;obtain⟨cs,dn,gk,kq,-⟩:=e2 bc yJ;rw[Zbn yE]at kq;simp only[k7,Zgj,Zek]at kq;obtain⟨⟨e1,t0,t1,t2,t3,dy,gg⟩,j0⟩:=t0;obtain⟨ie,gq,rfl⟩:=C3 kq;refine Z4c ?_;intro o3 i4 iw e0 tu wu wv wx;simp only[Zaf]at o3;clear e2 dn gk V cf;by_cases ap:e1=1
    ·have bW:((e1.toNat:Int) != 1)=false:=by rw[ap];rfl
     clear ap;go_wp2_with fail
     exact Z0o
    have bW:((e1.toNat:Int) != 1)=true:=by
     rw[bne_iff_ne];intro e;exact ap (Zha.1 (show e1.toNat=1 from yE))
    have cX:=Zaa ap;obtain⟨D,bI,cZ⟩:∃D:Nat,(M:Int).tmod 3=(D:Int)/\D<3:=⟨M%3,wN,yE⟩;obtain⟨F,bH,cY⟩:∃F:Nat,(B:Int).tmod 4=(F:Int)/\F<4:=⟨B%4,wN,yE⟩;have cP:(M:Int)%3=(D:Int):=by rw[<-bI,Zbg yE]
    have ca:(B:Int)%4=(F:Int):=by rw[<-bH,Zbg yE]
    have c5:=Zaa kq;clear ap kq;go_wp2_with fail
    go_quiet (fail)
    rename_i nq
    have ee:(ay.drewN nq).heap=ay.heap:=Zhg _ _;have c9:Below ay ay (ay.drewN nq):=below_drewN (Zai _ _) (Zab _) _;have j4:(ay.drewN nq).heap.size=ay.heap.size:=yO;have ce:(ay.drewN nq).cell? ⟨jb,bc*8,none⟩=_:=(Zaw yO).trans o3;have cg:(ay.drewN nq).cell? ⟨jb,bc*8+1,none⟩=_:=(Zaw yO).trans i4;have ch:(ay.drewN nq).cell? ⟨jb,bc*8+2,none⟩=_:=(Zaw yO).trans iw;have ci:(ay.drewN nq).cell? ⟨jb,bc*8+3,none⟩=_:=(Zaw yO).trans e0;have cl:(ay.drewN nq).cell? ⟨jb,bc*8+4,none⟩=_:=(Zaw yO).trans tu;have cn:(ay.drewN nq).cell? ⟨jb,bc*8+5,none⟩=_:=(Zaw yO).trans wu;have co:(ay.drewN nq).cell? ⟨jb,bc*8+6,none⟩=_:=(Zaw yO).trans wv;have cr:(ay.drewN nq).cell? ⟨jb,bc*8+7,none⟩=_:=(Zaw yO).trans wx;generalize ay.drewN nq=bd at c9 j4 ce cg ch ci cl cn co cr|-;have aO:=Tree.A6.below c5.out c9 (fun b U=>U.1.1);have cU:=Zaa aO;clear ee aO bI bH cP ca o3 i4 iw e0 tu wu wv wx aC ao aB d0 d1 d2;rcases(show D=0/\F=0\/D=0/\F=1\/D=0/\F=2\/D=0/\F=3\/D=1/\F=0\/D=1/\F=1\/D=1/\F=2\/D=1/\F=3\/D=2/\F=0\/D=2/\F=1\/D=2/\F=2\/D=2/\F=3 from yE)with⟨rfl,rfl⟩ | ⟨rfl,rfl⟩ | ⟨rfl,rfl⟩ | ⟨rfl,rfl⟩ | ⟨rfl,rfl⟩ | ⟨rfl,rfl⟩ | ⟨rfl,rfl⟩ | ⟨rfl,rfl⟩ | ⟨rfl,rfl⟩ | ⟨rfl,rfl⟩ | ⟨rfl,rfl⟩ | ⟨rfl,rfl⟩
    ·as_aux_lemma=>
      by_cases hu:u*1<=16
      ·have xl:(u:Int)*1<=16:=by omega
       have hC:=Hp (.node ⟨e1,t0,t1,t2,t3,dy,gg⟩ j0) 0 (-1) _ bd _ (fun b U=>yQ) cU.out;have c3:=Zaa hC;clear hC;go_wp2_with fail
       refine Z0p ?_;intro ad cx e7 af fx dv;have hy:A2 B2 (w+1) ad (fun b=>b<ad/\b≠jb) (.node ⟨5,0,0,0,0,0,(-1)⟩ [(.node ⟨e1,t0,t1,t2,t3,dy,gg⟩ j0)]) cx:=Tree.A6.mono e7 fun b U=>by
        exact Z0t
       obtain⟨er,cp,fc⟩:=C3 e7;have rn:cx=[.int .u8 5,.int .u64 0,.int .u64 0,.int .u64 0,.int .u64 0,.int .i64 0,.int .i64 (-1),.slice er 1 cp]:=fc;subst rn;clear fc;refine Z2w ?_;intro ck hs o6 bp;have kt:=dw.out.My yE cX.out 0 (-1) xQ 1 rfl yE hu;have tb:=Zaa kt;clear dv hy e7 kt;go_wp2_with (refine Zil rfl 43 _ _ rfl _ _ _ rfl rfl ?_ ?_ ?_ ?_)
       ·exact ck.out
       ·first | kernel_rfl | exact Fg
       ·simp[Value.oneCell']
       have cj:=Au.F5 (A2.Ab B2.Ab _) hs.out (cs:=[.int .u8 5,zI,zI,zI,zI,zE,zG,.slice er 1 cp]) rfl o6.out;rw[k7]at cj;have cm:=Ao ad jb [.int .u8 5,zI,zI,zI,zI,zE,zG,.slice er 1 cp] (bc*8);generalize ad.setCells jb (bc*8) [.int .u8 5,.int .u64 0,.int .u64 0,.int .u64 0,.int .u64 0,.int .i64 0,.int .i64 (-1),.slice er 1 cp]=ag at cj cm|-;go_roundw
       case rel=>exact⟨i+1,aq++[(.node ⟨5,0,0,0,0,0,(-1)⟩ [(.node ⟨e1,t0,t1,t2,t3,dy,gg⟩ j0)])],u*1,g,yE,Ej yE,Ej yE,Ej yE,cj,tb.out,(c2.out.trans (fx.mono yE)).grown cm xH (fun r e=>yM)⟩
       case measure=>simp[intOf];omega
      exact absurd (show u*1<=16 from yE) hu
    ·as_aux_lemma=>
      by_cases hu:u*1<=16
      ·have xl:(u:Int)*1<=16:=by omega
       have hC:=Hp (.node ⟨e1,t0,t1,t2,t3,dy,gg⟩ j0) 0 1 _ bd _ (fun b U=>yQ) cU.out;have c3:=Zaa hC;clear hC;go_wp2_with fail
       refine Z0p ?_;intro ad cx e7 af fx dv;have hy:A2 B2 (w+1) ad (fun b=>b<ad/\b≠jb) (.node ⟨5,0,0,0,0,0,1⟩ [(.node ⟨e1,t0,t1,t2,t3,dy,gg⟩ j0)]) cx:=Tree.A6.mono e7 fun b U=>by
        exact Z0t
       obtain⟨er,cp,fc⟩:=C3 e7;have rn:cx=[.int .u8 5,.int .u64 0,.int .u64 0,.int .u64 0,.int .u64 0,.int .i64 0,.int .i64 1,.slice er 1 cp]:=fc;subst rn;clear fc;refine Z2w ?_;intro ck hs o6 bp;have kt:=dw.out.My yE cX.out 0 1 xQ 1 rfl yE hu;have tb:=Zaa kt;clear dv hy e7 kt;go_wp2_with (refine Zil rfl 43 _ _ rfl _ _ _ rfl rfl ?_ ?_ ?_ ?_)
       ·exact ck.out
       ·first | kernel_rfl | exact Fg
       ·simp[Value.oneCell']
       have cj:=Au.F5 (A2.Ab B2.Ab _) hs.out (cs:=[.int .u8 5,zI,zI,zI,zI,zE,zF,.slice er 1 cp]) rfl o6.out;rw[k7]at cj;have cm:=Ao ad jb [.int .u8 5,zI,zI,zI,zI,zE,zF,.slice er 1 cp] (bc*8);generalize ad.setCells jb (bc*8) [.int .u8 5,.int .u64 0,.int .u64 0,.int .u64 0,.int .u64 0,.int .i64 0,.int .i64 1,.slice er 1 cp]=ag at cj cm|-;go_roundw
       case rel=>exact⟨i+1,aq++[(.node ⟨5,0,0,0,0,0,1⟩ [(.node ⟨e1,t0,t1,t2,t3,dy,gg⟩ j0)])],u*1,g,yE,Ej yE,Ej yE,Ej yE,cj,tb.out,(c2.out.trans (fx.mono yE)).grown cm xH (fun r e=>yM)⟩
       case measure=>simp[intOf];omega
      exact absurd (show u*1<=16 from yE) hu
    ·as_aux_lemma=>
      by_cases hu:u*2<=16
      ·have xl:(u:Int)*2<=16:=by omega
       have hC:=Hp (.node ⟨e1,t0,t1,t2,t3,dy,gg⟩ j0) 0 2 _ bd _ (fun b U=>yQ) cU.out;have c3:=Zaa hC;clear hC;go_wp2_with fail
       refine Z0p ?_;intro ad cx e7 af fx dv;have hy:A2 B2 (w+1) ad (fun b=>b<ad/\b≠jb) (.node ⟨5,0,0,0,0,0,2⟩ [(.node ⟨e1,t0,t1,t2,t3,dy,gg⟩ j0)]) cx:=Tree.A6.mono e7 fun b U=>by
        exact Z0t
       obtain⟨er,cp,fc⟩:=C3 e7;have rn:cx=[.int .u8 5,.int .u64 0,.int .u64 0,.int .u64 0,.int .u64 0,.int .i64 0,.int .i64 2,.slice er 1 cp]:=fc;subst rn;clear fc;refine Z2w ?_;intro ck hs o6 bp;have kt:=dw.out.My yE cX.out 0 2 xQ 2 rfl yE hu;have tb:=Zaa kt;clear dv hy e7 kt;go_wp2_with (refine Zil rfl 43 _ _ rfl _ _ _ rfl rfl ?_ ?_ ?_ ?_)
       ·exact ck.out
       ·first | kernel_rfl | exact Fg
       ·simp[Value.oneCell']
       have cj:=Au.F5 (A2.Ab B2.Ab _) hs.out (cs:=[.int .u8 5,zI,zI,zI,zI,zE,.int .i64 2,.slice er 1 cp]) rfl o6.out;rw[k7]at cj;have cm:=Ao ad jb [.int .u8 5,zI,zI,zI,zI,zE,.int .i64 2,.slice er 1 cp] (bc*8);generalize ad.setCells jb (bc*8) [.int .u8 5,.int .u64 0,.int .u64 0,.int .u64 0,.int .u64 0,.int .i64 0,.int .i64 2,.slice er 1 cp]=ag at cj cm|-;go_roundw
       case rel=>exact⟨i+1,aq++[(.node ⟨5,0,0,0,0,0,2⟩ [(.node ⟨e1,t0,t1,t2,t3,dy,gg⟩ j0)])],u*2,g,yE,Ej yE,Ej yE,Ej yE,cj,tb.out,(c2.out.trans (fx.mono yE)).grown cm xH (fun r e=>yM)⟩
       case measure=>simp[intOf];omega
      exact Z3j
    ·as_aux_lemma=>
      by_cases hu:u*3<=16
      ·have xl:(u:Int)*3<=16:=by omega
       have hC:=Hp (.node ⟨e1,t0,t1,t2,t3,dy,gg⟩ j0) 0 3 _ bd _ (fun b U=>yQ) cU.out;have c3:=Zaa hC;clear hC;go_wp2_with fail
       refine Z0p ?_;intro ad cx e7 af fx dv;have hy:A2 B2 (w+1) ad (fun b=>b<ad/\b≠jb) (.node ⟨5,0,0,0,0,0,3⟩ [(.node ⟨e1,t0,t1,t2,t3,dy,gg⟩ j0)]) cx:=Tree.A6.mono e7 fun b U=>by
        exact Z0t
       obtain⟨er,cp,fc⟩:=C3 e7;have rn:cx=[.int .u8 5,.int .u64 0,.int .u64 0,.int .u64 0,.int .u64 0,.int .i64 0,.int .i64 3,.slice er 1 cp]:=fc;subst rn;clear fc;refine Z2w ?_;intro ck hs o6 bp;have kt:=dw.out.My yE cX.out 0 3 xQ 3 rfl yE hu;have tb:=Zaa kt;clear dv hy e7 kt;go_wp2_with (refine Zil rfl 43 _ _ rfl _ _ _ rfl rfl ?_ ?_ ?_ ?_)
       ·exact ck.out
       ·first | kernel_rfl | exact Fg
       ·simp[Value.oneCell']
       have cj:=Au.F5 (A2.Ab B2.Ab _) hs.out (cs:=[.int .u8 5,zI,zI,zI,zI,zE,.int .i64 3,.slice er 1 cp]) rfl o6.out;rw[k7]at cj;have cm:=Ao ad jb [.int .u8 5,zI,zI,zI,zI,zE,.int .i64 3,.slice er 1 cp] (bc*8);generalize ad.setCells jb (bc*8) [.int .u8 5,.int .u64 0,.int .u64 0,.int .u64 0,.int .u64 0,.int .i64 0,.int .i64 3,.slice er 1 cp]=ag at cj cm|-;go_roundw
       case rel=>exact⟨i+1,aq++[(.node ⟨5,0,0,0,0,0,3⟩ [(.node ⟨e1,t0,t1,t2,t3,dy,gg⟩ j0)])],u*3,g,yE,Ej yE,Ej yE,Ej yE,cj,tb.out,(c2.out.trans (fx.mono yE)).grown cm xH (fun r e=>yM)⟩
       case measure=>simp[intOf];omega
      exact Z3i
    ·as_aux_lemma=>
      exact Z0c
    ·as_aux_lemma=>
      exact Z0c
    ·as_aux_lemma=>
      by_cases hu:u*2<=16
      ·have xl:(u:Int)*2<=16:=by omega
       have hC:=Hp (.node ⟨e1,t0,t1,t2,t3,dy,gg⟩ j0) 1 2 _ bd _ (fun b U=>yQ) cU.out;have c3:=Zaa hC;clear hC;go_wp2_with fail
       refine Z0p ?_;intro ad cx e7 af fx dv;have hy:A2 B2 (w+1) ad (fun b=>b<ad/\b≠jb) (.node ⟨5,0,0,0,0,1,2⟩ [(.node ⟨e1,t0,t1,t2,t3,dy,gg⟩ j0)]) cx:=Tree.A6.mono e7 fun b U=>by
        exact Z0t
       obtain⟨er,cp,fc⟩:=C3 e7;have rn:cx=[.int .u8 5,.int .u64 0,.int .u64 0,.int .u64 0,.int .u64 0,.int .i64 1,.int .i64 2,.slice er 1 cp]:=fc;subst rn;clear fc;refine Z2w ?_;intro ck hs o6 bp;have kt:=dw.out.My yE cX.out 1 2 xQ 2 rfl yE hu;have tb:=Zaa kt;clear dv hy e7 kt;go_wp2_with (refine Zil rfl 43 _ _ rfl _ _ _ rfl rfl ?_ ?_ ?_ ?_)
       ·exact ck.out
       ·first | kernel_rfl | exact Fg
       ·simp[Value.oneCell']
       have cj:=Au.F5 (A2.Ab B2.Ab _) hs.out (cs:=[.int .u8 5,zI,zI,zI,zI,zF,.int .i64 2,.slice er 1 cp]) rfl o6.out;rw[k7]at cj;have cm:=Ao ad jb [.int .u8 5,zI,zI,zI,zI,zF,.int .i64 2,.slice er 1 cp] (bc*8);generalize ad.setCells jb (bc*8) [.int .u8 5,.int .u64 0,.int .u64 0,.int .u64 0,.int .u64 0,.int .i64 1,.int .i64 2,.slice er 1 cp]=ag at cj cm|-;go_roundw
       case rel=>exact⟨i+1,aq++[(.node ⟨5,0,0,0,0,1,2⟩ [(.node ⟨e1,t0,t1,t2,t3,dy,gg⟩ j0)])],u*2,g,yE,Ej yE,Ej yE,Ej yE,cj,tb.out,(c2.out.trans (fx.mono yE)).grown cm xH (fun r e=>yM)⟩
       case measure=>simp[intOf];omega
      exact Z3j
    ·as_aux_lemma=>
      by_cases hu:u*3<=16
      ·have xl:(u:Int)*3<=16:=by omega
       have hC:=Hp (.node ⟨e1,t0,t1,t2,t3,dy,gg⟩ j0) 1 3 _ bd _ (fun b U=>yQ) cU.out;have c3:=Zaa hC;clear hC;go_wp2_with fail
       refine Z0p ?_;intro ad cx e7 af fx dv;have hy:A2 B2 (w+1) ad (fun b=>b<ad/\b≠jb) (.node ⟨5,0,0,0,0,1,3⟩ [(.node ⟨e1,t0,t1,t2,t3,dy,gg⟩ j0)]) cx:=Tree.A6.mono e7 fun b U=>by
        exact Z0t
       obtain⟨er,cp,fc⟩:=C3 e7;have rn:cx=[.int .u8 5,.int .u64 0,.int .u64 0,.int .u64 0,.int .u64 0,.int .i64 1,.int .i64 3,.slice er 1 cp]:=fc;subst rn;clear fc;refine Z2w ?_;intro ck hs o6 bp;have kt:=dw.out.My yE cX.out 1 3 xQ 3 rfl yE hu;have tb:=Zaa kt;clear dv hy e7 kt;go_wp2_with (refine Zil rfl 43 _ _ rfl _ _ _ rfl rfl ?_ ?_ ?_ ?_)
       ·exact ck.out
       ·first | kernel_rfl | exact Fg
       ·simp[Value.oneCell']
       have cj:=Au.F5 (A2.Ab B2.Ab _) hs.out (cs:=[.int .u8 5,zI,zI,zI,zI,zF,.int .i64 3,.slice er 1 cp]) rfl o6.out;rw[k7]at cj;have cm:=Ao ad jb [.int .u8 5,zI,zI,zI,zI,zF,.int .i64 3,.slice er 1 cp] (bc*8);generalize ad.setCells jb (bc*8) [.int .u8 5,.int .u64 0,.int .u64 0,.int .u64 0,.int .u64 0,.int .i64 1,.int .i64 3,.slice er 1 cp]=ag at cj cm|-;go_roundw
       case rel=>exact⟨i+1,aq++[(.node ⟨5,0,0,0,0,1,3⟩ [(.node ⟨e1,t0,t1,t2,t3,dy,gg⟩ j0)])],u*3,g,yE,Ej yE,Ej yE,Ej yE,cj,tb.out,(c2.out.trans (fx.mono yE)).grown cm xH (fun r e=>yM)⟩
       case measure=>simp[intOf];omega
      exact Z3i
    ·as_aux_lemma=>
      exact Z0a
    ·as_aux_lemma=>
      exact Z0a
    ·as_aux_lemma=>
      by_cases hu:u*2<=16
      ·have xl:(u:Int)*2<=16:=by omega
       have hC:=Hp (.node ⟨e1,t0,t1,t2,t3,dy,gg⟩ j0) 2 2 _ bd _ (fun b U=>yQ) cU.out;have c3:=Zaa hC;clear hC;go_wp2_with fail
       refine Z0p ?_;intro ad cx e7 af fx dv;have hy:A2 B2 (w+1) ad (fun b=>b<ad/\b≠jb) (.node ⟨5,0,0,0,0,2,2⟩ [(.node ⟨e1,t0,t1,t2,t3,dy,gg⟩ j0)]) cx:=Tree.A6.mono e7 fun b U=>by
        exact Z0t
       obtain⟨er,cp,fc⟩:=C3 e7;have rn:cx=[.int .u8 5,.int .u64 0,.int .u64 0,.int .u64 0,.int .u64 0,.int .i64 2,.int .i64 2,.slice er 1 cp]:=fc;subst rn;clear fc;refine Z2w ?_;intro ck hs o6 bp;have kt:=dw.out.My yE cX.out 2 2 xQ 2 rfl yE hu;have tb:=Zaa kt;clear dv hy e7 kt;go_wp2_with (refine Zil rfl 43 _ _ rfl _ _ _ rfl rfl ?_ ?_ ?_ ?_)
       ·exact ck.out
       ·first | kernel_rfl | exact Fg
       ·simp[Value.oneCell']
       have cj:=Au.F5 (A2.Ab B2.Ab _) hs.out (cs:=[.int .u8 5,zI,zI,zI,zI,.int .i64 2,.int .i64 2,.slice er 1 cp]) rfl o6.out;rw[k7]at cj;have cm:=Ao ad jb [.int .u8 5,zI,zI,zI,zI,.int .i64 2,.int .i64 2,.slice er 1 cp] (bc*8);generalize ad.setCells jb (bc*8) [.int .u8 5,.int .u64 0,.int .u64 0,.int .u64 0,.int .u64 0,.int .i64 2,.int .i64 2,.slice er 1 cp]=ag at cj cm|-;go_roundw
       case rel=>exact⟨i+1,aq++[(.node ⟨5,0,0,0,0,2,2⟩ [(.node ⟨e1,t0,t1,t2,t3,dy,gg⟩ j0)])],u*2,g,yE,Ej yE,Ej yE,Ej yE,cj,tb.out,(c2.out.trans (fx.mono yE)).grown cm xH (fun r e=>yM)⟩
       case measure=>simp[intOf];omega
      exact Z3j
    as_aux_lemma=>
     by_cases hu:u*3<=16
     ·have xl:(u:Int)*3<=16:=by omega
      have hC:=Hp (.node ⟨e1,t0,t1,t2,t3,dy,gg⟩ j0) 2 3 _ bd _ (fun b U=>yQ) cU.out;have c3:=Zaa hC;clear hC;go_wp2_with fail
      refine Z0p ?_;intro ad cx e7 af fx dv;have hy:A2 B2 (w+1) ad (fun b=>b<ad/\b≠jb) (.node ⟨5,0,0,0,0,2,3⟩ [(.node ⟨e1,t0,t1,t2,t3,dy,gg⟩ j0)]) cx:=Tree.A6.mono e7 fun b U=>by
       exact Z0t
      obtain⟨er,cp,fc⟩:=C3 e7;have rn:cx=[.int .u8 5,.int .u64 0,.int .u64 0,.int .u64 0,.int .u64 0,.int .i64 2,.int .i64 3,.slice er 1 cp]:=fc;subst rn;clear fc;refine Z2w ?_;intro ck hs o6 bp;have kt:=dw.out.My yE cX.out 2 3 xQ 3 rfl yE hu;have tb:=Zaa kt;clear dv hy e7 kt;go_wp2_with (refine Zil rfl 43 _ _ rfl _ _ _ rfl rfl ?_ ?_ ?_ ?_)
      ·exact ck.out
      ·first | kernel_rfl | exact Fg
      ·simp[Value.oneCell']
      have cj:=Au.F5 (A2.Ab B2.Ab _) hs.out (cs:=[.int .u8 5,zI,zI,zI,zI,.int .i64 2,.int .i64 3,.slice er 1 cp]) rfl o6.out;rw[k7]at cj;have cm:=Ao ad jb [.int .u8 5,zI,zI,zI,zI,.int .i64 2,.int .i64 3,.slice er 1 cp] (bc*8);generalize ad.setCells jb (bc*8) [.int .u8 5,.int .u64 0,.int .u64 0,.int .u64 0,.int .u64 0,.int .i64 2,.int .i64 3,.slice er 1 cp]=ag at cj cm|-;go_roundw
      case rel=>exact⟨i+1,aq++[(.node ⟨5,0,0,0,0,2,3⟩ [(.node ⟨e1,t0,t1,t2,t3,dy,gg⟩ j0)])],u*3,g,yE,Ej yE,Ej yE,Ej yE,cj,tb.out,(c2.out.trans (fx.mono yE)).grown cm xH (fun r e=>yM)⟩
      case measure=>simp[intOf];omega
     exact Z3i
  obtain rfl:i=L:=by omega
  have db:¬((i:Int) <i):=yE;obtain⟨A,bZ⟩:∃A,A=wr:=⟨_,rfl⟩;subst bZ;have iv:=bo.trans (U.mono wZ);have bQ:=(U.block w yE).trans bY.out;have bJ:=Zaa bQ;have bS:=U.size;have cy:=x2.out;have d8:=H.Fm;clear bQ;cases p with
  | nil=>
   simp only[Zav];go_wp2_with fail
   refine(Y5 ⟨#[97]⟩ yH yH _).mono ?_;rintro e ad ⟨⟨ep,v0,v1,v2,v3,fg,gi⟩,cs,rfl,a5,a8,al,am,af⟩;obtain⟨bn,br,rfl⟩:=C3 a5;simp only[Zav]at a5|-;have ah:=Yr _ a8 al am;have ai:=Zaa ah;have aX:=Zaa a5;have ck:=Zaa (Dp ((af.block w yE).trans bJ.out));have dg:=af.size;simp only at a8;clear ah a5 a8 al am;go_wp2_with (refine Zil rfl 43 _ _ rfl _ _ _ rfl rfl ?_ ?_ ?_ ?_)
   ·exact ck.out
   ·first | kernel_rfl | exact Fg
   ·simp[Value.oneCell']
   have cm:=Ao ad w [ep,v0,v1,v2,v3,fg,gi,.slice bn 0 br] 0;have gp:=Zar ad w 0 [ep,v0,v1,v2,v3,fg,gi,.slice bn 0 br] ck.out;generalize ad.setCells w 0 [.int .u8 ep.toNat,.int .u64 v0.toNat,.int .u64 v1.toNat,.int .u64 v2.toNat,.int .u64 v3.toNat,.int .i64 fg,.int .i64 gi,.slice bn 0 br]=lf at cm gp|-;have bR:=iv.trans (af.mono yE);have aV:=ai.out;exact Zho (v:=.agg #[ep,v0,v1,v2,v3,fg,gi,.slice bn 0 br]) (Aq rfl _ _ w 0 [ep,v0,v1,v2,v3,fg,gi,.slice bn 0 br] rfl gp yG yG) rfl ⟨_,_,rfl,Tree.A6.mono (Tree.A6.block aX.out (fun b U=>U.elim)) (fun b U=>U.elim),⟨aV.1,wV,by have:=aV.2.1;omega,by have:=aV.2.2;omega⟩,wV,bR.grown cm bR.size (fun r e=>yM)⟩
  | cons az rest=>
   obtain⟨jb,aK,T,aF,aI,e2⟩:=(an.at).resolve_left yF;injection T with a0 V a2;subst a0 a2;have bw:=H.end_;have aU:(az::rest).length<=25:=by have h1:=H.size;have h2:=Tree.Co (az::rest);omega
   obtain⟨k,aM⟩:∃k,k=(az::rest).length:=⟨_,rfl⟩;obtain⟨bc,aW⟩:∃bc,bc=rest.length:=⟨_,rfl⟩;have ac:(k:Int)=(bc:Int)+1:=by rw[aM,aW];simp
   have dh:k<=gc:=yE;have de:k<=25:=yE;rw[<-aM];have cM:=Zaa e2;obtain⟨cs,dn,gk,kq,-⟩:=e2 0 yF;simp only[Zek]at kq;obtain⟨⟨e1,t0,t1,t2,t3,dy,gg⟩,j0⟩:=az;obtain⟨ie,gq,rfl⟩:=C3 kq;have o3:=gk 0 _ rfl;have i4:=gk 1 _ rfl;have iw:=gk 2 _ rfl;have e0:=gk 3 _ rfl;have tu:=gk 4 _ rfl;have wu:=gk 5 _ rfl;have wv:=gk 6 _ rfl;have wx:=gk 7 _ rfl;simp only[Zgl,Zac]at o3 i4 iw e0 tu wu wv wx;have aJ:((bc:Int)+1==0)=false:=yZ;obtain⟨ar,aT⟩:=zL (A.alloc (.cells #[e1,t0,t1,t2,t3,dy,gg,.slice ie j0 gq] 43));have bG:Below A A ar:=by rw[<-aT];exact Af _
   have cQ:ar.heap.size=A.heap.size+1:=by rw[<-aT];simp
   have be:ar.heap[A.heap.size]? =some (.cells #[e1,t0,t1,t2,t3,dy,gg,.slice ie j0 gq] 43 (0,0)):=by rw[<-aT];exact Zhe A _
   have bg:B2 ar (fun b=>w+1<=b/\b<ar/\b≠A.heap.size) (.node ⟨e1,t0,t1,t2,t3,dy,gg⟩ j0) [e1,t0,t1,t2,t3,dy,gg,.slice ie j0 gq]:=Tree.A6.mono (Tree.A6.below kq bG (fun b U=>U.1.1)) fun b U=>by
    have h1:=U.1.1;have h2:=U.2;omega
   have bL:=Zaa bw;have b9:=Zaa bG;have b6:=Zaa be;have bb:=Zaa bg;have aA:bc=rest.length:=aW;clear bw bg be e2 gk kq dn aM an H qv V aU;have bim:=Zaa aA;clear aA aW;have cd:max (bc:Int) 0=bc:=yE;by_cases b4:gc=1
   ·subst b4
    obtain rfl:bc=0:=yE;obtain rfl:k=1:=yE;clear ac aJ cd;go_wp2_with fail
    go_loopw [195] (fun v G=>∃(j:Nat) (t:Rx) (cs:zP),j<=0/\v=.int .i64 j/\B2 G (fun b=>w+1<=b/\b<G/\b≠A.heap.size) t cs/\G.heap[A.heap.size]? =some (.cells cs.toArray 43 (0,0))/\Py t (rest.drop j)/\Below A A G/\A.heap.size<G.heap.size) (fun v _=>0 - (intOf v).toNat)
    case atStart=>exact⟨0,_,[e1,t0,t1,t2,t3,dy,gg,.slice ie j0 gq],Zap _,rfl,bb.out,b6.out,bL.out,b9.out,yE⟩
    case round=>
     obtain⟨j,t,cs,bU,rfl,au,nf,p7,sq,c1⟩:=hrel;by_cases bP:j<0
     ·exact absurd bP yE
     obtain rfl:j=0:=by omega
     exact Z0l
   have cW:¬(gc - 1=0):=by omega
   have d7:¬(gc=1):=b4;go_wp2_with fail
   go_loopw [195] (fun v G=>∃(j:Nat) (t:Rx) (cs:zP),j<=bc/\v=.int .i64 j/\B2 G (fun b=>w+1<=b/\b<G/\b≠A.heap.size) t cs/\G.heap[A.heap.size]? =some (.cells cs.toArray 43 (0,0))/\Py t (rest.drop j)/\Below A A G/\A.heap.size<G.heap.size) (fun v _=>bc - (intOf v).toNat)
   case atStart=>exact⟨0,_,[e1,t0,t1,t2,t3,dy,gg,.slice ie j0 gq],Zap _,rfl,bb.out,b6.out,bL.out,b9.out,yE⟩
   case round=>
    obtain⟨j,t,cs,bU,rfl,au,nf,p7,sq,c1⟩:=hrel;by_cases bP:j<bc
    ·have aA:=bim.out
     obtain⟨dk,aQ,w9,qh,-⟩:=cM.out (j+1) yJ;simp only[Zej]at qh;have bz:rest.drop j=rest[j]'yE::rest.drop (j+1):=Zbq yE;rw[bz]at p7;generalize rest[j]'yE=ct at qh p7;obtain⟨⟨aa,u0,u1,u2,u3,a9,a6⟩,ul⟩:=ct;obtain⟨aH,aG,rfl⟩:=C3 qh;obtain⟨⟨ep,v0,v1,v2,v3,fg,gi⟩,e4⟩:=t;obtain⟨bn,br,rfl⟩:=C3 au;refine Z4b ?_;intro a1 c4 dt du hg nu;have G1:=a1 5 _ rfl;have bD:=a1 6 _ rfl;have yg:=a1 7 _ rfl;simp only[Zac]at c4 dt du hg nu G1 bD yg;have O:=Aa w9 sq yE;rw[show(j+1)*8=8+j*8 from yE]at O;have bx:=O 0 _ rfl;have cz:=O 1 _ rfl;have cA:=O 2 _ rfl;have cC:=O 3 _ rfl;have cH:=O 4 _ rfl;have bX:=O 5 _ rfl;have cI:=O 6 _ rfl;have cD:=O 7 _ rfl;simp only[Zaf]at bx;obtain⟨ay,ic⟩:=zL (wr.alloc (.cells #[aa,u0,u1,u2,u3,a9,a6,.slice aH ul aG] 43));refine Z2N ?_;intro bt np;have j8:ay.rangeAt wr 0 [aa,u0,u1,u2,u3,a9,a6,.slice aH ul aG]:=by rw[<-ic];exact Ae wr [aa,u0,u1,u2,u3,a9,a6,.slice aH ul aG] 43
     have aS:=(bt.block A yE).trans nf;have a4:=A4 aS;have z0:=a4 0 _ rfl;have b5:=a4 1 _ rfl;have z2:=a4 2 _ rfl;have z3:=a4 3 _ rfl;have z4:=a4 4 _ rfl;have z5:=a4 5 _ rfl;have bu:=a4 6 _ rfl;have b7:=a4 7 _ rfl;refine Z3F ?_;intro s0 s1 s2 s3 va;have aZ:=j8 5 _ rfl;have b0:=j8 6 _ rfl;have b8:=j8 7 _ rfl;simp only[Zac]at z0 b5 z2 z3 z4 z5 bu b7 s0 s1 s2 s3 va aZ b0 b8;have bi:Below A A ay:=sq.trans (bt.mono yE);have dd:=U.size;have a3:(Tree.node ⟨ep,v0,v1,v2,v3,fg,gi⟩ e4:Rx).size<=1000/\(Tree.node ⟨aa,u0,u1,u2,u3,a9,a6⟩ ul:Rx).size<=1000:=by
      have h1:=p7.size;simp only[Tree.Bf]at h1;have h4:(if(Tree.node ⟨ep,v0,v1,v2,v3,fg,gi⟩ e4:Rx).Cx=4 then 1 else 0)<=1:=by split<;>omega
      omega
     have hC:Calls prog 76 #[.int .u8 4,.agg #[ep,v0,v1,v2,v3,fg,gi,.slice bn e4 br],.agg #[aa,u0,u1,u2,u3,a9,a6,.slice aH ul aG]] ay _:=
      Sa 4 yH (.node ⟨ep,v0,v1,v2,v3,fg,gi⟩ e4) (.node ⟨aa,u0,u1,u2,u3,a9,a6⟩ ul) p7.clean (p7.each _ yF) a3.1 a3.2 _ _ ay (fun b=>w+1<=b/\b<wr/\b≠A.heap.size) (fun b U=>yE) (Tree.A6.below au bt (fun b U=>yE))
       (Tree.A6.mono (Tree.A6.below qh bi (fun b U=>U.1.1)) fun b U=>⟨U.2,yQ,yQ⟩)
     have c3:=Zaa hC;have aL:=p7.step;generalize F9 4 (.node ⟨ep,v0,v1,v2,v3,fg,gi⟩ e4) (.node ⟨aa,u0,u1,u2,u3,a9,a6⟩ ul)=di at c3 aL;have cN:=Zaa aL;have c7:=Zaa aS;clear hC p7 aS nf au qh w9 O a1 a4 j8 aQ bz aA aL a3;go_wp2_with fail
     refine Z0P ?_;rintro e b3 ⟨cx,rfl,pf,bj⟩;obtain⟨⟨W0,ql,tt,uy,z6,W2,Wd⟩,W1⟩:=di;obtain⟨er,cp,rfl⟩:=C3 pf;have aR:=(bj.block A yE).trans c7.out;have c6:=Zaa aR;have ck:=Zaa (Dp aR);have c8:=Zaa pf;have l9:=bj.size;clear aR pf c4 dt du hg nu G1 bD yg bx cz cA cC cH bX cI cD z0 b5 z2 z3 z4 z5 bu b7 s0 s1 s2 s3 va aZ b0 b8;go_wp2_with (refine Zil rfl 43 _ _ rfl _ _ _ rfl rfl ?_ ?_ ?_ ?_)
     ·exact ck.out
     ·first | kernel_rfl | exact Fg
     ·simp[Value.oneCell']
     have cm:=Ao b3 A [W0,ql,tt,uy,z6,W2,Wd,.slice er W1 cp] 0;have bf:=Nq b3 A 43 _ [W0,ql,tt,uy,z6,W2,Wd,.slice er W1 cp] c6.out rfl;generalize b3.setCells A 0 [.int .u8 W0.toNat,.int .u64 ql.toNat,.int .u64 tt.toNat,.int .u64 uy.toNat,.int .u64 z6.toNat,.int .i64 W2,.int .i64 Wd,.slice er W1 cp]=lf at cm bf|-;have da:=cm.size;have cO:B2 lf (fun b=>w+1<=b/\b<lf/\b≠A.heap.size) (.node ⟨W0,ql,tt,uy,z6,W2,Wd⟩ W1) [W0,ql,tt,uy,z6,W2,Wd,.slice er W1 cp]:=
      Tree.A6.mono (Tree.A6.block c8.out (fun b U=>cm.block b (by rcases U with U | U<;>omega) (by simp;rcases U with U | U<;>omega))) fun b U=>by rcases U with U | U<;>omega
     go_roundw
     case rel=>exact⟨j+1,_,_,yE,Ej yE,cO,bf,cN.out,(bi.trans (bj.mono yE)).grown cm yE (fun r e=>yM),yE⟩
     case measure=>simp[intOf];omega
    obtain rfl:j=bc:=by omega
    have d6:¬((j:Int) <j):=yE;exact Z0l
end Go.Proofs.YtafmoofknjncpaaGreatDoor
