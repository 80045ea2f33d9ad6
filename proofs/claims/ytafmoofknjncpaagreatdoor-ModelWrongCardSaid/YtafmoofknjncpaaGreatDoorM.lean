/- A part of the proof that ModelWrong holds: its theorems stand as they are typed. -/
import Derived.Test.YtafmoofknjncpaaGreatDoorL
set_option linter.all false
set_option maxRecDepth 100000
set_option maxHeartbeats 8000000
namespace Go.Proofs.YtafmoofknjncpaaGreatDoor
open Tryz Go.RowKit Go.Shelf
theorem Ams (s:Ap) (h:Xs s) (J:zP) (M:Value) (w:zN) (n:Nat) (O:n<=w) (H:Br w n s J):
  Calls prog 121 #[.agg J.toArray,M,.agg yC] w fun e w'=>e=.returned (.int .i64 0)/\Below w w w':=by
 have i0:=H
 obtain⟨T,U,rfl,⟨D,F,rfl,-⟩,G,A,rfl,-⟩:=H
 have el:Below w w ((w.alloc (.cells #[s.Aj,.slice D s.An F,.slice G s.Ac A] 30)).alloc (.cells yC 142)):=(Af _).alloc yF _
 have hr:=Zaa (Aka s.Aj h.b1 h.b2 G D s.Ac s.An A F h.s1 h.s2 h.v ((w.alloc (.cells #[s.Aj,.slice D s.An F,.slice G s.Ac A] 30)).alloc (.cells yC 142)))
 exact Z2I
theorem Aqp (s:Ap) (i:Nat) (x:Et) (G:s.An[i]? =some x) (h:Z3 s i x) (hlen:s.An.length<=1000) (F:zP) (H:Value) (w:zN) (n:Nat) (A:n<=w) (D:Br w n s F):
  Calls prog 121 #[.agg F.toArray,H,.agg #[i,zG,zG,zG,zG]] w fun e w'=>e=.returned (.int .i64 0)/\Below w w w':=by
 have i0:=D
 obtain⟨J,M,rfl,⟨ei,ej,rfl,-⟩,hd,e9,rfl,-⟩:=D
 refine Z3T ?_
 intro el
 have hr:=Zaa (Acx s i x G h hlen [s.Aj,.slice ei s.An ej,.slice hd s.Ac e9] _ n (Zag A el.size) (A0.Ab.below i0 (el.mono A)))
 exact Z2I
theorem Amt (s:Ap) (i:Nat) (x:Bc) (G:s.Ac[i]? =some x) (h:Th s i x) (hlen:s.Ac.length<=1000) (F:zP) (H:Value) (w:zN) (n:Nat) (A:n<=w) (D:Br w n s F):
  Calls prog 121 #[.agg F.toArray,H,.agg #[zG,i,zG,zG,zG]] w fun e w'=>e=.returned (.int .i64 0)/\Below w w w':=by
 have i0:=D
 obtain⟨J,M,rfl,⟨ei,ej,rfl,-⟩,hd,e9,rfl,-⟩:=D
 refine Z3S ?_
 intro el
 have hr:=Zaa (Akh s i x G h hlen [s.Aj,.slice ei s.An ej,.slice hd s.Ac e9] _ n (Zag A el.size) (A0.Ab.below i0 (el.mono A)))
 exact Z2I
theorem Aob (s:Ap) (V:Ef s) (i k:Nat) (x:Bc) (r:A7) (D:s.Ac[i]? =some x) (G:x.Ai[k]? =some r) (h:Wp s r (Fv s i k)) (Y:zP) (a2:Value) (w:zN) (n:Nat) (H:n<=w) (U:Br w n s Y) (aa:Al (Gk (Al Di 1)) 1 w (fun b=>b<n) (El s) a2):
  Calls prog 121 #[.agg Y.toArray,a2,.agg #[zG,i,k,zG,zG]] w fun e w'=>e=.returned (.int .i64 0)/\Below w w w':=by
 have i0:=U
 obtain⟨aA,aD,rfl,⟨ei,ej,rfl,-⟩,a3⟩:=U
 obtain⟨ay,e9,rfl,-,a0⟩:=a3.at
 obtain⟨a9,a4⟩:=Cw D
 obtain⟨b,o,rfl,aw,T,h1,h2⟩:=a0 i a9
 rw[a4]at h2
 obtain⟨aE,rfl,ak⟩:=h2
 obtain⟨av,rc,rfl,-,a6⟩:=ak.at
 obtain⟨a8,a5⟩:=Cw G
 obtain⟨b2,ag,rfl,an,T,h3,h4⟩:=a6 k a8
 rw[a5]at h4
 have bl:=h4
 obtain⟨z0,b9,z2,z3,z4,z5,cc,bg,bk,z9,v,rfl,-,a7⟩:=Bj.open h4
 obtain⟨gz,ac,rfl,-,am⟩:=a7.at
 have ai:r.Bu.size<=10000:=V.Bu x (Zax D) r (Zax G)
 obtain⟨az,ax,rfl,-,ad⟩:=aa.at
 have z1:(El s).length=s.Ac.length:=by simp[El]
 obtain⟨k9,to,rfl,au,T,t1,ap,rfl,t2⟩:=ad i yE
 have F:=Qm s i x D
 rw[Zam yE]at F
 injection F with F
 rw[F]at t2
 obtain⟨ar,bzj,rfl,-,af⟩:=t2.at
 have al:(I4 s i x.Ai).length=x.Ai.length:=by simp[I4]
 obtain⟨bnc,bzh,rfl,ao,T,t3,t4⟩:=af k yE
 have ae:(I4 s i x.Ai)[k]'yE=((Fv s i k:Nat):Int):=by simp[I4,Fv,J4,D]
 rw[ae]at t4
 obtain rfl:=t4
 rw[al]at t1
 refine Z4q ?_
 intro byp bf2 rs nz iv hk W bm el na c4 dt gn
 clear a0 a6 D G a4 a5 a3 bm
 go_enter func121,ntmps121
 go_wp2_with fail
 rw[gn.out]
 have k4:Below w w (W.drewN 1)/\(W.drewN 1).rangeAt w 0 [s.Aj,.slice ei s.An ej,.slice (some ⟨b,o,none⟩) s.Ac e9]/\(W.drewN 1).rangeAt (w+1) 0 [zG,i,k,zG,zG]:=⟨below_drewN el el.size 1,Ag c4 yN,Ag dt yN⟩
 have gh:(W.drewN 1).heap.size=w.heap.size+2:=uI
 refine C1 [(0,.inl none),(1,.inl (some 0)),(2,.inl none),(3,.inl (some 0)),(4,.inl none),(5,.inl none),(6,.inl (some 0)),(7,.inl none),(8,.inl (some 0)),(9,.inl none),(10,.inl (some 0)),(11,.inr [0]),(12,.inr [0])]
  (fun _ X=>Below w w X/\X.rangeAt w 0 [s.Aj,.slice ei s.An ej,.slice (some ⟨b,o,none⟩) s.Ac e9]/\X.rangeAt (w+1) 0 [zG,i,k,zG,zG]) yG yG (fun _=>k4) ?_
 refine Z3s ?_
 clear c4 dt na el
 generalize W.drewN 1=bd at k4 gh|-
 refine Z2m ?_
 refine Av (.slice (some ⟨b,o,none⟩) s.Ac e9) yI (fun w' ab=>?_) (fun K J=>?_)
 ·have cq:=ab.2.1 2 _ rfl
  exact Z16
 go_simp
 refine J _ ?_
 clear J K
 refine Z2m ?_
 refine Av (.int .i64 i) yI (fun w' ab=>?_) (fun K J=>?_)
 ·have bh:=ab.2.2 1 _ rfl
  exact Z18
 go_simp
 refine J _ ?_
 clear J K
 refine Z01 ?_
 refine Av (.slice (some ⟨b2,ag,none⟩) x.Ai rc) yI (fun w' ab=>?_) (fun K J=>?_)
 ·have bh:=Aa h1 ab.1 iv 1 _ rfl
  exact Z18
 go_simp
 refine J _ ?_
 clear J K
 refine Z2m ?_
 refine Av (.int .i64 k) yI (fun w' ab=>?_) (fun K J=>?_)
 ·have cq:=ab.2.2 2 _ rfl
  exact Z16
 go_simp
 refine J _ ?_
 clear J K
 refine Z2m ?_
 refine Av (.agg #[r.kind,r.Bh,r.Bp,z0,b9,z2,z3,z4,z5,cc,.slice bg bk z9,r.text,r.Az,.slice gz r.Aw ac,r.A3,r.Bl]) yI (fun w' ab=>?_) (fun K J=>?_)
 ·have aq:=Aa h3 ab.1 hk 0 _ rfl
  exact Z0d
 go_simp
 refine J _ ?_
 clear J K
 refine Ci (fun K J=>?_) (Bg k4)
 go_wp2_with fail
 refine Z4Y ?_
 intro fu bj
 generalize bd.alloc (.cells zU 48)=A at fu bj|-
 have fo:Below w w A/\A.rangeAt w 0 [s.Aj,.slice ei s.An ej,.slice (some ⟨b,o,none⟩) s.Ac e9]/\A.rangeAt (w+1) 0 [zG,i,k,zG,zG]:=⟨k4.1.trans (bj.mono k4.1.size),Aa k4.2.1 bj yE,Aa k4.2.2 bj yE⟩
 have aB:w.heap.size+2<A:=(Zbx.1 fu).1
 have a1:A.there (w+2) 0 16:=by
  intro j M;refine⟨?_,vZ⟩;simp only[World.cell?,fu]
  match j,M with
  | 0,_ | 1,_ | 2,_ | 3,_ | 4,_ | 5,_ | 6,_ | 7,_ | 8,_ | 9,_ | 10,_ | 11,_ | 12,_ | 13,_ | 14,_ | 15,_=>rfl
  | j+16,M=>exact absurd M yE
 have O:=Zaa a1
 clear a1 fu
 refine J _ _ (Bg fo) ?_
 clear J K
 refine Ci (fun K J=>?_) (Bg fo)
 go_wp2_with (refine Zil rfl 48 _ _ rfl _ _ _ rfl rfl O.out yG yL ?_)
 have bu:=Ao A (w+2) [r.kind,r.Bh,r.Bp,z0,b9,z2,z3,z4,z5,cc,.slice bg bk z9,r.text,r.Az,.slice gz r.Aw ac,r.A3,r.Bl] 0
 have ps:=Zar A (w+2) 0 [r.kind,r.Bh,r.Bp,z0,b9,z2,z3,z4,z5,cc,.slice bg bk z9,r.text,r.Az,.slice gz r.Aw ac,r.A3,r.Bl] O.out
 simp only[wpList,Dz]
 generalize A.setCells (w+2) 0 [.int .u8 r.kind.toNat,.bool r.Bh,.bool r.Bp,.int .u8 z0.toNat,.int .u64 b9.toNat,.int .u64 z2.toNat,.int .u64 z3.toNat,.int .u64 z4.toNat,.int .i64 z5,.int .i64 cc,.slice bg bk z9,.string r.text,.int .i64 r.Az,.slice gz r.Aw ac,.string r.A3,.int .i64 r.Bl]=bs at bu ps|-
 have gw:Below w w bs/\bs.rangeAt w 0 [s.Aj,.slice ei s.An ej,.slice (some ⟨b,o,none⟩) s.Ac e9]/\bs.rangeAt (w+1) 0 [zG,i,k,zG,zG]:=⟨fo.1.grown bu fo.1.size (fun r e=>yM),Ag fo.2.1 (bu.block _ yE yF),Ag fo.2.2 (bu.block _ yE yF)⟩
 have aC:=bu.size
 refine J _ _ (Bg gw) ?_
 clear J K O
 refine C7 ?_
 have u3:=gw.2.2 3 _ rfl
 have u4:=gw.2.2 4 _ rfl
 simp only[Zac]at u3 u4
 go_wp2_with fail
 refine Z4G ?_
 intro i6
 refine C1 [(0,.inl (some 0)),(1,.inl (some 0)),(2,.inl none),(3,.inl none),(4,.inl (some 0)),(5,.inl none),(6,.inl (some 0)),(7,.inl none),(8,.inl (some 0)),(9,.inl none),(10,.inl (some 0)),(11,.inr [0]),(12,.inl none)]
  (fun _ X=>Below w w X/\X.rangeAt w 0 [s.Aj,.slice ei s.An ej,.slice (some ⟨b,o,none⟩) s.Ac e9]/\X.rangeAt (w+1) 0 [zG,i,k,zG,zG]/\X.rangeAt (w+2) 0 [r.kind,r.Bh,r.Bp,z0,b9,z2,z3,z4,z5,cc,.slice bg bk z9,r.text,r.Az,.slice gz r.Aw ac,r.A3,r.Bl]) yG yG (fun _=>i6) ?_
 refine Z3s ?_
 have aj:(bs.drewN 1).heap.size=bs.heap.size:=yN
 generalize bs.drewN 1=ah at i6 aj|-
 have c3:=Zaa (Ano s V r (Fv s i k) h ai _ _ ah n (Zag H i6.1.size) (A0.Ab.below i0 (i6.1.mono H)) (Bj.Ab.below bl (i6.1.mono H)))
 exact Z40
theorem Aqq (s:Ap) (am:Ef s) (i k:Nat) (x:Bc) (r:A7) (V:s.Ac[i]? =some x) (Y:x.Ai[k]? =some r) (m:Nat) (a:Dv) (ay:r.Aw[m]? =some a) (al:s.An.length<=100) (h:Tj s r a) (ao:a.Bw.size<=10000) (a5:zP) (aG:Value) (w:zN) (n:Nat) (U:n<=w) (a2:Br w n s a5):
  Calls prog 121 #[.agg a5.toArray,aG,.agg #[zG,i,k,m,zG]] w fun e w'=>e=.returned (.int .i64 0)/\Below w w w':=by
 have aa:=a2
 obtain⟨aS,aW,rfl,⟨F,G,rfl,-⟩,ad⟩:=a2
 obtain⟨aR,A,rfl,-,a8⟩:=ad.at
 obtain⟨ak,ae⟩:=Cw V
 obtain⟨b,o,rfl,aP,a6,h1,h2⟩:=a8 i ak
 rw[ae]at h2
 obtain⟨aY,rfl,aK⟩:=h2
 obtain⟨aO,rc,rfl,-,ag⟩:=aK.at
 obtain⟨ai,af⟩:=Cw Y
 obtain⟨b2,aE,rfl,aL,a6,h3,h4⟩:=ag k ai
 rw[af]at h4
 have a3:=h4
 obtain⟨z0,b9,z2,z3,z4,z5,cc,bg,bk,z9,v,rfl,-,ah⟩:=Bj.open h4
 obtain⟨aQ,ac,rfl,-,aj⟩:=ah.at
 have aI:r.Bu.size<=10000:=am.Bu x (Zax V) r (Zax Y)
 obtain⟨hm,ap⟩:=Cw ay
 obtain⟨hl,o2,rfl,aM,a6,h5,h6⟩:=aj m hm
 rw[ap]at h6
 have hA:=h6
 obtain⟨ar,aw,ax,az,aB,aC,aD,v,rfl,-,an⟩:=C2.open h6
 obtain⟨av,au,rfl,-⟩:=an
 have aN:(m:Int) <r.Aw.length:=yE
 have M:hl<w:=yE
 have aX:(i:Int) <s.Ac.length:=yE
 have aV:(k:Int) <x.Ai.length:=yE
 have aF:b<w:=yE
 have hk:b2<w:=yE
 obtain⟨W,bm⟩:=zL ((w.alloc (.cells #[s.Aj,.slice F s.An G,.slice (some ⟨b,o,none⟩) s.Ac A] 30)).alloc (.cells #[zG,i,k,m,zG] 142))
 have a1:Below w w W:=wF
 have na:W.heap.size=w+2:=xG
 have a4:W.rangeAt w 0 [s.Aj,.slice F s.An G,.slice (some ⟨b,o,none⟩) s.Ac A]:=vT
 have a7:W.rangeAt (w+1) 0 [zG,i,k,m,zG]:=by
  rw[<-bm];have:=Ae (w.alloc (.cells #[s.Aj,.slice F s.An G,.slice (some ⟨b,o,none⟩) s.Ac A] 30)) [zG,i,k,m,zG] 142;exact Z1z
 have aA:=Zaa bm
 clear a8 ag V Y ae af ad bm
 go_enter func121,ntmps121
 go_wp2_with fail
 rw[aA.out]
 have O:Below w w (W.drewN 1)/\(W.drewN 1).rangeAt w 0 [s.Aj,.slice F s.An G,.slice (some ⟨b,o,none⟩) s.Ac A]/\(W.drewN 1).rangeAt (w+1) 0 [zG,i,k,m,zG]:=⟨below_drewN a1 a1.size 1,Ag a4 yN,Ag a7 yN⟩
 have gh:(W.drewN 1).heap.size=w.heap.size+2:=uI
 refine C1 [(0,.inl none),(1,.inl (some 0)),(2,.inl none),(3,.inl (some 0)),(4,.inl none),(5,.inl none),(6,.inl (some 0)),(7,.inl none),(8,.inl (some 0)),(9,.inl none),(10,.inl (some 0)),(11,.inr [0]),(12,.inr [0])]
  (fun _ X=>Below w w X/\X.rangeAt w 0 [s.Aj,.slice F s.An G,.slice (some ⟨b,o,none⟩) s.Ac A]/\X.rangeAt (w+1) 0 [zG,i,k,m,zG]) yG yG (fun _=>O) ?_
 refine Z3s ?_
 clear a4 a7 na a1
 generalize W.drewN 1=bd at O gh|-
 refine Z2m ?_
 refine Av (.slice (some ⟨b,o,none⟩) s.Ac A) yI (fun w' ab=>?_) (fun K J=>?_)
 ·have cq:=ab.2.1 2 _ rfl
  exact Z16
 refine Z4I ?_
 clear J K
 refine Z2m ?_
 refine Av (.int .i64 i) yI (fun w' ab=>?_) (fun K J=>?_)
 ·have bh:=ab.2.2 1 _ rfl
  exact Z18
 refine Z4I ?_
 clear J K
 refine Z01 ?_
 refine Av (.slice (some ⟨b2,aE,none⟩) x.Ai rc) yI (fun w' ab=>?_) (fun K J=>?_)
 ·have bh:=Aa h1 ab.1 aF 1 _ rfl
  exact Z18
 refine Z4I ?_
 clear J K
 refine Z2m ?_
 refine Av (.int .i64 k) yI (fun w' ab=>?_) (fun K J=>?_)
 ·have cq:=ab.2.2 2 _ rfl
  exact Z16
 refine Z4I ?_
 clear J K
 refine Z2m ?_
 refine Av (.agg #[r.kind,r.Bh,r.Bp,z0,b9,z2,z3,z4,z5,cc,.slice bg bk z9,r.text,r.Az,.slice (some ⟨hl,o2,none⟩) r.Aw ac,r.A3,r.Bl]) yI (fun w' ab=>?_) (fun K J=>?_)
 ·have aq:=Aa h3 ab.1 hk 0 _ rfl
  exact Z0d
 refine Z4I ?_
 clear J K
 refine Ci (fun K J=>?_) (Bg O)
 go_wp2_with fail
 refine Z4Y ?_
 intro fu bj
 generalize bd.alloc (.cells zU 48)=b3 at fu bj|-
 have T:Below w w b3/\b3.rangeAt w 0 [s.Aj,.slice F s.An G,.slice (some ⟨b,o,none⟩) s.Ac A]/\b3.rangeAt (w+1) 0 [zG,i,k,m,zG]:=⟨O.1.trans (bj.mono O.1.size),Aa O.2.1 bj yE,Aa O.2.2 bj yE⟩
 have aT:w.heap.size+2<b3:=(Zbx.1 fu).1
 have a9:b3.there (w+2) 0 16:=by
  intro j a0;refine⟨?_,vZ⟩;simp only[World.cell?,fu]
  match j,a0 with
  | 0,_ | 1,_ | 2,_ | 3,_ | 4,_ | 5,_ | 6,_ | 7,_ | 8,_ | 9,_ | 10,_ | 11,_ | 12,_ | 13,_ | 14,_ | 15,_=>rfl
  | j+16,a0=>exact absurd a0 yE
 have ck:=Zaa a9
 clear a9 fu
 refine J _ _ (Bg T) ?_
 clear J K
 refine Ci (fun K J=>?_) (Bg T)
 go_wp2_with (refine Zil rfl 48 _ _ rfl _ _ _ rfl rfl ck.out yG yL ?_)
 refine Z4t ?_
 intro bu ps
 generalize b3.setCells (w+2) 0 [.int .u8 r.kind.toNat,.bool r.Bh,.bool r.Bp,.int .u8 z0.toNat,.int .u64 b9.toNat,.int .u64 z2.toNat,.int .u64 z3.toNat,.int .u64 z4.toNat,.int .i64 z5,.int .i64 cc,.slice bg bk z9,.string r.text,.int .i64 r.Az,.slice (some ⟨hl,o2,none⟩) r.Aw ac,.string r.A3,.int .i64 r.Bl]=D at bu ps|-
 have H:Below w w D/\D.rangeAt w 0 [s.Aj,.slice F s.An G,.slice (some ⟨b,o,none⟩) s.Ac A]/\D.rangeAt (w+1) 0 [zG,i,k,m,zG]:=⟨T.1.grown bu T.1.size (fun r e=>yM),Ag T.2.1 (bu.block _ yE yF),Ag T.2.2 (bu.block _ yE yF)⟩
 have aU:=bu.size
 refine J _ _ (Bg H) ?_
 clear J K ck
 refine C7 ?_
 have u3:=H.2.2 3 _ rfl
 have u4:=H.2.2 4 _ rfl
 simp only[Zac]at u3 u4
 go_wp2_with fail
 have i6:Below w w (D.drewN 1)/\(D.drewN 1).rangeAt w 0 [s.Aj,.slice F s.An G,.slice (some ⟨b,o,none⟩) s.Ac A]/\(D.drewN 1).rangeAt (w+1) 0 [zG,i,k,m,zG]/\(D.drewN 1).rangeAt (w+2) 0 [r.kind,r.Bh,r.Bp,z0,b9,z2,z3,z4,z5,cc,.slice bg bk z9,r.text,r.Az,.slice (some ⟨hl,o2,none⟩) r.Aw ac,r.A3,r.Bl]:=⟨below_drewN H.1 H.1.size 1,Ag H.2.1 yN,Ag H.2.2 yN,Ag ps yN⟩
 refine C1 [(0,.inl (some 0)),(1,.inl (some 0)),(2,.inl none),(3,.inl (some 0)),(4,.inl none),(5,.inl (some 0)),(6,.inl none),(7,.inl (some 0)),(8,.inr [0]),(9,.inl none)]
  (fun _ X=>Below w w X/\X.rangeAt w 0 [s.Aj,.slice F s.An G,.slice (some ⟨b,o,none⟩) s.Ac A]/\X.rangeAt (w+1) 0 [zG,i,k,m,zG]/\X.rangeAt (w+2) 0 [r.kind,r.Bh,r.Bp,z0,b9,z2,z3,z4,z5,cc,.slice bg bk z9,r.text,r.Az,.slice (some ⟨hl,o2,none⟩) r.Aw ac,r.A3,r.Bl]) yG yG (fun _=>i6) ?_
 refine Z3s ?_
 have aJ:(D.drewN 1).heap.size=D.heap.size:=yN
 generalize D.drewN 1=aH at i6 aJ|-
 have c3:=Zaa (Aj2 s al r aI a h ao _ _ _ aH n (Zag U i6.1.size) (A0.Ab.below aa (i6.1.mono U)) (Bj.Ab.below a3 (i6.1.mono U)) (C2.Ab.below hA (i6.1.mono U)))
 clear H T O bu ps aa a3 u3 u4
 refine Av (.agg #[s.Aj,.slice F s.An G,.slice (some ⟨b,o,none⟩) s.Ac A]) yI (fun w' ab=>?_) (fun K J=>?_)
 ·have aq:=ab.2.1 0 _ rfl
  exact Z1b
 refine Z4I ?_
 clear J K
 refine Av (.agg #[r.kind,r.Bh,r.Bp,z0,b9,z2,z3,z4,z5,cc,.slice bg bk z9,r.text,r.Az,.slice (some ⟨hl,o2,none⟩) r.Aw ac,r.A3,r.Bl]) yI (fun w' ab=>?_) (fun K J=>?_)
 ·have aq:=ab.2.2.2 0 _ rfl
  exact Z0j
 refine Z4I ?_
 clear J K
 refine Z2m ?_
 refine Av (.slice (some ⟨hl,o2,none⟩) r.Aw ac) yI (fun w' ab=>?_) (fun K J=>?_)
 ·have sc:=ab.2.2.2 13 _ rfl
  try simp only[Zaf,Zac,Zba]at sc
  go_simp
 refine Z4I ?_
 clear J K
 refine Z2m ?_
 refine Av (.int .i64 m) yI (fun w' ab=>?_) (fun K J=>?_)
 ·have ed:=ab.2.2.1 3 _ rfl
  try simp only[Zaf,Zac,Zba]at ed
  go_simp
 refine Z4I ?_
 clear J K
 refine Z2m ?_
 refine Av (.agg #[a.kind,a.name,.slice av a.Ay au,ar,.float .f64 aw,ax,az,.slice aB aC aD]) yI (fun w' ab=>?_) (fun K J=>?_)
 ·have aq:=Aa h5 ab.1 M 0 _ rfl
  have bh:=Aa h5 ab.1 M 1 _ rfl;have cq:=Aa h5 ab.1 M 2 _ rfl;have ed:=Aa h5 ab.1 M 3 _ rfl;have ez:=Aa h5 ab.1 M 4 _ rfl;have ja:=Aa h5 ab.1 M 5 _ rfl;have jh:=Aa h5 ab.1 M 6 _ rfl;have jd:=Aa h5 ab.1 M 7 _ rfl;try simp only[Zaf,Zac,Zba]at aq bh cq ed ez ja jh jd
  go_simp
 exact Z41
theorem Aoc (s:Ap) (am:Ef s) (i k:Nat) (x:Bc) (r:A7) (U:s.Ac[i]? =some x) (V:x.Ai[k]? =some r) (m q:Nat) (a:Dv) (p:Dl) (aw:r.Aw[m]? =some a) (hp:a.Ay[q]? =some p) (al:s.An.length<=100) (h:H9 s r a.Ay q p) (ap:a.Ay.length<=1000) (an:p.Bw.size<=10000) (a5:zP) (aB:Value) (w:zN) (n:Nat) (T:n<=w) (a1:Br w n s a5):
  Calls prog 121 #[.agg a5.toArray,aB,.agg #[zG,i,k,m,q]] w fun e w'=>e=.returned (.int .i64 0)/\Below w w w':=by
 have aa:=a1
 obtain⟨aU,aY,rfl,⟨F,G,rfl,-⟩,ad⟩:=a1
 obtain⟨aR,A,rfl,-,a8⟩:=ad.at
 obtain⟨ak,ae⟩:=Cw U
 obtain⟨b,o,rfl,aO,a6,h1,h2⟩:=a8 i ak
 rw[ae]at h2
 obtain⟨b0,rfl,aF⟩:=h2
 obtain⟨aM,rc,rfl,-,ag⟩:=aF.at
 obtain⟨ai,af⟩:=Cw V
 obtain⟨b2,az,rfl,aG,a6,h3,h4⟩:=ag k ai
 rw[af]at h4
 have a3:=h4
 obtain⟨z0,b9,z2,z3,z4,z5,cc,bg,bk,z9,v,rfl,-,ah⟩:=Bj.open h4
 obtain⟨aQ,ac,rfl,-,aj⟩:=ah.at
 have aD:r.Bu.size<=10000:=am.Bu x (Zax U) r (Zax V)
 obtain⟨hm,ao⟩:=Cw aw
 obtain⟨hl,o2,rfl,aH,a6,h5,h6⟩:=aj m hm
 rw[ao]at h6
 have hA:=h6
 obtain⟨aJ,aK,aL,aN,aP,aS,aT,v,rfl,-,a2⟩:=C2.open h6
 have ar:=a2
 obtain⟨av,au,rfl,-⟩:=ar
 have aI:(m:Int) <r.Aw.length:=yE
 have ay:hl<w:=yE
 have aZ:(i:Int) <s.Ac.length:=yE
 have aX:(k:Int) <x.Ai.length:=yE
 have aA:b<w:=yE
 have hk:b2<w:=yE
 obtain⟨W,bm⟩:=zL ((w.alloc (.cells #[s.Aj,.slice F s.An G,.slice (some ⟨b,o,none⟩) s.Ac A] 30)).alloc (.cells #[zG,i,k,m,q] 142))
 have a0:Below w w W:=wF
 have na:W.heap.size=w+2:=xG
 have a4:W.rangeAt w 0 [s.Aj,.slice F s.An G,.slice (some ⟨b,o,none⟩) s.Ac A]:=vT
 have a7:W.rangeAt (w+1) 0 [zG,i,k,m,q]:=by
  rw[<-bm];have:=Ae (w.alloc (.cells #[s.Aj,.slice F s.An G,.slice (some ⟨b,o,none⟩) s.Ac A] 30)) [zG,i,k,m,q] 142;exact Z1z
 have ax:=Zaa bm
 clear a8 ag U V ae af ad bm
 go_enter func121,ntmps121
 go_wp2_with fail
 rw[ax.out]
 have M:Below w w (W.drewN 1)/\(W.drewN 1).rangeAt w 0 [s.Aj,.slice F s.An G,.slice (some ⟨b,o,none⟩) s.Ac A]/\(W.drewN 1).rangeAt (w+1) 0 [zG,i,k,m,q]:=⟨below_drewN a0 a0.size 1,Ag a4 yN,Ag a7 yN⟩
 have gh:(W.drewN 1).heap.size=w.heap.size+2:=uI
 refine C1 [(0,.inl none),(1,.inl (some 0)),(2,.inl none),(3,.inl (some 0)),(4,.inl none),(5,.inl none),(6,.inl (some 0)),(7,.inl none),(8,.inl (some 0)),(9,.inl none),(10,.inl (some 0)),(11,.inr [0]),(12,.inr [0])]
  (fun _ X=>Below w w X/\X.rangeAt w 0 [s.Aj,.slice F s.An G,.slice (some ⟨b,o,none⟩) s.Ac A]/\X.rangeAt (w+1) 0 [zG,i,k,m,q]) yG yG (fun _=>M) ?_
 refine Z3s ?_
 clear a4 a7 na a0
 generalize W.drewN 1=bd at M gh|-
 refine Z2m ?_
 refine Av (.slice (some ⟨b,o,none⟩) s.Ac A) yI (fun w' ab=>?_) (fun K J=>?_)
 ·have cq:=ab.2.1 2 _ rfl
  exact Z16
 refine Z4I ?_
 clear J K
 refine Z2m ?_
 refine Av (.int .i64 i) yI (fun w' ab=>?_) (fun K J=>?_)
 ·have bh:=ab.2.2 1 _ rfl
  exact Z18
 refine Z4I ?_
 clear J K
 refine Z01 ?_
 refine Av (.slice (some ⟨b2,az,none⟩) x.Ai rc) yI (fun w' ab=>?_) (fun K J=>?_)
 ·have bh:=Aa h1 ab.1 aA 1 _ rfl
  exact Z18
 refine Z4I ?_
 clear J K
 refine Z2m ?_
 refine Av (.int .i64 k) yI (fun w' ab=>?_) (fun K J=>?_)
 ·have cq:=ab.2.2 2 _ rfl
  exact Z16
 refine Z4I ?_
 clear J K
 refine Z2m ?_
 refine Av (.agg #[r.kind,r.Bh,r.Bp,z0,b9,z2,z3,z4,z5,cc,.slice bg bk z9,r.text,r.Az,.slice (some ⟨hl,o2,none⟩) r.Aw ac,r.A3,r.Bl]) yI (fun w' ab=>?_) (fun K J=>?_)
 ·have aq:=Aa h3 ab.1 hk 0 _ rfl
  exact Z0d
 refine Z4I ?_
 clear J K
 refine Ci (fun K J=>?_) (Bg M)
 go_wp2_with fail
 refine Z4Y ?_
 intro fu bj
 generalize bd.alloc (.cells zU 48)=b3 at fu bj|-
 have O:Below w w b3/\b3.rangeAt w 0 [s.Aj,.slice F s.An G,.slice (some ⟨b,o,none⟩) s.Ac A]/\b3.rangeAt (w+1) 0 [zG,i,k,m,q]:=⟨M.1.trans (bj.mono M.1.size),Aa M.2.1 bj yE,Aa M.2.2 bj yE⟩
 have aV:w.heap.size+2<b3:=(Zbx.1 fu).1
 have a9:b3.there (w+2) 0 16:=by
  intro j Y;refine⟨?_,vZ⟩;simp only[World.cell?,fu]
  match j,Y with
  | 0,_ | 1,_ | 2,_ | 3,_ | 4,_ | 5,_ | 6,_ | 7,_ | 8,_ | 9,_ | 10,_ | 11,_ | 12,_ | 13,_ | 14,_ | 15,_=>rfl
  | j+16,Y=>exact absurd Y yE
 have ck:=Zaa a9
 clear a9 fu
 refine J _ _ (Bg O) ?_
 clear J K
 refine Ci (fun K J=>?_) (Bg O)
 go_wp2_with (refine Zil rfl 48 _ _ rfl _ _ _ rfl rfl ck.out yG yL ?_)
 refine Z4t ?_
 intro bu ps
 generalize b3.setCells (w+2) 0 [.int .u8 r.kind.toNat,.bool r.Bh,.bool r.Bp,.int .u8 z0.toNat,.int .u64 b9.toNat,.int .u64 z2.toNat,.int .u64 z3.toNat,.int .u64 z4.toNat,.int .i64 z5,.int .i64 cc,.slice bg bk z9,.string r.text,.int .i64 r.Az,.slice (some ⟨hl,o2,none⟩) r.Aw ac,.string r.A3,.int .i64 r.Bl]=D at bu ps|-
 have H:Below w w D/\D.rangeAt w 0 [s.Aj,.slice F s.An G,.slice (some ⟨b,o,none⟩) s.Ac A]/\D.rangeAt (w+1) 0 [zG,i,k,m,q]:=⟨O.1.grown bu O.1.size (fun r e=>yM),Ag O.2.1 (bu.block _ yE yF),Ag O.2.2 (bu.block _ yE yF)⟩
 have aW:=bu.size
 refine J _ _ (Bg H) ?_
 clear J K ck
 refine C7 ?_
 have u3:=H.2.2 3 _ rfl
 have u4:=H.2.2 4 _ rfl
 simp only[Zac]at u3 u4
 go_wp2_with fail
 have i6:Below w w (D.drewN 1)/\(D.drewN 1).rangeAt w 0 [s.Aj,.slice F s.An G,.slice (some ⟨b,o,none⟩) s.Ac A]/\(D.drewN 1).rangeAt (w+1) 0 [zG,i,k,m,q]/\(D.drewN 1).rangeAt (w+2) 0 [r.kind,r.Bh,r.Bp,z0,b9,z2,z3,z4,z5,cc,.slice bg bk z9,r.text,r.Az,.slice (some ⟨hl,o2,none⟩) r.Aw ac,r.A3,r.Bl]:=⟨below_drewN H.1 H.1.size 1,Ag H.2.1 yN,Ag H.2.2 yN,Ag ps yN⟩
 refine C1 [(0,.inl (some 0)),(1,.inl (some 0)),(2,.inl none),(3,.inl (some 0)),(4,.inl none),(5,.inl (some 0)),(6,.inl none),(7,.inl none),(8,.inl (some 0)),(9,.inl none),(10,.inl (some 0)),(11,.inr [0]),(12,.inl none)]
  (fun _ X=>Below w w X/\X.rangeAt w 0 [s.Aj,.slice F s.An G,.slice (some ⟨b,o,none⟩) s.Ac A]/\X.rangeAt (w+1) 0 [zG,i,k,m,q]/\X.rangeAt (w+2) 0 [r.kind,r.Bh,r.Bp,z0,b9,z2,z3,z4,z5,cc,.slice bg bk z9,r.text,r.Az,.slice (some ⟨hl,o2,none⟩) r.Aw ac,r.A3,r.Bl]) yG yG (fun _=>i6) ?_
 refine Z3s ?_
 have aE:(D.drewN 1).heap.size=D.heap.size:=yN
 generalize D.drewN 1=aC at i6 aE|-
 have c3:=Zaa (Anq s al r aD a.Ay ap q p hp h an _ _ _ aC n (Zag T i6.1.size) (A0.Ab.below aa (i6.1.mono T)) (Bj.Ab.below a3 (i6.1.mono T)) ((Al.Ab Bz.Ab).below a2 (i6.1.mono T)))
 clear H O M bu ps aa a3 u3 u4
 refine Av (.agg #[s.Aj,.slice F s.An G,.slice (some ⟨b,o,none⟩) s.Ac A]) yI (fun w' ab=>?_) (fun K J=>?_)
 ·have aq:=ab.2.1 0 _ rfl
  exact Z1b
 refine Z4I ?_
 clear J K
 refine Av (.agg #[r.kind,r.Bh,r.Bp,z0,b9,z2,z3,z4,z5,cc,.slice bg bk z9,r.text,r.Az,.slice (some ⟨hl,o2,none⟩) r.Aw ac,r.A3,r.Bl]) yI (fun w' ab=>?_) (fun K J=>?_)
 ·have aq:=ab.2.2.2 0 _ rfl
  exact Z0j
 refine Z4I ?_
 clear J K
 refine Z2m ?_
 refine Av (.slice (some ⟨hl,o2,none⟩) r.Aw ac) yI (fun w' ab=>?_) (fun K J=>?_)
 ·have sc:=ab.2.2.2 13 _ rfl
  try simp only[Zaf,Zac,Zba]at sc
  go_simp
 refine Z4I ?_
 clear J K
 refine Z2m ?_
 refine Av (.int .i64 m) yI (fun w' ab=>?_) (fun K J=>?_)
 ·have ed:=ab.2.2.1 3 _ rfl
  try simp only[Zaf,Zac,Zba]at ed
  go_simp
 refine Z4I ?_
 clear J K
 refine Z01 ?_
 refine Av (.slice av a.Ay au) yI (fun w' ab=>?_) (fun K J=>?_)
 ·have cq:=Aa h5 ab.1 ay 2 _ rfl
  exact Z16
 refine Z4I ?_
 clear J K
 refine Z2m ?_
 refine Av (.int .i64 q) yI (fun w' ab=>?_) (fun K J=>?_)
 ·have ez:=ab.2.2.1 4 _ rfl
  try simp only[Zaf,Zac,Zba]at ez
  go_simp
 exact Z41
end Go.Proofs.YtafmoofknjncpaaGreatDoor
