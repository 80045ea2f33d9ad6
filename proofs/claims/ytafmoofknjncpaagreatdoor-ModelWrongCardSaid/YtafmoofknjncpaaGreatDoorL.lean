/- A part of the proof that ModelWrong holds: its theorems stand as they are typed. -/
import Derived.Test.YtafmoofknjncpaaGreatDoorK
set_option linter.all false
set_option maxRecDepth 100000
set_option maxHeartbeats 8000000
namespace Go.Proofs.YtafmoofknjncpaaGreatDoor
section
open Tryz Go.RowKit Go.Shelf
theorem Anq (s:Ap) (aw:s.An.length<=100) (r:A7) (aD:r.Bu.size<=10000) (l:List Dl) (az:l.length<=1000) (i:Nat) (p:Dl) (hp:l[i]? =some p) (h:H9 s r l i p) (O:p.Bw.size<=10000) (ac cs:zP) (ae:Value) (w:zN) (n:Nat) (H:n<=w) (a4:Br w n s ac) (a6:Fo w n r cs) (a0:Al Bz 8 w (fun b=>b<n) l ae):
  Calls prog 149 #[.agg ac.toArray,.agg cs.toArray,ae,i] w fun e w'=>e=.returned (.int .i64 0)/\Below w w w':=by
 have ar:=a4
 have av:=a6
 obtain⟨a3,a5⟩:=Cw hp
 have a7:=a0
 obtain⟨a,c,rfl,aG,ai⟩:=a0.at
 obtain⟨b,o,rfl,aK,aJ,h1,h2⟩:=ai i a3
 rw[a5]at h2
 have af:=h2
 obtain⟨ab,aj,ak,al,am,ao,ap,rfl,-⟩:=Bz.open h2
 obtain⟨aM,aN,rfl,⟨ei,ej,rfl,-⟩,hd,e9,rfl,-⟩:=a4
 obtain⟨z0,b9,z2,z3,z4,z5,cc,bg,bk,z9,v,rfl,-,bn,br,rfl,-⟩:=Bj.open a6
 refine Z3u ?_
 intro a8 ba ad dj
 obtain⟨A,cr⟩:=zL (ad.alloc (.cells #[.slice (some ⟨b,o,none⟩) l c] 115))
 obtain⟨F,J⟩:=zL (A.alloc (.cells #[i] 3))
 obtain⟨W,bm⟩:=zL (F.alloc (.cells #[p.kind,p.text,p.group,ab,.float .f64 aj,ak,al,.slice am ao ap] 124))
 have X3:a8.heap.size=w+1:=xO
 have X4:ad.heap.size=w+2:=tL
 have M:A.heap.size=w+3:=tM
 have Y:F.heap.size=w+4:=by rw[<-J];simp[M]
 have a9:W.heap.size=w+5:=by rw[<-bm];simp[Y]
 have b1:Below w w a8:=wD
 have b2:Below a8 a8 ad:=tB
 have aq:Below ad ad A:=uD
 have a2:Below A A F:=by rw[<-J];exact Af _
 have V:Below F F W:=tC
 have U:Below A A W:=a2.trans (V.mono yE)
 have K1:Below ad ad W:=aq.trans (U.mono yE)
 refine Z4j ?_
 intro Jx el c4
 have ag:W.rangeAt (w+1) 0 [r.kind,r.Bh,r.Bp,z0,b9,z2,z3,z4,z5,cc,.slice bg bk z9,r.text,r.Az,.slice bn r.Aw br,r.A3,r.Bl]:=Aa uR K1 yE
 have ah:W.rangeAt (w+2) 0 [.slice (some ⟨b,o,none⟩) l c]:=Aa uS U yE
 have an:W.rangeAt (w+3) 0 [i]:=Aa (by rw[<-J,<-M];exact Ae A _ _) V yE
 have au:W.rangeAt (w+4) 0 [p.kind,p.text,p.group,ab,.float .f64 aj,ak,al,.slice am ao ap]:=by rw[<-bm,<-Y];exact Ae F _ _
 have hr:=Zaa (Jl [⟨307,193,#[zK (w+4),zK (w+3),zK (w+2)]⟩,⟨308,195,#[zK w,zK (w+4)]⟩,⟨309,196,#[zK (w+4),zK (w+1)]⟩] W (w+5) 3 a9.symm rfl yF
  (by intro y hy;simp only[Zbc,Zbe,Zic]at hy;rcases hy with rfl | rfl | rfl<;>exact fun _ _=>rfl)
  (by
   intro y hy X D;have G:=el.trans (D.mono yE);have:=G.size;have ax:=Aa c4 D yE;have ay:=Aa ag D yE;have aF:=Aa ah D yE;have aE:=Aa an D yE;have T:=Aa au D yE;have aA:=A0.Ab.below ar (G.mono H);have aB:=Bj.Ab.below av (G.mono H);have a1:=Bz.Ab.below af (G.mono H);have aC:=(Al.Ab Bz.Ab).below a7 (G.mono H);simp only[Zbc,Zbe,Zic]at hy;rcases hy with rfl | rfl | rfl
   ·exact Apo s r l i p h a3 az O _ _ _ _ _ X n yE T a1 aE aF aC
   ·exact Apn s aw r l i p h O _ _ _ _ X n yE ax aA T a1
   exact Apm s r aD l i p h O _ _ _ _ X n yE T a1 ay aB))
 have c2:=Zaa el
 have d0:=h1 0 _ rfl
 have d1:=h1 1 _ rfl
 have d2:=h1 2 _ rfl
 have d3:=h1 3 _ rfl
 have d4:=h1 4 _ rfl
 have d5:=h1 5 _ rfl
 have d6:=h1 6 _ rfl
 have d7:=h1 7 _ rfl
 simp only[Zaf]at d0
 have aO:(i:Int) <l.length:=yE
 have aL:b<w:=yE
 have aH:b<w+1:=yE
 have aP:b<w+1+1:=yE
 have aI:b<w+1+1+1:=yE
 clear c4 ag ah an au b1 b2 aq a2 V U K1 Jx X3 X4 M Y a9 el ar av af a7 a0 ai h1 h2 h hp a5
 subst bm J cr dj ba
 go_enter func149,ntmps149
 exact Z0b
end
section
open Tryz Go.RowKit Go.Shelf
theorem Afl (s:Ap) (i:Nat) (x:Et) (V:s.An[i]? =some x) (O:Z3 s i x) (hlen:s.An.length<=1000) (H U bi:Nat) (u:Value) (W:zN) (n:Nat) (a5:n<=W)
  (A:W.rangeAt H 0 [x.name,x.number,x.text,.float .f64 x.float]) (a2:W.cell? ⟨U,1,none⟩=some u) (hu:Al Dy 4 W (fun b=>b<n) s.An u) (a1:W.cell? ⟨bi,0,none⟩=some (.int .i64 i)):
  Calls prog 173 #[zK H,zK U,zK bi] W fun e w'=>e=.returned (.bool false)/\Below W W w':=by
 obtain⟨ah,ae⟩:=Cw V
 obtain⟨G,J,T,rfl,al,dn,jv,hI⟩:=hu.rows Dy.len
 have ac:=Zaa fun X=>Akd x O.right X
 have M:=Bm A yF
 have b1:=Jw a2
 have b2:=Jw a1
 have ab:=Zaa (Jt x.name W O.name)
 have ak:=A 0 _ rfl
 have a4:∀X,Below W W X->Calls prog 90 #[.slice G i J,.func (.func 174) #[] #[zK H]] X fun e w'=>e=.returned (.bool false)/\Below X X w':=by
  intro X az;have a6:(T.take i).length=i:=yJ;have h:=Ae8 174 #[zK H] (fun _ _=>rfl) G J (T.take i) (fun _=>false) X n xV yE ((jv.take i).below az a5) (fun j ai Y a9=>by
   have ag:j<i:=yE;have h1:=hI j yE yE;rw[Zen,show T[j]=_ from h1];have cf:=O.first j s.An[j] ag (Zam yE);have a0:=az.trans (a9.mono az.size);have:=Acy s.An[j].name x.name s.An[j].text s.An[j].number s.An[j].float H Y (by have:=a0.size;omega) (Aa A a0 M 0 _ rfl);rw[show(s.An[j].name.toList==x.name.toList)=false from vO]at this;exact this)
  rw[a6,any_false]at h;exact h
 have a8:=Zaa a4
 have aj:(i:Int)<=J:=yE
 have a7:=A 0 _ rfl
 simp only[Zac]at a7
 have a3:G≠none:=by
  exact Z1M
 obtain⟨F,rfl⟩:∃F,G=some F:=by cases G with | none=>exact absurd rfl a3 | some F=>exact⟨F,rfl⟩
 clear a4 a3 hI jv O V ae
 go_enter func173,ntmps173
 go_wp2_with fail
 refine ab.out.mono ?_
 rintro e D ⟨rfl,aa⟩
 have d1:=Aa A aa M 1 _ rfl
 have d2:=Aa A aa M 2 _ rfl
 have d3:=Aa A aa M 3 _ rfl
 simp only[Zac]at d1 d2 d3
 go_wp2_with fail
 refine(ac.out _).mono ?_
 rintro e ad ⟨rfl,af⟩
 replace aa:=aa.trans (af.mono aa.size)
 clear d1 d2 d3 af
 obtain⟨D,rfl⟩:∃D,D=ad:=⟨_,rfl⟩
 have f1:D.cell? ⟨U,1,none⟩=some (.slice (some F) s.An J):=(Zaw (aa.block _ b1)).trans a2
 have f2:D.cell? ⟨bi,0,none⟩=some (.int .i64 i):=(Zaw (aa.block _ b2)).trans a1
 go_wp2_with fail
 refine(a8.out _ aa).mono ?_
 exact Z2J
theorem Acx (s:Ap) (i:Nat) (x:Et) (D:s.An[i]? =some x) (U:Z3 s i x) (hlen:s.An.length<=1000) (cs:zP) (w:zN) (n:Nat) (O:n<=w) (T:Br w n s cs):
  Calls prog 144 #[.agg cs.toArray,i] w fun e w'=>e=.returned (.int .i64 0)/\Below w w w':=by
 obtain⟨v,u,rfl,F,a2⟩:=T
 obtain⟨M,J⟩:=Cw D
 obtain⟨V,bb,rfl,a4,G⟩:=F.at
 obtain⟨b,o,rfl,a0,Y,h1,h2⟩:=G i M
 rw[J]at h2
 obtain rfl:=h2
 refine Z2D ?_
 intro W bm el na c4 dt du
 have hr:=Zaa (Jl [⟨301,173,#[zK (w+2),zK w,zK (w+1)]⟩] W (w+3) 1 na.symm rfl yF uM
  (by
   intro y hy X A;simp only[Zbf]at hy;subst hy;have H:=el.trans (A.mono yE);have:=H.size;exact Afl s i x D U hlen _ _ _ _ X n yE (Aa du A yE) (Aa c4 A yE 1 _ rfl) ((Al.Ab Dy.Ab).below F (H.mono O)) (Aa dt A yE 0 _ rfl)))
 have d0:=h1 0 _ rfl
 have d1:=h1 1 _ rfl
 have d2:=h1 2 _ rfl
 have d3:=h1 3 _ rfl
 simp only[Zaf]at d0
 have a3:(i:Int) <s.An.length:=yE
 have c2:=Zaa el
 have a1:b<w:=yE
 clear G F c4 dt du h1 el D J
 subst bm
 go_enter func144,ntmps144
 exact Z0b
end
end Go.Proofs.YtafmoofknjncpaaGreatDoor
