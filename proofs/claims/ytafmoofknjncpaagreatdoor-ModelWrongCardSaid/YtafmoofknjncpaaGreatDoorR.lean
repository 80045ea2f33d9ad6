/- A part of the proof that ModelWrong holds: its theorems stand as they are typed. -/
import Derived.Test.YtafmoofknjncpaaGreatDoorQ
set_option linter.all false
set_option maxRecDepth 100000
set_option maxHeartbeats 8000000
namespace Go.Proofs.YtafmoofknjncpaaGreatDoor
section
open Tryz Go.RowKit Go.Shelf
theorem Vd {P:Program} {α:Type} {I:World->(Nat->Prop)->α->List Value->Prop} (hI:Cp I) {w:zN} (t ty:TypeId)
  (lo:Nat) (e:TypeId) (K bytes:Nat) (ak:P.underlying t=some (.slice e)) (ae:(P.info? e).map (fun i=>(i.size,i.bytes,i.zero.map fun z=>z.cells.size))=some (K,bytes,some K)) (J:0<K)
  (l:List α) (v:Value) (af:Au I lo e K w l v) (D:List α) (V W a9:Nat)
  (hy:∀i (h:i<D.length),∃cs,cs.length=K/\(∀u∈cs,u.oneCell'=true)/\w.rangeAt V (W+i*K) cs/\I w (fun b=>b<w/\some b≠v.ownBlock) D[i] cs)
  (h63:l.length+D<=maxLen) (ac:(l.length+D.length)*bytes<=140737488355328) (a7:lo<=w):
  ∃H G w',(Builtin.append_ #[t,t] ty #[v,.slice (some ⟨V,W,none⟩) D a9]).run P w=.ok (.slice H (l.length+D.length) G) w'/\Au I lo e K w' (l++D) (.slice H (l.length+D.length) G)/\l.length+D.length<=G/\Below lo w w'/\w.grownBy w' v.ownBlock/\w.heap.size<=w'.heap.size:=by
 obtain⟨F,g1,g2,g3⟩:=af
 obtain⟨i,z,ao,T,aj,ad,ar⟩:∃i z,P.info? e=some i/\i.zero=some z/\i.size=K/\i.bytes=bytes/\z.cells.size=K:=by
  cases hp:P.info? e with
  | none=>rw[hp]at ae;cases ae
  | some i=>
   rw[hp]at ae;simp only[Zaj,Zbb,Zgr]at ae;cases T:i.zero with
   | none=>rw[T]at ae;simp at ae
   | some z=>rw[T]at ae;exact⟨i,z,rfl,T,ae.1,ae.2.1,uH⟩
 obtain⟨A,d1,d2,d3,d4,d5⟩:∃A:List (List Value),A.length=D/\(∀cs∈A,cs.length=K)/\(∀cs∈A,∀u∈cs,u.oneCell'=true)/\(∀i (h:i<A.length),w.rangeAt V (W+i*K) A[i])/\(∀i (h:i<D.length) (h2:i<A.length),I w (fun b=>b<w/\some b≠v.ownBlock) D[i] A[i]):=by
  refine⟨List.ofFn fun i:Fin D.length=>(hy i.1 i.2).choose,yF,?_,?_,?_,?_⟩
  ·intro cs O
   obtain⟨i,rfl⟩:=List.mem_ofFn.1 O;exact(hy i.1 i.2).choose_spec.1
  ·intro cs O
   obtain⟨i,rfl⟩:=List.mem_ofFn.1 O;exact(hy i.1 i.2).choose_spec.2.1
  ·intro i h
   rw[Zel];exact(hy i yV).choose_spec.2.2.1
  intro i h h2;rw[Zel];exact(hy i h).choose_spec.2.2.2
 have aa:A.flatten.length=A*K:=by
  clear d1 d3 d4 d5
  induction A with
  | nil=>simp
  | cons c r ah=>
   rw[Zdy,Zbj,ah (fun cs h=>d2 cs (by simp[h])),d2 c yF,Zao,Zfy];omega
 have ai:∀j u,A.flatten[j]? =some u->w.cell? ((⟨V,W,none⟩:Addr).add j)=some u:=by
  intro j u M;have ap:j<A.length*K:=by rw[<-aa];exact(Zeg.1 M).1
  have a4:j / K<A:=Nat.div_lt_of_lt_mul (by rwa[Nat.mul_comm]at ap);have Y:j%K<K:=Zgd _ J;have a5:j / K*K+j%K=j:=Nat.div_add_mod' j K;have h1:=flat_get A d2 (j / K) (j%K) a4 Y;rw[a5,M]at h1;have:=d4 (j / K) a4 (j%K) u h1.symm;rw[Zbu,<-a5,<-Zfx];exact this
 obtain⟨al,w',Y,q1,a0,au,a6⟩:=run_append_own_at (P:=P) w lo t ty e i z K bytes ak ao T aj ad ar J v F F.flatten g1.1 ⟨V,W,none⟩ D a9 A.flatten (by rw[aa,d1]) ai (fun u hu=>by
  obtain⟨cs,h1,h2⟩:=Zfa.1 hu;exact d3 cs h1 u h2) yE (by rw[g2];exact ac) a7
 have a2:Dc w' lo e K al (F++A):=by
  refine⟨?_,fun cs O=>(Zew.1 O).elim (g1.2 cs) (d2 cs)⟩;rw[Zdx,Zbj,d1];exact q1
 obtain⟨H,G,rfl,a3⟩:=a2.shape
 have hlen:(F++A).length=l.length+D:=by simp[g2,d1]
 have ag:=a0.size
 rw[hlen]at a3 a6 a2 Y
 have ab:∀(y:α) (a1:zP),I w (fun b=>b<w/\some b≠v.ownBlock) y a1->I w' (fun b=>b<w'.heap.size/\some b≠(Value.slice H (l.length+D.length) G).ownBlock) y a1:=fun y a1 an=>
  hI.wide (hI.block an fun b U=>a0.block b U.1 U.2) fun b U=>⟨yE,by
   rcases a6 with e | e
   ·rw[e];exact U.2
   rw[e];intro a8;injection a8 with a8;omega⟩
 refine⟨H,G,w',Y,⟨F++A,a2,by simp[g2,d1],fun j aq av=>?_⟩,a3,(Zai lo w).grown a0 a7 fun r e=>(g1.lt r e).1,a0,ag⟩
 by_cases M:j<l.length
 ·rw[Zei M,Zei yE]
  exact ab _ _ (g3 j M yE)
 rw[Zbn yE,Zbn yE]
 have am:j - F.length=j - l.length:=yE
 simp only[am]
 simp only[Zbj]at aq
 exact ab _ _ (d5 (j - l.length) yE yE)
theorem I9 {P:Program} {α:Type} {I:World->(Nat->Prop)->α->List Value->Prop} (hI:Cp I) {ops:Array Oper} {rest:List Oper} {o:Oper} {a:Act} {Q:Exit->Act->World->Prop} {w:zN} (a6:o.guard=none) (s x:Operand) (t:TypeId)
  (a2:o.op=.call {callee:=.builtin .append,args:=#[s,x],argTypes:=#[t,t]})
  (lo:Nat) (e:TypeId) (K bytes:Nat) (a3:P.underlying t=some (.slice e)) (W:(P.info? e).map (fun i=>(i.size,i.bytes,i.zero.map fun z=>z.cells.size))=some (K,bytes,some K)) (J:0<K)
  (l:List α) (v:Value) (a0:a.eval s=v) (Y:Au I lo e K w l v) (A:List α) (G H M O:Nat) (U:a.eval x=.slice (some ⟨G,H,none⟩) M O) (a1:M=A)
  (hy:∀i (h:i<A.length),∃cs,cs.length=K/\(∀u∈cs,u.oneCell'=true)/\w.rangeAt G (H+i*K) cs/\I w (fun b=>b<w/\some b≠v.ownBlock) A[i] cs)
  (h63:l.length+A<=maxLen) (T:(l.length+A.length)*bytes<=140737488355328) (a5:lo<=w)
  (h:∀F D w',Au I lo e K w' (l++A) (.slice F (l.length+A.length) D)->l.length+A.length<=D->Below lo w w'->w.grownBy w' v.ownBlock->w.heap.size<=w'.heap.size->wpList P ops Q rest (a.put o.dst (.slice F (l.length+A.length) D)) w'):
  wpList P ops Q (o::rest) a w:=by
 subst a1
 refine Zik a6 fun a7 a4=>?_
 obtain⟨F,D,w',V,h1,h2,h3,h4,h5⟩:=Vd (P:=P) hI t o.type lo e K bytes a3 W J l v Y A G H O hy h63 T a5
 unfold Oper.wp execOp
 simp only[a2,resolve,invoke,builtin,Zgv,Zgw,Zgu,Zev,Zbi,Zeu,a0,U,V]
 exact a4 _ _ (h F D w' h1 h2 h3 h4 h5)
theorem Ai0 (t:Rx) (cs:zP) (w:zN) (S:zT) (au:∀b,S b->b<w.heap.size) (b8:B2 w S t cs):
  Calls prog 77 #[.agg cs.toArray] w fun e w'=>∃A,e=.returned (.agg A.toArray)/\B2 w' (fun b=>S b\/(w.heap.size<=b/\b<w'.heap.size)) (.node (Fq 6) [t]) A/\Below w w w':=by
 obtain⟨l,s⟩:=t
 obtain⟨a,c,rfl,J,H⟩:=b8.open
 obtain⟨k,s0,s1,s2,s3,mn,mx⟩:=l
 simp only[Cc.cells,Zas,Zau]at b8|-
 clear H
 have G:=Af (w:=w) (.cells #[k,s0,s1,s2,s3,mn,mx,.slice a s c] 43)
 have h2:=Hh (w.alloc (.cells #[k,s0,s1,s2,s3,mn,mx,.slice a s c] 43)) [.int .u8 6,zI,zI,zI,zI,zE,zE,.slice (some ⟨w+1+1,0,none⟩) 1 1] [k,s0,s1,s2,s3,mn,mx,.slice a s c] 43 43
 rw[Zaq]at h2
 have D:=Zaa h2
 clear h2
 go_enter func77,ntmps77
 go_wp2_with fail
 obtain⟨g1,g2,g3,g4⟩:=D.out
 generalize M:(World.alloc (World.alloc _ (Obj.cells (List.toArray [.int .u8 6,zI,zI,zI,zI,zE,zE,.slice (some ⟨w+1+1,0,none⟩) 1 1]) _)) _)=F at g1 g2 g3 g4|-
 have c7:Below w w F:=G.trans (g3.mono yE)
 refine Zho (Aq rfl _ _ _ _ _ rfl g1 yG yG) rfl ⟨_,rfl,?_,c7⟩
 refine Tree.A6.shut (E:=Cc.cells) (l:=Fq 6) (a:=some ⟨w+1+1,0,none⟩) (c:=1) yF (.inr ⟨_,0,rfl,.inr ⟨yE,yE⟩,fun i ae=>?_⟩)
 exact Z1l
theorem Hp (t:Rx) (least Cj:Int) (cs:zP) (w:zN) (S:zT) (au:∀b,S b->b<w.heap.size) (b8:B2 w S t cs):
  Calls prog 78 #[.agg cs.toArray,least,Cj] w fun e w'=>∃A,e=.returned (.agg A.toArray)/\B2 w' (fun b=>S b\/(w.heap.size<=b/\b<w'.heap.size)) (.node ⟨5,0,0,0,0,least,Cj⟩ [t]) A/\Below w w w':=by
 obtain⟨l,s⟩:=t
 obtain⟨a,c,rfl,J,H⟩:=b8.open
 obtain⟨k,s0,s1,s2,s3,mn,mx⟩:=l
 simp only[Cc.cells,Zas,Zau]at b8|-
 clear H
 have G:=Af (w:=w) (.cells #[k,s0,s1,s2,s3,mn,mx,.slice a s c] 43)
 have h2:=Hh (w.alloc (.cells #[k,s0,s1,s2,s3,mn,mx,.slice a s c] 43)) [.int .u8 5,zI,zI,zI,zI,least,Cj,.slice (some ⟨w+1+1,0,none⟩) 1 1] [k,s0,s1,s2,s3,mn,mx,.slice a s c] 43 43
 rw[Zaq]at h2
 have D:=Zaa h2
 clear h2
 go_enter func78,ntmps78
 go_wp2_with fail
 obtain⟨g1,g2,g3,g4⟩:=D.out
 generalize M:(World.alloc (World.alloc _ (Obj.cells (List.toArray [.int .u8 5,zI,zI,zI,zI,least,Cj,.slice (some ⟨w+1+1,0,none⟩) 1 1]) _)) _)=F at g1 g2 g3 g4|-
 have c7:Below w w F:=G.trans (g3.mono yE)
 refine Zho (Aq rfl _ _ _ _ _ rfl g1 yG yG) rfl ⟨_,rfl,?_,c7⟩
 refine Tree.A6.shut (E:=Cc.cells) (l:=(⟨5,0,0,0,0,least,Cj⟩:Cc)) (a:=some ⟨w+1+1,0,none⟩) (c:=1) yF (.inr ⟨_,0,rfl,.inr ⟨yE,yE⟩,fun i ae=>?_⟩)
 exact Z1l
end
section
open Tryz Go.RowKit Go.Shelf
theorem E9:(prog.info? 43).map (fun i=>(i.size,i.bytes,i.zero.map fun z=>z.cells.size))=some (8,80,some 8):=yG
theorem Ez:prog.underlying 41=some (.slice 43):=yG
theorem Fg:∃a,prog.info? 43=some a/\a.size=8:=by
 have h:=E9;cases hp:prog.info? 43 with
 | none=>rw[hp]at h;cases h
 | some i=>
  rw[hp]at h;simp only[Zaj,Zbb,Zgr]at h;exact⟨i,rfl,h.1⟩
theorem C3 {w:zN} {S:zT} {l:Cc} {s:List Rx} {cs:zP} (h:B2 w S (.node l s) cs):∃a c,cs=[.int .u8 l.kind.toNat,.int .u64 l.s0.toNat,.int .u64 l.s1.toNat,.int .u64 l.s2.toNat,.int .u64 l.s3.toNat,.int .i64 l.mn,.int .i64 l.mx,.slice a s c]:=by
 obtain⟨a,c,rfl,-⟩:=Tree.A6.open h;exact⟨a,c,rfl⟩
theorem Yj (k:UInt8) (x:Rx):(D3 k x).length<=x.size:=by
 have h:=Lh k x;have h2:=Tree.Co (D3 k x);omega
theorem Vi (k:UInt8) (x:Rx) (h:x.Cx=k):D3 k x=x.Cb:=if_pos h
theorem Vj (x:Rx) (h:x.Cx=1):D3 3 x=[]:=by simp[D3,h]
theorem O7 (k:UInt8) (x:Rx) (h:x.Cx≠k) (h2:¬(k=3/\x.Cx=1)):D3 k x=[x]:=by simp[D3,h,h2]
theorem Y4 {k:UInt8} (D:k=3\/k=4) {x:Rx} (h:Cd x) (A:x.Cx=k):2<=x.Cb.length:=by
 obtain⟨l,s⟩:=x;rw[Cd.node]at h;simp only[Tree.Cx,Tree.Ak]at A;simp only[Tree.Cb];rcases D with rfl | rfl
 ·cases h.1 with
  | cat _ _ _ _ h2 _=>exact h2
  | _=>simp_all
 cases h.1 with
 | alt _ _ _ _ h2 _=>exact h2
 | _=>simp_all
theorem Sa (k:UInt8) (a7:k=3\/k=4) (a8 a9:Rx) (aY:Cd a8) (aL:Cd a9) (aq:a8.size<=1000) (aH:a9.size<=1000) (cs aT:zP) (w:zN) (ln:zT) (rl:∀b,ln b->b<w.heap.size) (hA:B2 w ln a8 cs) (ar:B2 w ln a9 aT):
  Calls prog 76 #[k,.agg cs.toArray,.agg aT.toArray] w fun e w'=>∃aS,e=.returned (.agg aS.toArray)/\B2 w' (fun b=>ln b\/(w.heap.size<=b/\b<w'.heap.size)) (F9 k a8 a9) aS/\Below w w w':=by
 obtain⟨⟨j6,a0,jk,a2,a3,am,pd⟩,ki⟩:=a8
 obtain⟨⟨lp,fv,b1,b2,hl,pv,ca⟩,gu⟩:=a9
 obtain⟨gz,ac,rfl⟩:=C3 hA
 obtain⟨qd,yj,rfl⟩:=C3 ar
 have aI:=Af (w:=w) (.cells #[j6,a0,jk,a2,a3,am,pd,.slice gz ki ac] 43)
 have aJ:=aI.alloc yF (.cells #[lp,fv,b1,b2,hl,pv,ca,.slice qd gu yj] 43)
 have h2:=Hh ((w.alloc (.cells #[j6,a0,jk,a2,a3,am,pd,.slice gz ki ac] 43)).alloc (.cells #[lp,fv,b1,b2,hl,pv,ca,.slice qd gu yj] 43)) zZ [j6,a0,jk,a2,a3,am,pd,.slice gz ki ac,lp,fv,b1,b2,hl,pv,ca,.slice qd gu yj] 43 43
 rw[Zaq,Zaq]at h2
 have b3:(((w.alloc (.cells #[j6,a0,jk,a2,a3,am,pd,.slice gz ki ac] 43)).alloc (.cells #[lp,fv,b1,b2,hl,pv,ca,.slice qd gu yj] 43)).alloc (.cells zV 43)).heap[w.heap.size+1+1]? =some (.cells zV 43 (0,0)):=by
  have:=Zhe ((w.alloc (.cells #[j6,a0,jk,a2,a3,am,pd,.slice gz ki ac] 43)).alloc (.cells #[lp,fv,b1,b2,hl,pv,ca,.slice qd gu yj] 43)) (.cells zV 43);rwa[Zaq,Zaq]at this
 have az:=(Af (w:=((w.alloc (.cells #[j6,a0,jk,a2,a3,am,pd,.slice gz ki ac] 43)).alloc (.cells #[lp,fv,b1,b2,hl,pv,ca,.slice qd gu yj] 43)).alloc (.cells zV 43)) (.cells #[j6,a0,jk,a2,a3,am,pd,.slice gz ki ac,lp,fv,b1,b2,hl,pv,ca,.slice qd gu yj] 43)).block (w+1+1) yF |>.trans b3
 obtain⟨af,aZ⟩:=zL ((((w.alloc (.cells #[j6,a0,jk,a2,a3,am,pd,.slice gz ki ac] 43)).alloc (.cells #[lp,fv,b1,b2,hl,pv,ca,.slice qd gu yj] 43)).alloc (.cells zV 43)).alloc (.cells #[j6,a0,jk,a2,a3,am,pd,.slice gz ki ac,lp,fv,b1,b2,hl,pv,ca,.slice qd gu yj] 43))
 rw[aZ]at h2 az
 obtain⟨-,aM,al,bE⟩:=h2
 have aE:Below w w af:=aJ.trans (al.mono yE)
 have hA4:=Tree.A6.below hA aE rl
 have aW:=Tree.A6.below ar aE rl
 have bs:=Zaa hA4
 have bf:=Zaa aW
 have bu:=Zaa aM
 have br:=Zaa az
 have ba:=Zaa aY
 have bg:=Zaa aL
 have aK:=Zaa a7
 have aQ:=Yj k (.node ⟨j6,a0,jk,a2,a3,am,pd⟩ ki)
 have aR:=Yj k (.node ⟨lp,fv,b1,b2,hl,pv,ca⟩ gu)
 have bC:ki.length<=1000:=by have:=Tree.Co ki;simp only[Tree.size]at aq;omega
 have bD:gu.length<=1000:=by have:=Tree.Co gu;simp only[Tree.size]at aH;omega
 have aN:=Zaa (Zag aQ aq)
 have bw:=Zaa (Zag aR aH)
 have b4:((k.toNat:Int)==3)=true/\k=3\/((k.toNat:Int)==3)=false/\k=4:=a7.imp (fun e=>by subst e;exact⟨rfl,rfl⟩) (fun e=>by subst e;exact⟨rfl,rfl⟩)
 clear aM b3 az hA4 aW aI aJ aY aL a7 aQ aR aq aH hA ar
 go_enter func76,ntmps76
 go_wp2_with fail
 clear aZ
 go_loopw [7,14] (fun u v wr=>∃(i:Nat) (di:List Rx),v=.int .i64 i/\(i=0/\di=[]\/i=1/\di=D3 k (.node ⟨j6,a0,jk,a2,a3,am,pd⟩ ki)\/i=2/\di=D3 k (.node ⟨j6,a0,jk,a2,a3,am,pd⟩ ki)++D3 k (.node ⟨lp,fv,b1,b2,hl,pv,ca⟩ gu))/\di.length<=2000/\Au (C5 B2 ln (w+4)) (w+4) 43 8 wr di u/\Below (w+4) af wr) (fun _ v _=>2 - (intOf v).toNat)
 case atStart=>exact⟨0,[],rfl,.inl ⟨rfl,rfl⟩,yF,Au.nil _ _ _ _ _,Zai _ _⟩
 case round=>
  obtain⟨i,di,rfl,bn,bh,F,U⟩:=hrel;obtain⟨e6,gc,aO,bq⟩:=F.shape;obtain⟨q,O⟩:∃q,q=di.length:=⟨_,rfl⟩;rw[<-O]at aO bq bh;subst aO;have A:=Aa bu.out U yE;have bv:=U.size;have V:=aE.trans (U.mono yE);have hv:=Zaa O;have bx:=Zaa F;have zc:=Zaa U;have aX:∀b,some b≠(Value.slice e6 q gc).ownBlock\/w.heap.size+4<=b:=fun b=>by
   by_cases e:some b=(Value.slice e6 q gc).ownBlock
   ·exact .inr (F.lt b e.symm).1
   exact .inl e
  have bab:=Zaa aX;clear aX;rcases bn with⟨rfl,M⟩ | ⟨rfl,M⟩ | ⟨rfl,M⟩
  ·have q8:=Zaa M
   have o3:=A 0 _ rfl;have i4:=A 1 _ rfl;have iw:=A 2 _ rfl;have e0:=A 3 _ rfl;have tu:=A 4 _ rfl;have wu:=A 5 _ rfl;have wv:=A 6 _ rfl;have wx:=A 7 _ rfl;simp only[Zac]at o3 i4 iw e0 tu wu wv wx;obtain⟨ay,ic⟩:=zL (wr.alloc (.cells #[j6,a0,jk,a2,a3,am,pd,.slice gz ki ac] 43));refine Z2N ?_;intro bt np;have j8:ay.rangeAt wr 0 [j6,a0,jk,a2,a3,am,pd,.slice gz ki ac]:=by rw[<-ic];exact Ae wr [j6,a0,jk,a2,a3,am,pd,.slice gz ki ac] 43
   refine Z3F ?_;intro s0 s1 s2 s3 va;have ai:=j8 5 _ rfl;have aj:=j8 6 _ rfl;have an:=j8 7 _ rfl;simp only[Zac]at s0 s1 s2 s3 va ai aj an;have W:=Tree.A6.below (bs.out) (show Below w af ay from(U.trans (bt.mono yE)).mono yE) rl;have aa:=F.below (C5.Ab B2.Ab _ _) bt (Zab _);have cW:=Zaa aa;have hq:=Zaa W;clear F aa W M j8 A O U;by_cases G:j6=k
   ·have aF:di.length<=0:=by rw[q8.out];simp
    subst G;have a4:2<=ki.length:=Y4 aK.out ba.out rfl;have tq:D3 j6 (.node ⟨j6,a0,jk,a2,a3,am,pd⟩ ki)=ki:=Vi _ _ rfl;obtain⟨a5,aV,Y,-,aC⟩:=hq.out.open;simp only[Cc.cells,Zas,Zau,Zdm,Zhd,Zhm,Zih]at Y;obtain⟨rfl,rfl⟩:=Y;rcases aC with e | ⟨a6,ae,rfl,bp,H⟩
    ·rw[e]at a4;simp at a4
    have hy:∀i (h:i<ki.length),∃cs,cs.length=8/\(∀u∈cs,u.oneCell'=true)/\ay.rangeAt a6 (ae+i*8) cs/\C5 B2 ln (w+4) ay (fun b=>b<ay.heap.size/\some b≠(Value.slice e6 q gc).ownBlock) ki[i] cs:=fun i h=>by
     obtain⟨cs,h1,h2⟩:=H i h;generalize ki[i]=y at h2;exact Z1G
    have aG:=Zaa hy;have H3:=Zaa tq;have ng:di.length+ki<=maxLen/\(di.length+ki.length)*80<=140737488355328:=vG;have im:=Zaa ng;clear hy H tq ng;go_wp2_with (at_builtin;go_loud (refine I9 (C5.Ab B2.Ab _ _) rfl _ _ 41 rfl (w.heap.size+4) 43 8 80 Ez E9 yH di _ rfl cW.out ki a6 ae _ _ rfl rfl aG.out im.out.1 im.out.2 yE ?_;intro ak ax ag cj jt al i2 ek))
    go_roundw
    case rel=>exact⟨1,di++ki,rfl,.inr (.inl ⟨rfl,by rw[q8.out,H3.out];rfl⟩),vI,cj,zc.out.trans ((bt.mono yE).trans al)⟩
    case measure=>simp[intOf]
   have aF:di.length<=0:=by rw[q8.out];simp
   have b6:((j6.toNat:Int)==(k.toNat:Int))=false:=by
    rw[Zaz];intro e;exact G (Zha.1 (show j6.toNat=k.toNat from yE))
   have bi:¬((j6.toNat:Int)=(k.toNat:Int)):=by intro e;exact G (Zha.1 (show j6.toNat=k.toNat from yE))
   rcases b4 with⟨aD,a7⟩ | ⟨aD,a7⟩
   ·by_cases h1:j6=1
    ·have aB:((j6.toNat:Int)==1)=true:=by rw[h1];rfl
     have tq:D3 k (.node ⟨j6,a0,jk,a2,a3,am,pd⟩ ki)=[]:=by rw[a7];exact Vj _ h1
     have H3:=Zaa tq;clear tq h1 a7;go_wp2_with fail
     go_roundw
     case rel=>exact⟨1,di,rfl,.inr (.inl ⟨rfl,tO⟩),by have:=hv.out;omega,cW.out,zc.out.trans (bt.mono yE)⟩
     case measure=>simp[intOf]
    have aB:((j6.toNat:Int)==1)=false:=by
     rw[Zaz];intro e;exact h1 (Zha.1 (show j6.toNat=1 from yE))
    have tq:D3 k (.node ⟨j6,a0,jk,a2,a3,am,pd⟩ ki)=[(.node ⟨j6,a0,jk,a2,a3,am,pd⟩ ki)]:=O7 _ _ G (fun e=>h1 e.2);exact Z0v
   have tq:D3 k (.node ⟨j6,a0,jk,a2,a3,am,pd⟩ ki)=[(.node ⟨j6,a0,jk,a2,a3,am,pd⟩ ki)]:=O7 _ _ G (fun e=>absurd (e.1.symm.trans a7) yH);exact Z0v
  ·have q8:=Zaa M
   have o3:=A 8 _ rfl;have i4:=A 9 _ rfl;have iw:=A 10 _ rfl;have e0:=A 11 _ rfl;have tu:=A 12 _ rfl;have wu:=A 13 _ rfl;have wv:=A 14 _ rfl;have wx:=A 15 _ rfl;simp only[Zac]at o3 i4 iw e0 tu wu wv wx;obtain⟨ay,ic⟩:=zL (wr.alloc (.cells #[lp,fv,b1,b2,hl,pv,ca,.slice qd gu yj] 43));refine Z2N ?_;intro bt np;have j8:ay.rangeAt wr 0 [lp,fv,b1,b2,hl,pv,ca,.slice qd gu yj]:=by rw[<-ic];exact Ae wr [lp,fv,b1,b2,hl,pv,ca,.slice qd gu yj] 43
   refine Z3F ?_;intro s0 s1 s2 s3 va;have ai:=j8 5 _ rfl;have aj:=j8 6 _ rfl;have an:=j8 7 _ rfl;simp only[Zac]at s0 s1 s2 s3 va ai aj an;have W:=Tree.A6.below (bf.out) (show Below w af ay from(U.trans (bt.mono yE)).mono yE) rl;have aa:=F.below (C5.Ab B2.Ab _ _) bt (Zab _);have cW:=Zaa aa;have hq:=Zaa W;clear F aa W M j8 A O U;by_cases G:lp=k
   ·have aF:di.length<=1000:=by rw[q8.out];exact aN.out
    subst G;have a4:2<=gu.length:=Y4 aK.out bg.out rfl;have tq:D3 lp (.node ⟨lp,fv,b1,b2,hl,pv,ca⟩ gu)=gu:=Vi _ _ rfl;obtain⟨a5,aV,Y,-,aC⟩:=hq.out.open;simp only[Cc.cells,Zas,Zau,Zdm,Zhd,Zhm,Zih]at Y;obtain⟨rfl,rfl⟩:=Y;rcases aC with e | ⟨a6,ae,rfl,bp,H⟩
    ·rw[e]at a4;simp at a4
    have hy:∀i (h:i<gu.length),∃cs,cs.length=8/\(∀u∈cs,u.oneCell'=true)/\ay.rangeAt a6 (ae+i*8) cs/\C5 B2 ln (w+4) ay (fun b=>b<ay.heap.size/\some b≠(Value.slice e6 q gc).ownBlock) gu[i] cs:=fun i h=>by
     obtain⟨cs,h1,h2⟩:=H i h;generalize gu[i]=y at h2;exact Z1G
    have aG:=Zaa hy;have H3:=Zaa tq;have ng:di.length+gu<=maxLen/\(di.length+gu.length)*80<=140737488355328:=vG;have im:=Zaa ng;clear hy H tq ng;go_wp2_with (at_builtin;go_loud (refine I9 (C5.Ab B2.Ab _ _) rfl _ _ 41 rfl (w.heap.size+4) 43 8 80 Ez E9 yH di _ rfl cW.out gu a6 ae _ _ rfl rfl aG.out im.out.1 im.out.2 yE ?_;intro ak ax ag cj jt al i2 ek))
    go_roundw
    case rel=>exact⟨2,di++gu,rfl,.inr (.inr ⟨rfl,tO⟩),vI,cj,zc.out.trans ((bt.mono yE).trans al)⟩
    case measure=>simp[intOf]
   have aF:di.length<=1000:=by rw[q8.out];exact aN.out
   have b6:((lp.toNat:Int)==(k.toNat:Int))=false:=by
    rw[Zaz];intro e;exact G (Zha.1 (show lp.toNat=k.toNat from yE))
   have bi:¬((lp.toNat:Int)=(k.toNat:Int)):=by intro e;exact G (Zha.1 (show lp.toNat=k.toNat from yE))
   rcases b4 with⟨aD,a7⟩ | ⟨aD,a7⟩
   ·by_cases h1:lp=1
    ·have aB:((lp.toNat:Int)==1)=true:=by rw[h1];rfl
     have tq:D3 k (.node ⟨lp,fv,b1,b2,hl,pv,ca⟩ gu)=[]:=by rw[a7];exact Vj _ h1
     have H3:=Zaa tq;clear tq h1 a7;go_wp2_with fail
     go_roundw
     case rel=>exact⟨2,di,rfl,.inr (.inr ⟨rfl,by rw[q8.out,H3.out,Zdk]⟩),by have:=hv.out;omega,cW.out,zc.out.trans (bt.mono yE)⟩
     case measure=>simp[intOf]
    have aB:((lp.toNat:Int)==1)=false:=by
     rw[Zaz];intro e;exact h1 (Zha.1 (show lp.toNat=1 from yE))
    have tq:D3 k (.node ⟨lp,fv,b1,b2,hl,pv,ca⟩ gu)=[(.node ⟨lp,fv,b1,b2,hl,pv,ca⟩ gu)]:=O7 _ _ G (fun e=>h1 e.2);exact Z0w
   have tq:D3 k (.node ⟨lp,fv,b1,b2,hl,pv,ca⟩ gu)=[(.node ⟨lp,fv,b1,b2,hl,pv,ca⟩ gu)]:=O7 _ _ G (fun e=>absurd (e.1.symm.trans a7) yH);exact Z0w
  have T:=Zaa (Dp ((U.block (w+1+1) yE).trans br.out));have q8:=Zaa M;have aP:=F.Am8 B2.Ab;have bb:=Zaa aP;clear aP M A U;rcases(show q=0\/q=1\/2<=q from yE)with ad | ad | ad
  ·subst ad
   obtain rfl:di=[]:=Zeo.1 hv.out.symm;have a1:=Zaa (show F9 k (.node ⟨j6,a0,jk,a2,a3,am,pd⟩ ki) (.node ⟨lp,fv,b1,b2,hl,pv,ca⟩ gu)=.node (Fq 1) []from by unfold F9;rw[<-q8.out];rfl);clear F O;go_wp2_with (refine Zil rfl 43 _ _ rfl _ _ _ rfl rfl ?_ ?_ ?_ ?_)
   ·exact T.out
   ·first | kernel_rfl | exact Fg
   ·simp[Value.oneCell']
   have D:=Ao wr (w+1+1) [.int .u8 1,zI,zI,zI,zI,zE,zE,zH] 0;have J:=Zar wr (w+1+1) 0 [.int .u8 1,zI,zI,zI,zI,zE,zE,zH] T.out;generalize wr.setCells (w+1+1) 0 [.int .u8 1,.int .u64 0,.int .u64 0,.int .u64 0,.int .u64 0,.int .i64 0,.int .i64 0,.slice none 0 0]=ab at D J|-;have aU:=D.size;refine Zho (Aq rfl _ _ _ _ _ rfl J yG yG) rfl ⟨_,rfl,?_,V.grown D V.size (fun r e=>yM)⟩;rw[a1.out];exact Tree.A6.shut (E:=Cc.cells) (l:=Fq 1) (Zap _) (.inl rfl)
  ·subst ad
   obtain⟨x,rfl⟩:∃x,di=[x]:=List.length_eq_one_iff.1 hv.out.symm;have a1:=Zaa (show F9 k (.node ⟨j6,a0,jk,a2,a3,am,pd⟩ ki) (.node ⟨lp,fv,b1,b2,hl,pv,ca⟩ gu)=x from by unfold F9;rw[<-q8.out];rfl);obtain⟨g,bF,b5,bz,bB,H⟩:=(F.at).resolve_left yF;injection b5 with be b9 bl;subst be bl;obtain⟨cs,-,gk,ah,-⟩:=H 0 yF;simp only[Zek]at ah;obtain⟨⟨av,v0,v1,v2,v3,aw,aA⟩,au⟩:=x;obtain⟨ao,ap,rfl⟩:=C3 ah;refine Z4c ?_;intro o3 i4 iw e0 tu wu wv wx;simp only[Zgl,Zac]at o3 i4 iw e0 tu wu wv wx;have bc:=Zaa ah;clear H ah gk F O b9;go_wp2_with (refine Zil rfl 43 _ _ rfl _ _ _ rfl rfl ?_ ?_ ?_ ?_)
   ·exact T.out
   ·first | kernel_rfl | exact Fg
   ·simp[Value.oneCell']
   have D:=Ao wr (w+1+1) [av,v0,v1,v2,v3,aw,aA,.slice ao au ap] 0;have J:=Zar wr (w+1+1) 0 [av,v0,v1,v2,v3,aw,aA,.slice ao au ap] T.out;generalize wr.setCells (w+1+1) 0 [.int .u8 av.toNat,.int .u64 v0.toNat,.int .u64 v1.toNat,.int .u64 v2.toNat,.int .u64 v3.toNat,.int .i64 aw,.int .i64 aA,.slice ao au ap]=ab at D J|-;have aU:=D.size;refine Zho (Aq rfl _ _ _ _ _ rfl J yG yG) rfl ⟨_,rfl,?_,V.grown D V.size (fun r e=>yM)⟩;rw[a1.out];exact Tree.A6.mono (Tree.A6.block bc.out (fun b U=>D.block b U.1.1 (by simp;rcases U.2 with h | h;have:=rl b h;omega;omega))) fun b U=>by
    have:=U.1.1;rcases U.2 with h | h
    ·exact .inl h
    exact .inr ⟨yE,yE⟩
  have a1:=Zaa (show F9 k (.node ⟨j6,a0,jk,a2,a3,am,pd⟩ ki) (.node ⟨lp,fv,b1,b2,hl,pv,ca⟩ gu)=.node (Fq k) di from by
   unfold F9;rw[<-q8.out];have:=hv.out
   match di,this with
   | [],h=>simp at h;omega
   | [x],h=>simp at h;omega
   | x::y::r,_=>rfl)
  have ad:((q:Int)==0)=false:=yZ;have bA:((q:Int)==1)=false:=yZ;clear F O;go_wp2_with (refine Zil rfl 43 _ _ rfl _ _ _ rfl rfl ?_ ?_ ?_ ?_)
  ·exact T.out
  ·first | kernel_rfl | exact Fg
  ·simp[Value.oneCell']
  have D:=Ao wr (w+1+1) [k,zI,zI,zI,zI,zE,zE,.slice e6 q gc] 0;have J:=Zar wr (w+1+1) 0 [k,zI,zI,zI,zI,zE,zE,.slice e6 q gc] T.out;generalize wr.setCells (w+1+1) 0 [.int .u8 k.toNat,.int .u64 0,.int .u64 0,.int .u64 0,.int .u64 0,.int .i64 0,.int .i64 0,.slice e6 q gc]=ab at D J|-;have aU:=D.size;refine Zho (Aq rfl _ _ _ _ _ rfl J yG yG) rfl ⟨_,rfl,?_,V.grown D V.size (fun r e=>yM)⟩;rw[a1.out];have b7:=Al.Ab B2.Ab |>.block bb.out (fun b U=>D.block b U.2 (by simp;rcases U.1 with h | h;have:=rl b h;omega;omega));obtain⟨a5,aV,bo,bj,bm⟩:=Al.Ab B2.Ab |>.wide b7 (S':=fun b=>ln b\/(w.heap.size<=b/\b<ab.heap.size)) (fun b U=>by
   have:=U.2;rcases U.1 with h | h
   ·exact .inl h
   exact .inr ⟨yE,yE⟩)
  injection bo with b8 bd bk;subst b8 bk;have b0:=Tree.A6.shut (E:=Cc.cells) (K:=8) (w:=ab) (S:=fun b=>ln b\/(w.heap.size<=b/\b<ab.heap.size)) (l:=Fq k) (s:=di) (a:=e6) (c:=gc) bj bm;rw[<-bd]at b0;exact b0
end
section
open Tryz Go.RowKit Go.Shelf
theorem Pe (x y:Nat) (a1:x<2^64) (hy:y<2^64):bits BinOp.or IntKind.u64 (x:Int) (y:Int)=((x|||y:Nat):Int):=by
 exact Z1n
theorem S7 (r:Nat) (h:r<64):IntKind.u64.wrap ((2:Int)^r)=((2^r:Nat):Int):=by
 exact Z1N
def Ji:List ByteArray:=[⟨#[97]⟩,⟨#[98]⟩,⟨#[97,98]⟩,⟨#[97]⟩,⟨#[98]⟩,⟨#[99]⟩,⟨#[97,98,99]⟩,⟨#[98,99]⟩,⟨#[10]⟩,⟨#[0,255]⟩,⟨#[97]⟩,⟨#[98]⟩]
theorem Adw (n:UInt8) (w:zN):
  Calls prog 75 #[n] w fun e w'=>∃s,e=.returned (.string s)/\s∈Ji/\Below w w w':=by
 have F:=n.toNat_lt
 generalize n.toNat=N at F|-
 obtain⟨q,M,G⟩:∃q:Nat,(N:Int)%12=(q:Int)/\q<12:=⟨N%12,yE,yE⟩
 have J:(q:Int) <12:=yE
 obtain⟨s,b0⟩:∃s,Ji[q]? =some s:=⟨_,Zam (show q<Ji from G)⟩
 have A:s∈Ji:=Zax b0
 have D:=Ae w (Ji.map Value.string) 9 q (.string s) xF
 simp only[Ji,Zbi,Zeu,Zac]at D
 have H:=Zaa A
 clear b0 A
 go_enter func75,ntmps75
 go_wp2_with fail
 go_ret
 exact⟨s,rfl,H.out,Af _⟩
theorem Y5 (s:zS) (h1:1<=s.size) (h2:s.size<=10) (w:zN):
  Calls prog 74 #[s] w fun e w'=>∃(l:Cc) (cs:zP),e=.returned (.agg cs.toArray)/\B2 w' (fun _=>False) (.node l []) cs/\l.kind=2/\¬l.blank/\l.plain/\Below w w w':=by
 obtain⟨ac,a5⟩:=zL ((w.alloc (.cells zV 43)).alloc (.cells #[zI,zI,zI,zI] 40))
 have h3:=Hh w zZ [zI,zI,zI,zI] 43 40
 rw[a5]at h3
 obtain⟨-,-,an,aG⟩:=h3
 have ag:ac.heap[w.heap.size+1]? =some (.cells #[zI,zI,zI,zI] 40 (0,0)):=by rw[<-a5];have:=Zhe (w.alloc (.cells zV 43)) (.cells #[zI,zI,zI,zI] 40);rwa[Zaq]at this
 have al:ac.heap[w.heap.size]? =some (.cells zV 43 (0,0)):=by rw[<-a5];exact(Af (w:=w.alloc (.cells zV 43)) (.cells #[zI,zI,zI,zI] 40)).block _ yF |>.trans (Zhe w _)
 have au:=Zaa ag
 have aA:=Zaa al
 clear ag al
 go_enter func74,ntmps74
 go_wp2_with fail
 clear a5
 go_loopw [7] (fun v wr=>∃(i:Nat) (A D F G:Nat),i<=s.size/\v=.int .i64 i/\wr.heap[w.heap.size+1]? =some (.cells #[.int .u64 A,.int .u64 D,.int .u64 F,.int .u64 G] 40 (0,0))/\(A<2^64/\D<2^64/\F<2^64/\G<2^64)/\(i=0\/¬(A=0/\D=0/\F=0/\G=0))/\wr.heap[w.heap.size]? =some (.cells zV 43 (0,0))/\Below w w wr) (fun v _=>s.size - (intOf v).toNat)
 case atStart=>exact⟨0,0,0,0,0,Zap _,rfl,au.out,⟨yH,yH,yH,yH⟩,.inl rfl,aA.out,an⟩
 case round=>
  obtain⟨i,A,D,F,G,aC,rfl,Y,a1,aq,bl,U⟩:=hrel;by_cases ao:i<s.size
  ·have aF:(i:Int) <s.size:=by omega
   go_wp2_with fail
   have ee:(wr.drewN 1).heap=wr.heap:=Zhg _ _;have H:(wr.drewN 1).heap[w.heap.size+1]? =some (.cells #[.int .u64 A,.int .u64 D,.int .u64 F,.int .u64 G] 40 (0,0)):=by rw[ee];exact Y
   refine C1 [(0,.inl none),(1,.inl none),(2,.inl none),(3,.inl none),(4,.inl none),(5,.inl (some 0)),(6,.inl none),(7,.inl none),(8,.inl none),(9,.inl none),(10,.inl none),(11,.inl none),(12,.inl none),(13,.inr [])]
    (fun _ W=>W.rangeAt (w+1) 0 [.int .u64 A,.int .u64 D,.int .u64 F,.int .u64 G]) yG yG (fun _=>A4 H) ?_
   refine Z3s ?_;obtain⟨C,hC⟩:=zL ((s[i]'ao).toNat);have aD:C<256:=by rw[<-hC];exact Zhb _
   obtain⟨r,aB,q0⟩:∃r:Nat,(C:Int).tmod 64=(r:Int)/\r<64:=⟨C%64,wN,yE⟩;rcases(show C / 64=0\/C / 64=1\/C / 64=2\/C / 64=3 from yE)with a0 | a0 | a0 | a0
   ·have a6:(C:Int).tdiv 64=0:=by rw[Zcu yE];omega
    have hu:IntKind.u8.wrap 0=0:=Zcz _ yE;clear a0;refine Z4w ?_;refine Z2m ?_;refine Av (.int .u64 A) yI (fun w' T=>?_) (fun K J=>?_)
    ·have bh:=T 0 _ rfl
     exact Z15
    refine Z42 ?_;clear J K;refine Z00 ?_;refine Z4w ?_;have aj:=Pe A (2^r) a1.1 (Zgi yH q0);refine Z51 ?_;intro fK;have M:A|||2^r<2^64:=Zgg a1.1 (Zgi yH q0);have O:¬(A|||2^r=0):=fun e=>by
     exact Z1S
    generalize A|||2^r=V at M O|-;have a9:=Zhv (wr.drewN 1) (w+1) 0 #[.int .u64 A,.int .u64 D,.int .u64 F,.int .u64 G] 40 H;have a2:=A4 H 0 _ rfl;simp only[Zac]at a2;have ix:=Zhy (wr.drewN 1) (w+1) 0 #[.int .u64 A,.int .u64 D,.int .u64 F,.int .u64 G] 40 (.int .u64 V) H;have bu:=As (wr.drewN 1) (w+1) 0 (.int .u64 V);refine Z3w ?_;intro c8 w6 hq p4 xw;clear ix a1 w6 aj fK bl Y H ee;refine Cy rfl (fun K J=>?_);go_wp2_with fail
    refine J _ _ yF ?_;clear J K;refine Z4L ?_;intro aK nk y3;generalize(wr.drewN 1).setCell ⟨w+1,0,none⟩ (.int .u64 V)=a3 at aK nk y3|-;refine C7 ?_;go_wp2_with fail
    go_roundw
    case rel=>exact⟨i+1,V,D,F,G,yE,yK,y3,⟨M,hq.out.2⟩,.inr (fun e=>O e.1),aK,nk⟩
    case measure=>simp[intOf];omega
   ·have a6:(C:Int).tdiv 64=1:=by rw[Zcu yE];omega
    have hu:IntKind.u8.wrap 1=1:=Zcz _ yE;clear a0;refine Z4w ?_;refine Z2m ?_;refine Av (.int .u64 D) yI (fun w' T=>?_) (fun K J=>?_)
    ·have bh:=T 1 _ rfl
     exact Z15
    refine Z42 ?_;clear J K;refine Z00 ?_;refine Z4w ?_;have aj:=Pe D (2^r) a1.2.1 (Zgi yH q0);refine Z51 ?_;intro fK;have M:D|||2^r<2^64:=Zgg a1.2.1 (Zgi yH q0);have O:¬(D|||2^r=0):=fun e=>by
     exact Z1S
    generalize D|||2^r=V at M O|-;have a9:=Zhv (wr.drewN 1) (w+1) 1 #[.int .u64 A,.int .u64 D,.int .u64 F,.int .u64 G] 40 H;have a2:=A4 H 1 _ rfl;simp only[Zac]at a2;have ix:=Zhy (wr.drewN 1) (w+1) 1 #[.int .u64 A,.int .u64 D,.int .u64 F,.int .u64 G] 40 (.int .u64 V) H;have bu:=As (wr.drewN 1) (w+1) 1 (.int .u64 V);refine Z3w ?_;intro c8 w6 hq p4 xw;clear ix a1 w6 aj fK bl Y H ee;refine Cy rfl (fun K J=>?_);go_wp2_with fail
    refine J _ _ yF ?_;clear J K;refine Z4L ?_;intro aK nk y3;generalize(wr.drewN 1).setCell ⟨w+1,1,none⟩ (.int .u64 V)=a3 at aK nk y3|-;refine C7 ?_;go_wp2_with fail
    go_roundw
    case rel=>exact⟨i+1,A,V,F,G,yE,yK,y3,⟨hq.out.1,M,hq.out.2.2⟩,.inr (fun e=>O e.2.1),aK,nk⟩
    case measure=>simp[intOf];omega
   ·have a6:(C:Int).tdiv 64=2:=by rw[Zcu yE];omega
    have hu:IntKind.u8.wrap 2=2:=Zcz _ yE;clear a0;refine Z4w ?_;refine Z2m ?_;refine Av (.int .u64 F) yI (fun w' T=>?_) (fun K J=>?_)
    ·have bh:=T 2 _ rfl
     exact Z15
    refine Z42 ?_;clear J K;refine Z00 ?_;refine Z4w ?_;have aj:=Pe F (2^r) a1.2.2.1 (Zgi yH q0);refine Z51 ?_;intro fK;have M:F|||2^r<2^64:=Zgg a1.2.2.1 (Zgi yH q0);have O:¬(F|||2^r=0):=fun e=>by
     exact Z1S
    generalize F|||2^r=V at M O|-;have a9:=Zhv (wr.drewN 1) (w+1) 2 #[.int .u64 A,.int .u64 D,.int .u64 F,.int .u64 G] 40 H;have a2:=A4 H 2 _ rfl;simp only[Zac]at a2;have ix:=Zhy (wr.drewN 1) (w+1) 2 #[.int .u64 A,.int .u64 D,.int .u64 F,.int .u64 G] 40 (.int .u64 V) H;have bu:=As (wr.drewN 1) (w+1) 2 (.int .u64 V);refine Z3w ?_;intro c8 w6 hq p4 xw;clear ix a1 w6 aj fK bl Y H ee;refine Cy rfl (fun K J=>?_);go_wp2_with fail
    refine J _ _ yF ?_;clear J K;refine Z4L ?_;intro aK nk y3;generalize(wr.drewN 1).setCell ⟨w+1,2,none⟩ (.int .u64 V)=a3 at aK nk y3|-;refine C7 ?_;go_wp2_with fail
    go_roundw
    case rel=>exact⟨i+1,A,D,V,G,yE,yK,y3,⟨hq.out.1,hq.out.2.1,M,hq.out.2.2.2⟩,.inr (fun e=>O e.2.2.1),aK,nk⟩
    case measure=>simp[intOf];omega
   have a6:(C:Int).tdiv 64=3:=by rw[Zcu yE];omega
   have hu:IntKind.u8.wrap 3=3:=Zcz _ yE;clear a0;refine Z4w ?_;refine Z2m ?_;refine Av (.int .u64 G) yI (fun w' T=>?_) (fun K J=>?_)
   ·have bh:=T 3 _ rfl
    exact Z15
   refine Z42 ?_;clear J K;refine Z00 ?_;refine Z4w ?_;have aj:=Pe G (2^r) a1.2.2.2 (Zgi yH q0);refine Z51 ?_;intro fK;have M:G|||2^r<2^64:=Zgg a1.2.2.2 (Zgi yH q0);have O:¬(G|||2^r=0):=fun e=>by
    exact Z1S
   generalize G|||2^r=V at M O|-;have a9:=Zhv (wr.drewN 1) (w+1) 3 #[.int .u64 A,.int .u64 D,.int .u64 F,.int .u64 G] 40 H;have a2:=A4 H 3 _ rfl;simp only[Zac]at a2;have ix:=Zhy (wr.drewN 1) (w+1) 3 #[.int .u64 A,.int .u64 D,.int .u64 F,.int .u64 G] 40 (.int .u64 V) H;have bu:=As (wr.drewN 1) (w+1) 3 (.int .u64 V);have c8:Below w w (wr.drewN 1):=U.grown (B5 _ 1 none) U.size yF;have w6:(wr.drewN 1).heap[w.heap.size]? =some (.cells zV 43 (0,0)):=by rw[ee];exact bl
   have hq:=Zaa a1;have p4:=Zaa ix;have xw:=Zaa w6;clear ix a1 w6 aj fK bl Y H ee;refine Cy rfl (fun K J=>?_);go_wp2_with fail
   refine J _ _ yF ?_;clear J K;refine Z4L ?_;intro aK nk y3;generalize(wr.drewN 1).setCell ⟨w+1,3,none⟩ (.int .u64 V)=a3 at aK nk y3|-;refine C7 ?_;go_wp2_with fail
   go_roundw
   case rel=>exact⟨i+1,A,D,F,V,yE,yK,y3,⟨hq.out.1,hq.out.2.1,hq.out.2.2.1,M⟩,.inr (fun e=>O e.2.2.2),aK,nk⟩
   case measure=>simp[intOf];omega
  obtain rfl:i=s.size:=by omega
  have aE:¬((s.size:Int) <s.size):=yE;have a4:=A4 Y;have az:=a4 0 _ rfl;have ax:=a4 1 _ rfl;have ay:=a4 2 _ rfl;have av:=a4 3 _ rfl;simp only[Zac]at az ax ay av;have ae:=Zaa (Dp bl);clear a4 Y bl;go_wp2_with (refine Zil rfl 43 _ _ rfl _ _ _ rfl rfl ?_ ?_ ?_ ?_)
  ·exact ae.out
  ·first | kernel_rfl | exact Fg
  ·simp[Value.oneCell']
  have af:=Ao wr w [.int .u8 2,.int .u64 A,.int .u64 D,.int .u64 F,.int .u64 G,zE,zE,zH] 0;have ai:=Zar wr w 0 [.int .u8 2,.int .u64 A,.int .u64 D,.int .u64 F,.int .u64 G,zE,zE,zH] ae.out;generalize wr.setCells w 0 [.int .u8 2,.int .u64 A,.int .u64 D,.int .u64 F,.int .u64 G,.int .i64 0,.int .i64 0,.slice none 0 0]=a3 at af ai|-;obtain⟨ap,bh,ar,aw⟩:=a1;have aa:(UInt64.ofNat A).toNat=A:=by simpa using Nat.mod_eq_of_lt ap
  have a8:(UInt64.ofNat D).toNat=D:=by simpa using Nat.mod_eq_of_lt bh
  have a7:(UInt64.ofNat F).toNat=F:=by simpa using Nat.mod_eq_of_lt ar
  have ab:(UInt64.ofNat G).toNat=G:=by simpa using Nat.mod_eq_of_lt aw
  refine Zho (Aq rfl _ _ _ _ _ rfl ai yG yG) rfl
   ⟨⟨2,UInt64.ofNat A,UInt64.ofNat D,UInt64.ofNat F,UInt64.ofNat G,0,0⟩,_,rfl,?_,rfl,?_,⟨rfl,rfl⟩,U.grown af U.size (fun r e=>yM)⟩
  ·have am:=Tree.A6.shut (E:=Cc.cells) (K:=8) (w:=a3) (S:=fun _=>False) (l:=⟨2,UInt64.ofNat A,UInt64.ofNat D,UInt64.ofNat F,UInt64.ofNat G,0,0⟩) (s:=[]) (a:=none) (c:=0) (Zap _) (.inl rfl)
   simp only[Cc.cells,aa,a8,a7,ab]at am;exact am
  rintro⟨ad,q1,ah,ak⟩;simp only at ad q1 ah ak;rw[ad]at aa;rw[q1]at a8;rw[ah]at a7;rw[ak]at ab;refine(aq.resolve_left yE) ⟨aa.symm,a8.symm,a7.symm,ab.symm⟩
end
section
open Tryz Go.RowKit Go.Shelf
def D7:List ByteArray:=[⟨#[97]⟩,⟨#[98]⟩,⟨#[99]⟩,⟨#[100]⟩]
def N6:List ByteArray:=[⟨#[97]⟩,⟨#[98]⟩,⟨#[97,98]⟩,⟨#[98,97]⟩,⟨#[97,97,98]⟩,⟨#[99]⟩]
structure Ti (n:Nat) (r:A7):Prop where
 fields:Io r
 Ea:r.kind=1->F3 r.Bu
 size:r.Bu.size<=26
 Fm:r.Aw.length<=3
 Aw:∀a∈r.Aw,Ow (Ei r) a
 A3:(r.A3∈D7.take n/\r.Bl=0)\/(r.A3=Fw/\0<=r.Bl/\r.Bl<=255)
structure StateM (n:Nat) (x:Bc):Prop where
 Fm:x.Ai.length<=5
 Ai:∀r∈x.Ai,Ti n r
def Dt (f:List Nat):List Et:=(Cv.zip f).map fun p=>⟨p.1,true,Fw,p.2⟩
def Ht (t:List ByteArray):List Et:=(Dq.zip t).map fun p=>⟨p.1,false,p.2,0⟩
structure Pf (l:List Et):Prop where
 is:∃f0 f1 f2 f3 t0 t1,l=Dt [f0,f1,f2,f3]++Ht [t0,t1]/\(∀f∈[f0,f1,f2,f3],f<2^64/\D1 f=true)/\t0.size<=3/\t1.size<=3
structure H7 (s:Ap):Prop where
 Aj:2<=s.Aj/\s.Aj<=12
 An:Pf s.An
 more:1<=s.Ac.length
 Fm:s.Ac.length<=4
 names:∀(i:Nat) (x:Bc),s.Ac[i]? =some x->D7[i]? =some x.name
 Ac:∀x∈s.Ac,StateM s.Ac x
theorem Xp (r:A7): -1<=Ei r:=by
 unfold Ei;split
 ·omega
 split<;>omega
theorem An9 (r:A7) (h:r.kind=1->F3 r.Bu):Ei r<=9:=by
 unfold Ei;split
 ·rename_i e;have:=(h e).groups;omega
 split<;>omega
end
section
open Tryz Go.RowKit Ieee
theorem Aog (x y:Nat) (w:zN):
  Calls prog 325 #[.float .f64 x,.float .f64 y] w fun e w'=>∃r,e=.returned (.float .f64 r)/\B7 r=Lq .add x y/\r<2^64/\Below w w w':=by
 obtain⟨r,D,h,h1,h2,h3,h4⟩:=R6 .add (by simp[J1]) x y w
 have H1:=Zaa h1;have A:=Zaa h2;have F:=Zaa h4
 clear h1 h2 h4
 go_enter func325,ntmps325
 go_wp2
 go_ret
 exact⟨r,rfl,H1.out,A.out,h3⟩
theorem Arv (x y:Nat) (w:zN) (J:x<2^64) (hy:y<2^64):
  Calls prog 282 #[.int .u8 2,.float .f64 x,.float .f64 y] w fun e w'=>e=.returned (.float .f64 (Lq .add x y))/\Below w w w':=by
 have O:∀w,(Instr.index 399 (.agg Gn) (.int .u8 2)).run prog w=.ok (.agg #[Value.string {data:=#[43]},Value.func (Fn.func 325) #[] #[]]) w:=fun _=>yG
 have T:∀w,(Instr.field 398 (.agg #[Value.string {data:=#[43]},Value.func (Fn.func 325) #[] #[]]) 1).run prog w=.ok (Value.func (Fn.func 325) #[] #[]) w:=fun _=>yG
 go_enter func282,ntmps282
 go_wp2_with (first | (go_at_call 301;refine(X6 _).mono ?_;rintro e w' ⟨rfl,rfl⟩) | (go_at_call 325;refine(Aog _ _ _).mono ?_;rintro e M ⟨r,rfl,A,D,G⟩;have F:=Zaa A;clear A;have H:=(((Zai _ w).alloc (Zab _) _).trans (G.mono yF))) | (go_at_call 106;refine(Pd _ _ D).mono ?_;rintro e w' ⟨rfl,rfl⟩))
 go_ret
 exact⟨Aia F.out,H⟩
end
section
open Tryz Go.RowKit Ieee
theorem Afr:Gn.size=16:=rfl
theorem Afx (W:zN) (z v:Array Value) (t:TypeId):(W.alloc (.cells z t (0,0))).setRow W v=W.alloc (.cells v t (0,0)):=by
 unfold World.setRow;show({W with heap:=(W.heap.push _).modify _ _}:World)={W with heap:=W.heap.push _};congr 1;apply Array.ext
 ·simp
 intro k h1 h2;simp only[Array.getElem_modify,Array.getElem_push];by_cases e:W=k
 ·simp[e]
 rw[if_neg e];simp at h1;rw[dif_pos yE,dif_pos yE]
theorem Abm (w:zN) (o:Obj):(w.alloc o).heap[w.heap.size]? =some o:=by
 show(w.heap.push o)[_]? =_;simp
theorem Aah (w:zN) (o:Obj):(w.alloc o).heap.size=w.heap.size+1:=by
 show(w.heap.push o).size=_;simp
theorem Ada (w:zN) (z:Array Value) (A:z.size=16):
  (storeCells ⟨w+1,0,none⟩ Gn.toList).run prog ((w.alloc (.cells Gn 399)).alloc (.cells z 399))=.ok () ((w.alloc (.cells Gn 399)).alloc (.cells Gn 399)):=by
 have e:=Aah w (.cells Gn 399)
 have h:=run_storeCells_from (P:=prog) (w+1) 399 Gn.toList 0 z ((w.alloc (.cells Gn 399)).alloc (.cells z 399)) (by rw[<-e];exact Abm _ _) (by rw[A];rfl) yH
 rw[h,<-e]
 rw[Afx]
 rfl
def Am4 (k:Nat):ByteArray:=
 match k with
 | 1=>{data:=#[45]}
 | 2=>{data:=#[43]}
 | 3=>{data:=#[45]}
 | 4=>{data:=#[42]}
 | 5=>{data:=#[47]}
 | 6=>{data:=#[109,105,110]}
 | 7=>{data:=#[109,97,120]}
 | _=>{data:=#[]}
theorem Ahg (w:zN) (j:Nat) (A:j<8):((w.alloc (.cells Gn 399)).alloc (.cells Gn 399)).cell? ⟨w+1,j*2,none⟩=some (.string (Am4 j)):=by
 have e:=Aah w (.cells Gn 399);have h:=Abm (w.alloc (.cells Gn 399)) (.cells Gn 399);rw[e]at h;simp only[World.cell?,h]
 match j,A with
 | 0,_=>rfl
 | 1,_=>rfl
 | 2,_=>rfl
 | 3,_=>rfl
 | 4,_=>rfl
 | 5,_=>rfl
 | 6,_=>rfl
 | 7,_=>rfl
theorem Alo (j:Nat) (A:j<8) (w:zN):
  Calls prog 281 #[.int .u8 j] w fun e w'=>e=.returned (.string (Am4 j))/\Below w w w':=by
 have F:=Ada w (z:=#[Value.string {data:=#[]},Value.nilFunc,Value.string {data:=#[]},Value.nilFunc,
        Value.string {data:=#[]},Value.nilFunc,Value.string {data:=#[]},Value.nilFunc,
        Value.string {data:=#[]},Value.nilFunc,Value.string {data:=#[]},Value.nilFunc,
        Value.string {data:=#[]},Value.nilFunc,Value.string {data:=#[]},Value.nilFunc]) rfl
 have G:=Afr
 have D:=Ahg w j A
 go_enter func281,ntmps281
 go_wp2_with (go_at_call 301;refine(X6 _).mono ?_;rintro e w' ⟨rfl,rfl⟩)
 go_ret
 exact⟨rfl,((Zai _ w).alloc (Zab _) _).alloc yF _⟩
theorem Aod (x y:Nat) (w:zN) (D:x<2^64) (hy:y<2^64):
  Calls prog 251 #[.int .u8 2,.float .f64 x,.float .f64 y] w fun e w'=>e=.returned (.tuple #[.float .f64 (Lq .add x y),zE])/\Below w w w':=by
 have F:∀W,Calls prog 281 #[.int .u8 2] W fun e w'=>e=.returned (.string {data:=#[43]})/\Below W W w':=fun W=>Alo 2 yE W
 go_enter func251,ntmps251
 go_wp2_with (first | (go_at_call 281;refine(F _).mono ?_;rintro e G ⟨rfl,A⟩) | (go_at_call 282;refine(Arv _ _ _ D hy).mono ?_;rintro e H ⟨rfl,hC⟩))
 go_ret2
 exact⟨rfl,A.trans (hC.mono A.size)⟩
end
end Go.Proofs.YtafmoofknjncpaaGreatDoor
