/- A part of the proof that ModelWrong holds: its theorems stand as they are typed. -/
import Derived.Test.YtafmoofknjncpaaGreatDoorQk
set_option linter.all false
set_option maxRecDepth 100000
set_option maxHeartbeats 8000000
namespace Go.Proofs.YtafmoofknjncpaaGreatDoor
section
open Tryz Go.RowKit Go.Shelf
theorem Y7 {w:zN} {S:zT} {l:List ByteArray} {a:zO} {n c m:Nat} (h:Al Eh 1 w S l (.slice a n c)) (A:∀b,S b->b<m):Bs w m 1 a (l.map fun x=>[.string x]):=by
 obtain⟨D,F,e,-,h⟩:=h;cases e;rcases h with rfl | ⟨b,o,rfl,U,h⟩
 ·exact .inl rfl
 refine .inr ⟨b,o,rfl,A b U,fun i ae=>?_⟩;obtain⟨cs,h1,h2⟩:=h i xE;cases h2;rw[Zbh];exact⟨h1,rfl⟩
theorem Amn {w:zN} {S:zT} {l:List ByteArray} {a:zO} {n c:Nat} (h:Al Eh 1 w S l (.slice a n c)):a=none->l=[]:=by
 rintro rfl;obtain⟨A,D,e,-,h⟩:=h;cases e;rcases h with h | ⟨b,o,h,-⟩
 ·exact h
 cases h
def Acr (s:Ap) (P:zT) (lo D mt G lb F:Nat) (s0 s1 s2:Value) (Bv:List ByteArray) (M:Value) (l:List Dv) (J:Nat->Bb):Prop:=
 ∀(k:Nat) (O:k<l) (X:zN) (A:zT) (b:Nat) (cs:zP),(∀q,P q->A q)->Bt X A lo D mt G lb F s0 s1 s2 (J k)->A0 X A s [s0,s1,s2]->Al Eh 1 X A Bv M->Ar X b 105 [zK D]->Ar X (b+1) 85 [M]->C2 X (fun q=>q<X.heap.size) l[k] cs->
  Calls prog (Aci l[k].kind.toNat) #[.agg cs.toArray,zK b,zK (b+1)] X fun e H=>e=.returned (.tuple #[])/\Bt H A lo D mt G lb F s0 s1 s2 (J (k+1))/\A8 A X H
def Wv (s:Ap) (r:A7) (a A:Bb):Prop:=
 (r.A3=⟨#[]⟩/\A=a.ends 2 r.Bl)\/∃(j:Nat) (y:Bc),¬r.A3.toList=[]/\Er s r.A3=some j/\s.Ac[j]? =some y/\J0 y.Ai/\a.Bd.length<=512/\firstM (Eg y.Ai) a.Bd (a.Bd+1) 0=none/\a.eof=false/\A=a.goes j
theorem Ako (s:Ap) (cp:Ef s) (w:zN) (P:zT) (lo A mt a1 lb Y:Nat) (s0 s1 s2:Value) (st:Bb) (h:Bt w P lo A mt a1 lb Y s0 s1 s2 st) (ba:A0 w P s [s0,s1,s2]) (x:Bc) (b8:s.Ac[st.state]? =some x) (i:Nat) (r:A7) (bv:x.Ai[i]? =some r) (take:Nat) (Bv:List ByteArray) (ak:zO) (al:Nat) (bE:Al Eh 1 w P Bv (.slice ak Bv al))
  (dl:1<=st.left) (dn:st.left<=64) (dm:0<=st.used) (ck:st.used<=1000000) (dg:st.low<=1000) (e0:st.Bd.length<=512) (cE:take<=st.Bd.length) (dx:st.A5.length<=900) (hlen:r.Aw.length<=16) (a6:Nat->Bb) (h0:a6 0=if r.kind=1\/r.kind=2 then st.one.cut 2 take else st.one)
  (bD:∀a∈r.Aw,a.kind=1\/a.kind=3) (cd:Acr s P lo A mt a1 lb Y s0 s1 s2 Bv (.slice ak Bv al) r.Aw a6) (c4:Bb) (c9:Wv s r (a6 r.Aw) c4):
  Calls prog 69 #[zK A,i,take,.slice ak Bv al] w fun e w'=>e=.returned (.tuple #[])/\Bt w' P lo A mt a1 lb Y s0 s1 s2 c4/\A8 P w w':=by
 have cG:=Zaa cd
 have cK:=Zaa c9
 have cH:=Zaa bD
 obtain⟨a3,a4,a2,os,a0,dR,rc,rfl,rfl,rfl,dY,dM,cD,ct⟩:=Ku ba b8
 have dh:=(Zeg.1 b8).1
 have cw:=(Zeg.1 b8).2
 have b6:=(Zeg.1 bv).1
 have c6:=(Zeg.1 bv).2
 obtain⟨⟨az,aY,U,aa,he,a9⟩,-⟩:=id h
 have dq:=U.cell (j:=9) rfl
 have bl:=h.Ny
 have bH:=Zaa (Aio w mt st.left st.used bl dl dn dm ck)
 have ax:=Bn (As w mt 1 (.int .i64 (st.left - 1))) (As (w.setCell ⟨mt,1,none⟩ (.int .i64 (st.left - 1))) mt 2 (.int .i64 (st.used+1)))
 have h1:Bt _ P lo A mt a1 lb Y _ _ _ st.one:=h.Aiq ax ((bl.set 1 (.int .i64 (st.left - 1))).set 2 (.int .i64 (st.used+1)))
 have aE:=h.Am5 ax
 clear cd c9 bD bl aa he a9
 go_enter func69,ntmps69
 go_wp2_with fail
 refine bH.out.mono ?_
 rintro e aH ⟨rfl,bx⟩
 rw[<-bx]at ax h1 aE
 clear bx dq bH
 have bn:=A0.Ab.block ba fun b U=>aE.block b U
 have bQ:=(Al.Ab Eh.Ab).block bE fun b U=>aE.block b U
 have dJ:=aE.size
 have c2:=Zaa (Uf aH P lo A mt a1 lb Y _ _ st.one s.Ac P (some ⟨a2,os,none⟩) a0 h1 (by
  obtain⟨v,u,e,dS,cY⟩:=bn;simp only[Zdm,Zhm]at e;obtain⟨-,-,rfl⟩:=e;exact cY) dh)
 go_wp2_with fail
 refine c2.out.mono ?_
 rintro e au ⟨v,rfl,c5,nd,dj⟩
 have av:Below aH aH au:=sA
 have h2:=h1.below av
 have bY:=A0.Ab.block bn fun b U=>av.block b (h1.low b U)
 have bR:=(Al.Ab Eh.Ab).block bQ fun b U=>av.block b (h1.low b U)
 have cA:Al Bj 16 au P x.Ai v:=by
  have:=(Al.Ab Bj.Ab).block c5 (w':=au) fun b U=>av.block b (h1.low b U)
  simp only[Bb.one]at this;rw[cw]at this;exact this
 clear c5 dj c2 ct
 obtain⟨dU,dV,rfl,cF,di | ⟨dN,dO,rfl,dI,aQ⟩⟩:=cA
 ·rw[di]at b6;simp at b6
 obtain⟨cs,D,bB⟩:=aQ i b6
 rw[c6]at bB
 obtain⟨dK,dZ,rfl,bW,aJ⟩:=bB
 obtain⟨z0,bw,z2,z3,z4,z5,bJ,cg,ci,ch,rfl⟩:=Ue bW
 obtain⟨b0,ac,rfl,-⟩:=id aJ
 clear bW aQ c6 cD
 simp only[Zas,Zau]at D
 have aG:(((r.kind.toNat:Int)==1)=true/\(r.kind=1\/r.kind=2))\/(((r.kind.toNat:Int)==1)=false/\((r.kind.toNat:Int)==2)=true/\(r.kind=1\/r.kind=2))\/(((r.kind.toNat:Int)==1)=false/\((r.kind.toNat:Int)==2)=false/\¬(r.kind=1\/r.kind=2)):=by
  by_cases T:r.kind=1
  ·exact .inl ⟨by rw[T];rfl,.inl T⟩
  have ce:((r.kind.toNat:Int)==1)=false:=by
   rw[Zaz];intro e;exact T (Zha.1 (by simpa using(show r.kind.toNat=1 from yE)))
  by_cases V:r.kind=2
  ·exact .inr (.inl ⟨ce,by rw[V];rfl,.inr V⟩)
  have dp:((r.kind.toNat:Int)==2)=false:=by
   rw[Zaz];intro e;exact V (Zha.1 (by simpa using(show r.kind.toNat=2 from yE)))
  exact .inr (.inr ⟨ce,dp,fun h=>h.elim T V⟩)
 have cX:=Zaa (show r.A3=r.A3 from rfl)
 have cQ:∃aF,aF=r.A3:=⟨_,rfl⟩
 obtain⟨aF,an⟩:=cQ
 obtain⟨b7,aD⟩:∃b7,b7=r.Bl:=⟨_,rfl⟩
 rw[<-an,<-aD]at D
 have c7:=Zaa an
 have cJ:=Zaa aD
 clear an aD cX
 generalize(r.kind.toNat:Int)=cf at D aG
 generalize r.Bh=bZ at D
 generalize r.Bp=b1 at D
 generalize r.text=c1 at D
 generalize r.Az=bX at D
 have d0:=D 0 _ rfl
 have d1:=D 1 _ rfl
 have d2:=D 2 _ rfl
 have d3:=D 3 _ rfl
 have d4:=D 4 _ rfl
 have d5:=D 5 _ rfl
 have d6:=D 6 _ rfl
 have d7:=D 7 _ rfl
 have d8:=D 8 _ rfl
 have d9:=D 9 _ rfl
 have d10:=D 10 _ rfl
 have d11:=D 11 _ rfl
 have d12:=D 12 _ rfl
 have d13:=D 13 _ rfl
 have d14:=D 14 _ rfl
 have d15:=D 15 _ rfl
 rw[Zaf]at d0
 have cu:(i:Int) <x.Ai.length:=yE
 have cT:i<x.Ai:=b6
 generalize x.Ai=dv at cu cT cF
 obtain⟨O,cM,aR,aI,cV⟩:=Bx au [.int .u8 cf,bZ,b1,.int .u8 z0,.int .u64 bw,.int .u64 z2,.int .u64 z3,.int .u64 z4,z5,bJ,.slice cg ci ch,c1,bX,.slice b0 r.Aw ac,.string aF,.int .i64 b7] 48
 clear cV
 go_upto_region 2 with fail
 have aS:∀q,P q->P q\/aH.heap.size<=q/\q<O.heap.size:=fun q G=>.inl G
 have bC:=av.size
 have dL:=aI.size
 have bo:=av.trans (aI.mono bC)
 have h3:=h1.more bo
 have aT:=A0.Ab.wide (A0.Ab.block bY (w':=O) fun b U=>aI.block b (h2.low b U)) aS
 have aM:=(Al.Ab Eh.Ab).wide ((Al.Ab Eh.Ab).block bR (w':=O) fun b U=>aI.block b (h2.low b U)) aS
 have aK:=(Al.Ab C2.Ab).wide ((Al.Ab C2.Ab).block aJ (w':=O) fun b U=>aI.block b (h2.low b U)) aS
 have aC:(fun q=>P q\/aH.heap.size<=q/\q<O.heap.size) au:=.inr ⟨bC,aR.lt⟩
 have bM:A8 P w O:=aE.trans (A8.By bo h1.low)
 have bd:∃a5:Nat->Prop,(∀q,P q->a5 q)/\Bt O a5 lo A mt a1 lb Y (.int .i64 s.Aj) (.slice a3 s.An a4) (.slice (some ⟨a2,os,none⟩) s.Ac a0) st.one/\A0 O a5 s [s.Aj,.slice a3 s.An a4,.slice (some ⟨a2,os,none⟩) s.Ac a0]/\Al Eh 1 O a5 Bv (.slice ak Bv al)/\Al C2 8 O a5 r.Aw (.slice b0 r.Aw ac)/\a5 au:=⟨_,aS,h3,aT,aM,aK,aC⟩
 clear h3 aT aM aK aC
 obtain⟨a5,aB,h3,aT,aM,aK,aC⟩:=bd
 clear aS h1 h2 bn bY bQ bR aJ av bo aE cM D d0 d1 d2 d3 d4 d5 d6 d7 d8 d9 d10 d11 d12 d13 d14 d15 ba bE
 obtain⟨b2,b5⟩:∃b2,b2=au.heap.size:=⟨_,rfl⟩
 rw[<-b5]at aR aC
 have dA:=Zaa b5
 rw[<-b5]
 clear b5
 have cB:=aR.cell (j:=0) rfl
 obtain⟨B,ab⟩:∃B:Bool,B=decide (r.kind=1\/r.kind=2):=⟨_,rfl⟩
 go_cut [29] (fun v aU=>v=.bool B/\aU=O)
 case first=>
  rcases aG with⟨T,hm⟩ | ⟨T,V,hm⟩ | ⟨T,V,hm⟩
  ·rw[Zht hm]at ab
   go_wp2_with fail
   go_meet
   case rel=>exact⟨by rw[ab],rfl⟩
  ·rw[Zht hm]at ab
   go_wp2_with fail
   go_meet
   case rel=>exact⟨by rw[ab],rfl⟩
  rw[Zhs hm]at ab;go_wp2_with fail
  go_meet
  case rel=>exact⟨by rw[ab],rfl⟩
 case rest=>
 obtain⟨rfl,co⟩:=hcut
 subst co
 obtain⟨O,cL⟩:∃O,O=wc:=⟨_,rfl⟩
 subst cL
 clear aG cB
 go_upto_if 29 with fail
 go_cut [] (fun aU=>Bt aU a5 lo A mt a1 lb Y (.int .i64 s.Aj) (.slice a3 s.An a4) (.slice (some ⟨a2,os,none⟩) s.Ac a0) (a6 0)/\A8 a5 O aU)
 case first=>
  cases B with
  | true=>
   have hm:=Zib ab.symm;rw[if_pos hm]at h0;have dc:=Zaa (Aar O a5 lo A mt a1 lb Y _ _ _ st.one h3 2 take cE dg (by simp only[Bb.one];omega) (by simp only[Bb.one];omega));go_wp2_with fail
   refine dc.out.mono ?_;rintro e a7 ⟨rfl,h4,ar⟩;go_wp2_with fail
   go_meet
   case rel=>exact⟨by rw[h0];exact h4,ar⟩
  | false=>
   have hm:=of_decide_eq_false ab.symm;rw[if_neg hm]at h0;go_wp2_with fail
   go_meet
   case rel=>exact⟨by rw[h0];exact h3,A8.refl _ _⟩
 case rest=>
 obtain⟨aA,ar⟩:=hcut
 obtain⟨a7,cn⟩:∃a7,a7=wc:=⟨_,rfl⟩
 subst cn
 have bp:=ar.box aR aC
 clear h3 h0 ab
 go_upto_region 4 with fail
 have c0:=A0.Ab.block aT fun b U=>ar.block b U
 have bS:=(Al.Ab Eh.Ab).block aM fun b U=>ar.block b U
 have bK:=(Al.Ab C2.Ab).block aK fun b U=>ar.block b U
 have bG:=Zaa (Akq a7 A ak Bv al)
 clear aT aM aK aR
 go_wp2_with fail
 refine bG.out.mono ?_
 rintro e a8 ⟨rfl,bh,da,aw⟩
 have br:=bp.below aw bp.lt
 have bd:∃F:Nat->Prop,(∀q,a5 q->F q)/\Bt a8 F lo A mt a1 lb Y (.int .i64 s.Aj) (.slice a3 s.An a4) (.slice (some ⟨a2,os,none⟩) s.Ac a0) (a6 0)/\A0 a8 F s [s.Aj,.slice a3 s.An a4,.slice (some ⟨a2,os,none⟩) s.Ac a0]/\Al Eh 1 a8 F Bv (.slice ak Bv al)/\Al C2 8 a8 F r.Aw (.slice b0 r.Aw ac)/\F b2/\F a7.heap.size/\F (a7.heap.size+1)/\F (a7.heap.size+2)/\A8 a5 a7 a8:=
  ⟨_,fun q G=>.inl G,aA.more aw,A0.Ab.wide (A0.Ab.block c0 (w':=a8) fun b U=>aw.block b (aA.low b U)) (fun q G=>.inl G),(Al.Ab Eh.Ab).wide ((Al.Ab Eh.Ab).block bS (w':=a8) fun b U=>aw.block b (aA.low b U)) (fun q G=>.inl G),(Al.Ab C2.Ab).wide ((Al.Ab C2.Ab).block bK (w':=a8) fun b U=>aw.block b (aA.low b U)) (fun q G=>.inl G),.inl aC,.inr yE,.inr yE,.inr yE,A8.By aw aA.low⟩
 obtain⟨F,aL,h5,cc,bT,bL,cN,bvv,dM,bi,cb⟩:=bd
 obtain⟨M,b4⟩:∃M,M=a7.heap.size:=⟨_,rfl⟩
 rw[<-b4]at bh bvv dM bi
 rw[<-b4]
 have dF:=Zaa b4
 have cy:=br.cell (j:=13) rfl
 have bN:=bM.trans ((ar.trans cb).Gz aB)
 clear b4 aA c0 bS bK bp aw da bG ar cb bM
 have cm:=Zaa br
 have mu:=Zaa bh
 have cI:=Zaa bL
 have ca7:=Zaa bT
 have jQ:=Zaa cc
 have cal:=Zaa hlen
 clear br bh bL bT cc hlen
 go_wp2_with fail
 go_loopw [39] (fun v wr=>∃k:Nat,k<=r.Aw/\v=.int .i64 k/\Bt wr F lo A mt a1 lb Y (.int .i64 s.Aj) (.slice a3 s.An a4) (.slice (some ⟨a2,os,none⟩) s.Ac a0) (a6 k)/\A8 F a8 wr) (fun v _=>r.Aw.length - (intOf v).toNat)
 case atStart=>exact⟨0,Zap _,rfl,h5,A8.refl _ _⟩
 case round=>
  clear cy h5;obtain⟨k,dr,rfl,ad,ay⟩:=hrel;rcases Zga k r.Aw.length with ao | dQ
  ·have dC:(k:Int) <r.Aw.length:=by omega
   have bt:=cH.out _ (Zat ao);have aJ:=(Al.Ab C2.Ab).block cI.out fun b U=>ay.block b U
   obtain⟨ds,du,cU,e2,cq | ⟨dW,dw,rfl,dH,aQ⟩⟩:=aJ
   ·rw[cq]at ao;simp at ao
   cases cU;obtain⟨dz,H,bg⟩:=aQ k ao;have bqy:=ad.low;have bp7:=Zaa fun(X:zN) (cs:zP) (h1:Bt X F lo A mt a1 lb Y (.int .i64 s.Aj) (.slice a3 s.An a4) (.slice (some ⟨a2,os,none⟩) s.Ac a0) (a6 k)) (h2:A0 X F s [s.Aj,.slice a3 s.An a4,.slice (some ⟨a2,os,none⟩) s.Ac a0]) (h3:Al Eh 1 X F Bv (.slice ak Bv al)) (h4:Ar X M 105 [zK A]) (h5:Ar X (M+1) 85 [.slice ak Bv al]) (h6:C2 X (fun q=>q<X.heap.size) r.Aw[k] cs)=>cG.out k ao X F M cs (fun q G=>aL q (aB q G)) h1 h2 h3 h4 h5 h6
   generalize r.Aw[k]=a at bt bg bp7;have aW:=bg;obtain⟨dP,es,rfl,⟨ah,ag,rfl,-⟩,bV⟩:=bg;obtain⟨ai,T,V,am,af,aq,ae,rfl⟩:=Us bV;obtain⟨dT,aj,ap,dG⟩:=a;simp only[Zas,Zau]at H aW bt bp7;clear bV aQ;generalize ap.length=pl at H aW;have ca4:=Zaa aW;clear aW;rcases bt with rfl | rfl
   ·have fc:(([.int .u8 ((1:UInt8).toNat:Int)]++[.int .u8 1,.string aj,.slice ah pl ag,.int .u8 ai,.float .f64 T,.string V,.int .i64 am,.slice af aq ae].tail):List Value)=[.int .u8 ((1:UInt8).toNat:Int),.string aj,.slice ah pl ag,.int .u8 ai,.float .f64 T,.string V,.int .i64 am,.slice af aq ae]:=rfl
    have d0:=H 0 _ rfl;have d1:=H 1 _ rfl;have d2:=H 2 _ rfl;have d3:=H 3 _ rfl;have d4:=H 4 _ rfl;have d5:=H 5 _ rfl;have d6:=H 6 _ rfl;have d7:=H 7 _ rfl;rw[Zaf]at d0;rw[show(((1:UInt8).toNat:Nat):Int)=1 from rfl]at d0;obtain⟨b3,bq,xa,bj,-⟩:=Bx wr [.int .u8 1,aj,.slice ah pl ag,.int .u8 ai,.float .f64 T,V,am,.slice af aq ae] 120;have h6:=ad.below bj;have bf:=Zaa bj;clear bj;go_upto_region 8 with fail
    clear d0 d1 d2 d3 d4 d5 d6 d7 H bq;have bj:=bf.out;have cC:=ay.trans (A8.By bj bqy);obtain⟨be,blq⟩:=mu.out.map;have blr:=(cC.block _ bi).trans blq;have qz:=P5 b3 M (M+2) be 1 yF blr;refine Z0Z ?_;intro bc q1 eh hn i3 hb hc wt c3;have dd:(Instr.lookup 208 (.map (some (M+2))) (.int .u8 1) false).run prog b3=.ok (.func (.func 134) #[] #[zK M,zK (M+1)]) b3:=qz;have bsm:=Zaa (show Calls prog 134 #[.agg #[.int .u8 1,aj,.slice ah pl ag,.int .u8 ai,.float .f64 T,V,am,.slice af aq ae],zK M,zK (M+1)] b3 fun e aO=>e=.returned (.tuple #[])/\Bt aO F lo A mt a1 lb Y (.int .i64 s.Aj) (.slice a3 s.An a4) (.slice (some ⟨a2,os,none⟩) s.Ac a0) (a6 (k+1))/\A8 F b3 aO from c3.out);exact Z32
   have fc:(([.int .u8 ((3:UInt8).toNat:Int)]++[.int .u8 3,.string aj,.slice ah pl ag,.int .u8 ai,.float .f64 T,.string V,.int .i64 am,.slice af aq ae].tail):List Value)=[.int .u8 ((3:UInt8).toNat:Int),.string aj,.slice ah pl ag,.int .u8 ai,.float .f64 T,.string V,.int .i64 am,.slice af aq ae]:=rfl;have d0:=H 0 _ rfl;have d1:=H 1 _ rfl;have d2:=H 2 _ rfl;have d3:=H 3 _ rfl;have d4:=H 4 _ rfl;have d5:=H 5 _ rfl;have d6:=H 6 _ rfl;have d7:=H 7 _ rfl;rw[Zaf]at d0;rw[show(((3:UInt8).toNat:Nat):Int)=3 from rfl]at d0;obtain⟨b3,bq,xa,bj,-⟩:=Bx wr [.int .u8 3,aj,.slice ah pl ag,.int .u8 ai,.float .f64 T,V,am,.slice af aq ae] 120;have h6:=ad.below bj;have bf:=Zaa bj;clear bj;go_upto_region 8 with fail
   clear d0 d1 d2 d3 d4 d5 d6 d7 H bq;have bj:=bf.out;have cC:=ay.trans (A8.By bj bqy);obtain⟨be,blq⟩:=mu.out.map;have blr:=(cC.block _ bi).trans blq;have qz:=P5 b3 M (M+2) be 3 yF blr;refine Z0Z ?_;intro bc q1 eh hn i3 hb hc wt c3;have dd:(Instr.lookup 208 (.map (some (M+2))) (.int .u8 3) false).run prog b3=.ok (.func (.func 138) #[] #[zK M,zK (M+1)]) b3:=qz;have bsm:=Zaa (show Calls prog 138 #[.agg #[.int .u8 3,aj,.slice ah pl ag,.int .u8 ai,.float .f64 T,V,am,.slice af aq ae],zK M,zK (M+1)] b3 fun e aO=>e=.returned (.tuple #[])/\Bt aO F lo A mt a1 lb Y (.int .i64 s.Aj) (.slice a3 s.An a4) (.slice (some ⟨a2,os,none⟩) s.Ac a0) (a6 (k+1))/\A8 F b3 aO from c3.out);exact Z32
  obtain rfl:k=r.Aw:=by omega
  have dB:¬((r.Aw.length:Int) <r.Aw.length):=yE;have bu:=ay.box cm.out cN;have bA:=bu.cell (j:=14) rfl;have an:=c7.out;have aD:=cJ.out;have bI:=Zaa bu;clear bu;rcases cK.out with⟨b9,rfl⟩ | ⟨j,y,b9,db,hy,cr,cR,df,cP,rfl⟩
  ·rw[b9]at an
   subst an;subst aD;have dy:=bI.out.cell (j:=15) rfl;obtain⟨⟨az,aY,U,aa,he,a9⟩,-⟩:=id ad;have ax:=Bn (As wr A 11 (.int .u8 2)) (As (wr.setCell ⟨A,11,none⟩ (.int .u8 2)) A 12 (.int .i64 r.Bl));have ca:=(U.set 11 (.int .u8 2)).set 12 (.int .i64 r.Bl);have de:=ad.U1 ((a6 r.Aw).ends 2 r.Bl) he a9 ax rfl rfl rfl rfl ca aa;have cZ:=ad.kept ax;have e1:=U.cell (j:=11) rfl;have dE:=U.cell (j:=12) rfl;have f11:=U.frozen 11;have f12:=U.frozen 12;clear U aa he a9 ax ca;go_wp2_with fail
   refine Zho (Zid rfl _ _ _) rfl ?_;exact⟨rfl,de.Gz fun q G=>aL q (aB q G),bN.trans ((ay.trans cZ).Gz fun q G=>aL q (aB q G))⟩
  have G:(aF.toList==([]:List UInt8))=false:=by rw[an];simpa using b9
  clear an aD;have bU:=ad.low;have dk:=A0.Ab.block jQ.out fun b U=>ay.block b U
  obtain⟨⟨az,aY,U,aa,he,a9⟩,-⟩:=id ad;have aN:Below wr wr (wr.drewN 1):=Bk (Zai _ _) 1 (Zab _);have h7:=ad.below aN;have aV:=A0.Ab.block dk (w':=wr.drewN 1) fun b U=>aN.block b (bU b U)
  have aZ:=U.drewN 1;have bP:=bI.out;have aG:=A8.By aN bU;clear U aa he a9 bA;have bA:=bP.cell (j:=14) rfl;go_upto_region 12 with fail
  refine Ce [(0,.inl none),(1,.inl none),(2,.inl none),(3,.inl none),(4,.inl (some 0)),(5,.inl none),(6,.inl (some 0)),(7,.inr ([],[0])),(8,.inl none),(9,.inl none),(10,.inl none),(11,.inl none),(12,.inl none),(13,.inr ([],[]))]
   (fun _ X=>X.rangeAt A 0 [s.Aj,.slice a3 s.An a4,.slice (some ⟨a2,os,none⟩) s.Ac a0]/\Ar X b2 48 [.int .u8 cf,bZ,b1,.int .u8 z0,.int .u64 bw,.int .u64 z2,.int .u64 z3,.int .u64 z4,z5,bJ,.slice cg ci ch,c1,bX,.slice b0 r.Aw ac,.string aF,.int .i64 b7]) [0] yG yG (fun _ _=>⟨fun j v az=>aZ.range j v (by
    match j,az with
    | 0,h=>exact h
    | 1,h=>exact h
    | 2,h=>exact h
    | _+3,h=>simp at h),bP.drewN 1⟩) ?_
  refine Z09 ?_;generalize wr.drewN 1=c8 at aN h7 aV aZ aG|-;have dX:=aN.size;have aX:=Zaa (Ur s cp r.A3 _ c8 c8 (Zab _) (A0.Ab.wide aV fun b U=>h7.low b U));rw[db,<-c7.out]at aX;simp only[Option.getD_some,Zgo]at aX;iterate 4 (refine Ah (fun K J=>?_);go_simp;refine J _ ?_;clear J K)
  refine Gx (v:=.agg ([s.Aj,.slice a3 s.An a4,.slice (some ⟨a2,os,none⟩) s.Ac a0]:List Value).toArray) rfl (fun W cv=>B6 30 _ rfl A 0 rfl [s.Aj,.slice a3 s.An a4,.slice (some ⟨a2,os,none⟩) s.Ac a0] cv.1 yG yG) ?_;refine Z2o ?_;refine Ba (.string aF) yI (fun w' cl=>?_) (fun K J=>?_)
  ·have dt:=cl.2.cell (j:=14) rfl;go_simp
  (go_simp;refine J _ ?_;clear J K)
  refine A1 rfl (fun K J=>?_);go_wp2_with fail
  refine aX.out.mono ?_;rintro e bm ⟨rfl,aP⟩;go_wp2_with fail
  refine J _ _ yF (fun _ _ bb=>⟨Aa bb.1 aP aZ.lt,bb.2.below aP bb.2.lt⟩) ?_;clear J K aX;have h9:=h7.below aP;have cO:=A0.Ab.block aV (w':=bm) fun b U=>aP.block b (h7.low b U)
  have cj:=aG.trans (A8.By aP h7.low);clear aZ h7 aV az aY;obtain⟨⟨az,aY,U,aa,he,a9⟩,-⟩:=id h9;have bF:=As bm A 3 (.int .i64 (j:Int));have bz:=U.set 3 (.int .i64 (j:Int));have h10:=h9.U1 {a6 r.Aw.length with state:=j} he a9 bF rfl rfl rfl rfl bz aa;have bk:=h9.kept bF;have bO:=A0.Ab.block cO fun b U=>bk.block b U
  have cW:=U.cell (j:=3) rfl;have f3:=U.frozen 3;clear U aa he a9 bz;refine Z46 ?_;refine A1 rfl (fun K J=>?_);go_wp2_with fail
  refine Z3y ?_;clear J K cW f3;generalize bm.setCell ⟨A,3,none⟩ (.int .i64 (j:Int))=cx at h10 bO bk|-;have cz:=Zaa (Wg s cx F lo A mt a1 lb Y _ _ _ _ h10 bO y hy cr cR df cP);refine B1 ?_;go_wp2_with fail
  refine cz.out.mono ?_;rintro e dD ⟨rfl,h11,cS⟩;go_wp2_with fail
  go_end0
  exact⟨rfl,h11.Gz fun q G=>aL q (aB q G),bN.trans ((ay.trans (cj.trans (bk.trans cS))).Gz fun q G=>aL q (aB q G))⟩
end
section
open Tryz Go.RowKit Go.Shelf
def L6 (s:Ap) (t take:Nat) (Bv:List ByteArray) (st J:Bb):Prop:=
 ∀(w:zN) (P:zT) (lo A mt F lb D:Nat) (s0 s1 s2:Value) (G:zO) (H:Nat),Bt w P lo A mt F lb D s0 s1 s2 st->A0 w P s [s0,s1,s2]->Al Eh 1 w P Bv (.slice G Bv H)->
  Calls prog 69 #[zK A,t,take,.slice G Bv H] w fun e w'=>e=.returned (.tuple #[])/\Bt w' P lo A mt F lb D s0 s1 s2 J/\A8 P w w'
theorem Qu {w:zN} {S:zT} {r:A7} {cs:zP} (h:Bj w S r cs):∃(T b1:Bool) (z0 A z2 z3 z4 z5 D:Int) (G:zO) (J H:Nat) (U:zS) (M:Int) (F:zO) (V ac:Nat) (W:zS) (Y:Int),M=r.Az/\cs=[.int .u8 r.kind.toNat,.bool T,.bool b1,.int .u8 z0,.int .u64 A,.int .u64 z2,.int .u64 z3,.int .u64 z4,.int .i64 z5,.int .i64 D,.slice G J H,.string U,.int .i64 M,.slice F V ac,.string W,.int .i64 Y]:=by
 obtain⟨a0,a1,rfl,O,⟨F,ac,rfl,-⟩⟩:=h;obtain⟨z0,A,z2,z3,z4,z5,D,G,J,H,rfl⟩:=Ue O;exact⟨_,_,z0,A,z2,z3,z4,z5,D,G,J,H,_,_,F,_,ac,_,_,rfl,rfl⟩
theorem Arm (k:Nat) (G b1:Bool) (z0 A z2 z3 z4 z5 D:Int) (U:zO) (W V:Nat) (H:zS) (F:Int) (J:zO) (M ac:Nat) (O:zS) (T:Int) (w:zN):
  Calls prog 71 #[.agg #[.int .u8 k,G,b1,.int .u8 z0,.int .u64 A,.int .u64 z2,.int .u64 z3,.int .u64 z4,z5,D,.slice U W V,H,F,.slice J M ac,O,T]] w fun e w'=>e=.returned (.bool ((k:Int)==3))/\Below w w w':=by
 obtain⟨a0,a1,Y,aa,-⟩:=Bx w [.int .u8 k,G,b1,.int .u8 z0,.int .u64 A,.int .u64 z2,.int .u64 z3,.int .u64 z4,z5,D,.slice U W V,H,F,.slice J M ac,O,T] 48
 have a2:=Y.cell (j:=0) rfl
 go_enter func71,ntmps71
 exact Z0F
def Ana (s:Ap) (st G:Bb):Prop:=
 ∀(w:zN) (P:zT) (lo A mt F lb D:Nat) (s0 s1 s2:Value),Bt w P lo A mt F lb D s0 s1 s2 st->A0 w P s [s0,s1,s2]->
  Calls prog 38 #[zK A] w fun e w'=>e=.returned (.tuple #[])/\Bt w' P lo A mt F lb D s0 s1 s2 G/\A8 P w w'
def Abx (A:List A7) (i:Nat):Bool:=(A[i]?.map fun r=>((r.kind.toNat:Int)==3)).getD false
theorem Ae4 (s:Ap) (st T:Bb) (x:Bc) (M:s.Ac[st.state]? =some x) (hlen:x.Ai.length<=1000) (h3:(E8 (Abx x.Ai) x.Ai.length= -1/\T=st.ends 3 0)\/∃t:Nat,E8 (Abx x.Ai) x.Ai.length=t/\L6 s t 0 [] st T):Ana s st T:=by
 intro w P lo A mt a1 lb Y s0 s1 s2 h J;obtain⟨aM,aN,az,os,ah,aS,rc,rfl,rfl,rfl,aV,aP,ad,ai⟩:=Ku J M;have aC:=(Zeg.1 M).1;have aj:=(Zeg.1 M).2;have a5:=Zaa (Uf w P lo A mt a1 lb Y _ _ st s.Ac P (some ⟨az,os,none⟩) ah h (by
  obtain⟨v,u,e,aT,ar⟩:=J;simp only[Zdm,Zhm]at e;obtain⟨-,-,rfl⟩:=e;exact ar) aC)
 go_enter func38,ntmps38
 go_wp2_with fail
 refine a5.out.mono ?_;rintro e F ⟨v,rfl,V,nd,dj⟩;have G:Below w w F:=sA;have h2:=h.below G;have ap:=A0.Ab.block J fun b U=>G.block b (h.low b U)
 have a8:=h.low;rw[aj]at V;have aa:=(Al.Ab Bj.Ab).wide ((Al.Ab Bj.Ab).block V (w':=F) fun b U=>G.block b (a8 b U)) (fun b U=>h2.low b U);obtain⟨a,c,af,rfl,aU,an,a6,hI⟩:=aa.rows (fun y cs hy=>by obtain⟨_,_,_,_,_,_,_,_,_,_,_,_,_,_,_,_,_,_,_,-,rfl⟩:=Qu hy;rfl);have a2:=Zaa (Ag4 71 #[] (fun _ _=>rfl) a c af (Abx x.Ai) F F (Zab _) yE a6 (fun i ae X aK=>by
  have ab:i<x.Ai:=yE;obtain⟨au,b1,z0,ag,z2,z3,z4,z5,am,aG,aI,aH,aw,ao,ax,aA,ac,aE,aF,-,e⟩:=Qu (hI i ab ae);rw[e];have:=Arm x.Ai[i].kind.toNat au b1 z0 ag z2 z3 z4 z5 am aG aI aH aw ao ax aA ac aE aF X;have ak:Abx x.Ai i=((x.Ai[i].kind.toNat:Int)==3):=by simp[Abx,ab]
  rw[ak];exact this))
 rw[an]at a2;have aq:=A8.By G a8;clear V dj aa a6 hI a5 ad ai J;go_wp2_with fail
 refine a2.out.mono ?_;rintro e H ⟨rfl,O⟩;have h4:=h2.below O;have av:=A0.Ab.block ap (w':=H) fun b U=>O.block b (h2.low b U)
 have a9:=aq.trans (A8.By O h2.low);rcases h3 with⟨D,rfl⟩ | ⟨t,D,a0⟩
 ·rw[D]
  obtain⟨⟨aJ,aQ,U,a4,he,a3⟩,-⟩:=id h4;have W:=Bn (As H A 11 (.int .u8 3)) (As (H.setCell ⟨A,11,none⟩ (.int .u8 3)) A 12 (.int .i64 0));have a7:=(U.set 11 (.int .u8 3)).set 12 (.int .i64 0);have aB:=h4.U1 (st.ends 3 0) he a3 W rfl rfl rfl rfl a7 a4;have ay:=h4.kept W;have aW:=U.cell (j:=11) rfl;have aO:=U.cell (j:=12) rfl;have f11:=U.frozen 11;have f12:=U.frozen 12;clear U a4 he a3 W a7 D;go_wp2_with fail
  refine Zho (Zid rfl _ _ _) rfl ?_;exact⟨rfl,aB,a9.trans ay⟩
 rw[D];have aR:¬((t:Int) <0):=yE;have al:=Zaa (a0 H P lo A mt a1 lb Y _ _ _ none 0 h4 av ⟨none,0,rfl,Zab _,.inl rfl⟩);clear D a0;go_wp2_with fail
 refine al.out.mono ?_;rintro e aL ⟨rfl,h5,aD⟩;go_wp2_with fail
 go_end0
 exact⟨rfl,h5,a9.trans aD⟩
def H5 (A:List A7):List Int:=A.filterMap fun r=>if r.kind=4 then some r.Az else none
def I6:List A7->Nat->List Int
 | [],_=>[]
 | r::A,k=>if r.kind=4 then(k:Int)::I6 A (k+1)else I6 A (k+1)
theorem Ac6 (A:List A7) (r:A7):H5 (A++[r])=if r.kind=4 then H5 A++[r.Az]else H5 A:=by
 simp only[H5,List.filterMap_append,Zak,Zan];split<;>simp_all
theorem Ajx (A:List A7) (r:A7):∀k,I6 (A++[r]) k=if r.kind=4 then I6 A k++[((k+A.length:Nat):Int)]else I6 A k:=by
 induction A with
 | nil=>intro k;simp only[Zau,I6,Zav,Zaf]
 | cons y D F=>
  intro k;simp only[Zas,I6,F (k+1),Zao];rw[show k+1+D.length=k+(D.length+1)from yE];split<;>split<;>simp
theorem Afq (A:List A7):(H5 A).length<=A.length:=List.length_filterMap_le _ _
theorem Amq (A:List A7):∀k,(I6 A k).length<=A.length:=by
 induction A with
 | nil=>intro k;simp[I6]
 | cons y F D=>
  intro k;have:=D (k+1);simp only[I6];split<;>simp<;>omega
theorem Yz {w w':zN} {lo:Nat} {l:List Int} {v:Value} {q:Option Nat} (h:Au Di lo 3 1 w l v) (g:w.grownBy w' q) (D:v.ownBlock=none\/v.ownBlock≠q):Au Di lo 3 1 w' l v:=by
 obtain⟨A,h1,h2,h3⟩:=h;exact⟨A,h1.grown g D,h2,h3⟩
end
end Go.Proofs.YtafmoofknjncpaaGreatDoor
