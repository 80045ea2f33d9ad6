/- A part of the proof that ModelWrong holds: its theorems stand as they are typed. -/
import Derived.Test.YtafmoofknjncpaaGreatDoorO
import Derived.Test.YtafmoofknjncpaaGreatDoorQr
import Derived.Test.YtafmoofknjncpaaGreatDoorX
import Derived.Test.YtafmoofknjncpaaGreatDoorZ
import Derived.Test.YtafmoofknjncpaaGreatDoorQa
set_option linter.all false
set_option maxRecDepth 100000
set_option maxHeartbeats 8000000
namespace Go.Proofs.YtafmoofknjncpaaGreatDoor
section
open Tryz Go.RowKit Go.Shelf
def Rk {α:Type} (P:zT) (I:World->(Nat->Prop)->α->List Value->Prop) (w:zN) (S:zT) (x:α) (cs:zP):Prop:=I w (fun b=>S b/\P b) x cs
theorem Rk.Ab {α:Type} {I:World->(Nat->Prop)->α->List Value->Prop} (P:zT) (hI:Cp I):Cp (Rk P I):=fun w w' S S' x c A hm h=>
 hI w w' _ _ x c (fun b o D U=>A b o D U.1) (fun b U=>⟨hm b U.1,U.2⟩) h
theorem Au.inn {α:Type} {I:World->(Nat->Prop)->α->List Value->Prop} (hI:Cp I) {P Q:zT} {w:zN} {lo K:Nat} {e:TypeId} {v:Value} {l:List α} (h:Au (Rk Q I) lo e K w l v) (hp:∀b,b<w.heap.size->Q b->P b):Au (Rk P I) lo e K w l v:=by
 obtain⟨D,h1,h2,h3⟩:=h;exact⟨D,h1,h2,fun i a b=>hI.wide (h3 i a b) fun k A=>⟨A.1,hp k A.1.1 A.2⟩⟩
theorem Au.keeps {α:Type} {I:World->(Nat->Prop)->α->List Value->Prop} (hI:Cp I) {P:zT} {w X:zN} {lo K:Nat} {e:TypeId} {v:Value} {l:List α} (h:Au (Rk P I) lo e K w l v)
  (J:∀k,k<w.heap.size->P k->X.heap[k]? =w.heap[k]?) (M:∀k,v.ownBlock=some k->X.heap[k]? =w.heap[k]?):Al I K X (fun b=>b<w) l v:=by
 obtain⟨F,h1,h2,h3⟩:=h
 obtain⟨a,c,rfl,O⟩:=h1.shape
 refine⟨a,c,by rw[h2],yE,?_⟩
 rcases h1.at_ with h0 | ⟨g,T,G,_,H,A⟩
 ·left;rw[h0]at h2;exact Zeo.1 h2.symm
 cases G
 exact .inr ⟨g,0,rfl,H,fun i D=>⟨F[i]'yE,Ag (A i yE) (M g rfl),hI.wide (hI.block (h3 i D yE) fun b U=>J b U.1.1 U.2) fun b U=>U.1.1⟩⟩
theorem Au.An {w X:zN} {lo:Nat} {v:Value} {l:List Et} (h:Au (A2 Dy lo) lo 53 4 w l v) (A:∀k,v.ownBlock=some k->X.heap[k]? =w.heap[k]?):Al Dy 4 X (fun b=>b<w) l v:=
 Au.keeps (P:=fun _=>False) Dy.Ab (show Au (Rk (fun _=>False) Dy) lo 53 4 w l v from h) (fun _ _ h=>h.elim) A
theorem Zd (l:zQ) (a:zO) (cap m:Nat) (w:zN) (n:Nat) (J:n<=w) (hm:0<m) (G:m<=100) (M:l<=cap) (H:Bs w n 1 a (l.map fun x=>[Value.int .u8 x.toNat])):
  Calls prog 6 #[.slice a l cap,m] w fun e w'=>∃(A:zO) (D:Nat) (out:List Ct),e=.returned (.slice A out D)/\out<=m/\Bs w' w' 2 A (out.map Ct.cells)/\out<=D/\Below w w w'/\(out=[]->A=none):=by
 cases F:l with
 | nil=>
  refine(Rh a cap m w G).mono ?_;rintro e w' ⟨rfl,U⟩;exact⟨none,0,[],rfl,yF,.inl rfl,yF,U,fun _=>rfl⟩
 | cons x r=>
  rw[<-F];refine(Aak l a cap m w n J hm G M H).mono ?_;rintro e w' ⟨A,D,out,h1,h2,h3,h4,h5⟩;have hlen:out.length=min m l:=by rw[h2,Po,Zbo]
  exact⟨A,D,out,h1,yE,h3,h4,h5,fun e=>by rw[e,F]at hlen;simp at hlen;omega⟩
def Ga:Nat->Ct
 | 0=>⟨3,0⟩
 | 1=>⟨9,0⟩
 | _=>⟨2,1⟩
theorem Au.empty {α:Type} (I:World->(Nat->Prop)->α->List Value->Prop) (w:zN) (lo:Nat) (e:TypeId) (K:Nat) (h:lo<=w):Au I lo e K (w.alloc (.cells #[] e)) [] (.slice (some ⟨w,0,none⟩) 0 0):=
 ⟨[],⟨⟨yF,.inr ⟨w,0,#[],rfl,h,Zhe w _,Zab _,Zap _,yF,yF⟩⟩,yF⟩,rfl,fun i h=>yX⟩
theorem Aev {P:Program} {w:zN} (t ty e:TypeId) (i:TypeInfo) (F:P.underlying t=some (.slice e)) (A:P.info? e=some i) (a:zO) (n c m:Nat) (D:n<=c):
  (Builtin.append_ #[t,t] ty #[.slice a n c,.slice none 0 m]).run P w=.ok (.slice a n c) w:=by
 cases a<;>simp[Builtin.append_,Zig F,sizeOf,typeInfo,A,Builtin.lenOf,Builtin.firstCells,loadCells,loadCellsFrom,storeCells,D]
theorem E4 {ops:Array Oper} {rest:List Oper} {o:Oper} {a:Act} {Q:Exit->Act->World->Prop} {w:zN} (T:o.guard=none) (s x:Operand)
  (O:o.op=.call {callee:=.builtin .append,args:=#[s,x],argTypes:=#[32,32]})
  (lo:Nat) (l:List Ct) (v:Value) (M:a.eval s=v) (G:Au Hw lo 55 2 w l v) (es:List Ct) (J:zO) (H:Nat) (F:a.eval x=.slice J es H) (V:Bs w w 2 J (es.map Ct.cells)) (W:es=[]->J=none)
  (a5:l.length+es<=1000) (a2:lo<=w)
  (h:∀A D w',Au Hw lo 55 2 w' (l++es) (.slice A (l.length+es.length) D)->Below lo w w'->w.heap.size<=w'.heap.size->w.grownBy w' v.ownBlock->wpList prog ops Q rest (a.put o.dst (.slice A (l.length+es.length) D)) w'):
  wpList prog ops Q (o::rest) a w:=by
 rcases V with e | ⟨b,a3,rfl,U,a0⟩
 ·rw[Zbr]at e
  subst e;rw[W rfl]at F;obtain⟨A,D,rfl,Y⟩:=G.shape;obtain⟨i,ae⟩:∃i,prog.info? 55=some i:=by
   cases hp:prog.info? 55 with
   | none=>have:=Ed;rw[hp]at this;cases this
   | some i=>exact⟨i,rfl⟩
  refine Zik T fun a6 a1=>?_
  have a4:=Aev (P:=prog) (w:=w) 32 o.type 55 i D5 ae A l D H Y;unfold Oper.wp execOp;simp only[O,resolve,invoke,builtin,Zgv,Zgw,Zgu,Zev,Zbi,Zeu,M,F,Zav,a4];exact a1 _ _ (h A D w (by simpa using G) (Zai _ _) (Zab _) (Ju _ _))
 refine I9 Hw.Ab T s x 32 O lo 55 2 2 D5 Ed yH l v M G es b a3 es H F rfl (fun i ae=>?_) yP yE a2 (fun A D w' h1 _ h3 h4 h5=>h A D w' h1 h3 h5 h4)
 have:=(a0 i xE).1
 rw[Zbh]at this
 exact⟨_,rfl,by simp[Ct.cells,Value.oneCell'],this,rfl⟩
theorem R2 {X:zN} {g:Nat} {l:List Ct} {cs:zP} (h:X.rangeAt g 0 cs) (F:g<X) (H:cs=(l.map Ct.cells).flatten):Bs X X 2 (some ⟨g,0,none⟩) (l.map Ct.cells):=by
 refine .inr ⟨g,0,rfl,F,fun i D=>⟨fun j v A=>?_,by rw[Zbh];rfl⟩⟩;have G:j<2:=by have:=(Zeg.1 A).1;rw[Zbh]at this;exact this
 have h1:=flat_get (l.map Ct.cells) (K:=2) (fun cs h=>by obtain⟨e,_,rfl⟩:=Zfb.1 h;rfl) i j D G;have:=h (i*2+j) v (by rw[H,h1];exact A);simpa[Zfx]using this
def Vp:A7:=⟨3,false,false,Jn,Fw,0,[],⟨#[110,111,119,104,101,114,101]⟩,0⟩
abbrev nrC:List Value:=[.int .u8 3,.bool false,.bool false,.int .u8 0,.int .u64 0,.int .u64 0,.int .u64 0,.int .u64 0,.int .i64 0,.int .i64 0,.slice none 0 0,.string ⟨#[]⟩,.int .i64 0,.slice none 0 0,.string ⟨#[110,111,119,104,101,114,101]⟩,.int .i64 0]
theorem Apr (w:zN) (S:zT):Bj w S Vp nrC:=
 ⟨zZ,.slice none 0 0,rfl,(B2.Ab.wide (S:=fun b=>b<0) (Qh w 0 none 0) (fun b h=>absurd h (Nat.not_lt_zero _))),none,0,rfl,Zab _,.inl rfl⟩
theorem Agq:Io Vp:=.inr (.inr (.inl ⟨rfl,rfl,rfl,rfl,rfl,rfl⟩))
theorem Aij {l:List Bc} (h:∀(i:Nat) (x:Bc),l[i]? =some x->D7[i]? =some x.name):∀y∈l,y.name.toList≠Vp.A3.toList:=by
 intro y hy;obtain⟨i,A⟩:=List.getElem?_of_mem hy;have h1:=Zax (h i y A);generalize y.name=s at h1|-;simp only[D7,Zbc,Zbe,Zic]at h1;rcases h1 with rfl | rfl | rfl | rfl<;>(rw[Zcp,Zcp];decide)
theorem Aln:¬Vp.A3.toList=[]:=by rw[Zcp];decide
end
section
open Tryz Go.RowKit Go.Shelf
theorem Mj.Ab:Cp Mj:=by
 rintro w w' S S' p cs A hm ⟨v,u,rfl,h,k⟩;exact⟨v,u,rfl,Al.Ab Nb.Ab _ _ _ _ _ _ A hm h,Al.Ab (Gk.Ab (Al.Ab Iw.Ab)) _ _ _ _ _ _ A hm k⟩
theorem A0.shape {w:zN} {S:zT} {s:Ap} {cs:zP} (h:A0 w S s cs):∃A D G F,cs=[.int .i64 s.Aj,.slice A s.An D,.slice G s.Ac F]:=by
 obtain⟨v,u,rfl,⟨A,D,rfl,_⟩,G,F,rfl,_⟩:=h;exact⟨A,D,G,F,rfl⟩
theorem H7.Amj {s:Ap} (h:H7 s):∀x∈s.Ac,x.Ai.length<=20000/\∀r∈x.Ai,Acm r:=by
 intro x D;refine⟨by have:=(h.Ac x D).Fm;omega,fun r F=>?_⟩;have A:=(h.Ac x D).Ai r F;refine⟨by have:=A.size;omega,fun a G=>?_,by have:=A.Fm;omega⟩;have:=(A.Aw a G).small;exact⟨yE,fun p hp=>by have:=this.2.2 p hp;omega,yE⟩
theorem Afh (gV:∀X:World,Calls prog 4 #[] X fun e gP=>e=.returned (.bool true)/\Below X X gP) (x:Xt) (gv:x.values.length<=maxLen) (cT:UInt8) (l:zQ) (dG:zO) (lc:Nat) (hD:l<=lc) (cs:zP) (w:zN) (n:Nat) (cc:n<=w) (a1:Mj w (fun b=>b<n) x cs) (dV:Bs w n 1 dG (l.map fun x=>[Value.int .u8 x.toNat])):
  Calls prog 3 #[.agg cs.toArray,cT,.slice dG l lc] w fun e w'=>e=.returned (.bool true)/\Below w w w':=by
 have cE:=a1
 obtain⟨hG,iD,rfl,⟨gh,gm,rfl,_⟩,fY,fZ,rfl,_⟩:=a1
 obtain⟨cb,ba⟩:=zL (w.alloc (.cells #[x.Aj,.slice gh x.values gm,.slice fY x.Ac fZ] 25))
 have gs:Below w w cb:=wD
 have g5:w.heap.size+1<=cb:=xO
 have aZ:cb.rangeAt w 0 [x.Aj,.slice gh x.values gm,.slice fY x.Ac fZ]:=by rw[<-ba];exact Ae _ _ _
 have gB:=Zaa cE
 have gC:=Zaa aZ
 have hr:=Zaa dV
 have go:=Zaa ba
 have gz:=cT.toNat_lt
 generalize cT.toNat=O at gz|-
 clear cE aZ dV ba
 go_enter func3,ntmps3
 go_upto_region 1 with fail
 have ba:=go.out
 rw[ba]
 clear ba go
 go_wp2_with fail
 refine(gV cb).mono ?_
 rintro e gt ⟨rfl,cP⟩
 have cJ:=gs.trans (cP.mono yE)
 have cI:=Aa gC.out cP yE
 have d0:=cI 0 _ rfl
 have d1:=cI 1 _ rfl
 have d2:=cI 2 _ rfl
 simp only[Zac]at d0 d1 d2
 have gi:=Alq x gv _ gt n (Zag cc cJ.size) (Mj.Ab.below gB.out (cJ.mono cc))
 have hz:=Zaa gi
 have dD:=cP.size
 clear gi cI
 go_wp2_with fail
 refine hz.out.mono ?_
 rintro e gu ⟨s,iw,rfl,cQ,fa,dT⟩
 obtain⟨ad,ae,ag,af,rfl⟩:=cQ.shape
 have cL:=cJ.trans (dT.mono cJ.size)
 have dz:=dT.size
 have hs:=Zaa cQ
 have aq:=Zaa fa
 have fX:=Zd l dG lc 10 gu n (Zag cc cL.size) yH yH hD (hr.out.below (cL.mono cc) (Zab _))
 have ht:=Zaa fX
 clear cQ fa fX d0 d1 d2
 go_wp2_with fail
 refine ht.out.mono ?_
 rintro e ah ⟨dw,dv,es,rfl,dI,f6,iA,dx,fl⟩
 have cV:=Zaa fl
 clear fl
 have iI:=dx.size
 have gn:=cL.trans (dx.mono cL.size)
 have gM:=Zaa dI
 have gL:=Zaa f6
 clear dI f6
 go_upto_region 4 with fail
 obtain⟨ap,ca⟩:=zL (ah.alloc (.cells #[s.Aj,.slice ad s.An ae,.slice ag s.Ac af] 30))
 rw[ca]
 have du:Below ah ah ap:=by rw[<-ca];exact Af _
 have iC:ah.heap.size+1<=ap:=by rw[<-ca];simp
 have dC:ap.heap[ah.heap.size]? =some (.cells #[s.Aj,.slice ad s.An ae,.slice ag s.Ac af] 30 (0,0)):=by rw[<-ca];exact G4 _ rfl
 have bv:=A4 dC
 have g6:=bv 0 _ rfl
 have g7:=bv 1 _ rfl
 have aL:=bv 2 _ rfl
 simp only[Zac]at g6 g7 aL
 have cK:=gn.trans (du.mono gn.size)
 have dN:=Cp.block A0.Ab hs.out (w':=ap) (fun b U=>(du.block b yE).trans (dx.block b U.2))
 have hC:=Aek s aq.out.Aha.right.small aq.out.Amj [s.Aj,.slice ad s.An ae,.slice ag s.Ac af] ap ap (Zab _) (A0.Ab.wide dN (fun b U=>yE))
 have c3:=Zaa hC
 have hq:=Zaa dN
 have hA:=Zaa dC
 clear ca dC bv hC dN
 go_wp2_with fail
 refine Z0P ?_
 rintro e b3 ⟨hR,rfl,dy,bE,f0⟩
 have dO:=Zaa f0
 clear f0
 obtain⟨aK,al,b9,H,rfl⟩:=dy.shape
 have iG:=bE.size
 have c2:=Zaa dy
 clear dy g6 g7 aL
 go_upto_region 5 with fail
 obtain⟨bs,c8⟩:=zL (b3.alloc (.cells #[s.Aj,.slice aK s.An al,.slice b9 s.Ac H] 30))
 rw[c8]
 have e5:Below b3 b3 bs:=by rw[<-c8];exact Af _
 have cM:bs.heap.size=b3+1:=by simp[<-c8]
 have bd:bs.heap[b3.heap.size]? =some (.cells #[s.Aj,.slice aK s.An al,.slice b9 s.Ac H] 30 (0,0)):=by rw[<-c8];exact G4 _ rfl
 have cO:=A4 bd
 have g9:=cO 0 _ rfl
 have b1:=cO 1 _ rfl
 have b2:=cO 2 _ rfl
 simp only[Zac]at g9 b1 b2
 have cf:=aq.out.more
 have fW:=Ro aq.out.An
 have iF:((s.Ac.length:Int)==0)=false:=yZ
 have iH:((s.An.length:Int)==0)=false:=yZ
 have cR:=Zaa fW
 have td:=Zaa cM
 clear c8 cO fW cM
 go_upto_block 0 with fail
 go_cut [47] (fun v bg=>∃(b':Int) (aS aR:zO) (aV aT aU aQ:Nat),bg.heap[b3.heap.size]? =some (.cells #[b',.slice aS aV aT,.slice aR aU aQ] 30 (0,0))/\Mk [b',.slice aS aV aT,.slice aR aU aQ] bg/\Below ap bs bg)
 case first=>
  have iE:=Zhv bs b3 0 _ 30 bd;have iy:=Zhv bs b3 2 _ 30 bd;have iz:=Zhv bs b3 1 _ 30 bd;have rj:=Zaa bd;have fm:=aq.out.Aha;have aw:=Zaa fm;clear bd fm;rcases(show(O:Int)%5=0\/(O:Int)%5=1\/(O:Int)%5=2\/(O:Int)%5=3\/(O:Int)%5=4 from yE)with h5 | h5 | h5 | h5 | h5
  ·have bi:((O:Int)%5==0)=true:=by rw[h5];rfl
   clear h5;have aO:=Zhy bs b3 0 _ 30 (.int .i64 1) rj.out;have bu:=As bs b3 0 (.int .i64 1);have c4:=Zaa aO;clear aO;go_wp2_with fail
   go_meet
   case rel=>
    refine⟨1,aK,b9,s.An.length,al,s.Ac.length,H,c4.out,fun X az=>?_,(Zai ap bs).grown bu uG (fun r e=>yM)⟩;have d6:A0 X (fun b=>b<b3) ⟨1,s.An,s.Ac⟩ [zF,.slice aK s.An al,.slice b9 s.Ac H]:=by
     have h1:=Cp.block A0.Ab c2.out (w':=X) (fun b U=>(az.block b (by have:=bu.size;have:=e5.size;omega)).trans ((bu.block b uG (B4 yE)).trans (e5.block b U.2)));obtain⟨v,u,e,aj,hu⟩:=A0.Ab.wide (S':=fun b=>b<b3) h1 (fun b U=>U.2);simp only[Zdm,Zhm]at e;obtain⟨-,rfl,rfl⟩:=e;exact⟨_,_,rfl,aj,hu⟩
    exact Aat ⟨1,s.An,s.Ac⟩ ⟨aw.out.right.small.size,aw.out.right.small.Bu,aw.out.right.small.act⟩ ⟨aw.out.short.An,aw.out.short.Ac,aw.out.short.Ay⟩ (by show(1:Int) <2;decide) _ X b3 (by have:=az.size;have:=bu.size;have:=e5.size;omega) d6
  ·have bi:((O:Int)%5==0)=false:=by rw[h5];rfl
   have ds:((O:Int)%5==1)=true:=wK;clear h5;have aO:=Zhy bs b3 2 _ 30 (.slice none 0 0) rj.out;have bu:=As bs b3 2 (.slice none 0 0);have c4:=Zaa aO;clear aO;go_wp2_with fail
   go_meet
   case rel=>
    refine⟨s.Aj,aK,none,s.An.length,al,0,0,c4.out,fun X az=>?_,(Zai ap bs).grown bu uG (fun r e=>yM)⟩;have d6:A0 X (fun b=>b<b3) ⟨s.Aj,s.An,[]⟩ [s.Aj,.slice aK s.An al,zH]:=by
     have h1:=Cp.block A0.Ab c2.out (w':=X) (fun b U=>(az.block b (by have:=bu.size;have:=e5.size;omega)).trans ((bu.block b uG (B4 yE)).trans (e5.block b U.2)));obtain⟨v,u,e,aj,hu⟩:=A0.Ab.wide (S':=fun b=>b<b3) h1 (fun b U=>U.2);simp only[Zdm,Zhm]at e;obtain⟨-,rfl,rfl⟩:=e;exact⟨_,_,rfl,aj,none,0,rfl,Zab _,.inl rfl⟩
    exact W7 ⟨s.Aj,s.An,[]⟩ ⟨by have:=cR.out;simp[Ap.size];omega,yF,yF⟩ ⟨aw.out.short.An,yF,yF⟩ rfl aw.out.Aj.1 aw.out.Aj.2 _ X b3 (by have:=az.size;have:=bu.size;have:=e5.size;omega) d6
  ·have bi:((O:Int)%5==0)=false:=by rw[h5];rfl
   have ds:((O:Int)%5==1)=false:=wK;have fr:((O:Int)%5==2)=true:=wK;clear h5;obtain⟨v9,u9,dX,m9,aN,fp,gd,dW,bU,bH,b5,-⟩:=dO.out;simp only[Zdm,Zhm]at aN;obtain⟨-,rfl,rfl⟩:=aN;obtain⟨D,aA,b8⟩:∃D aA,s.Ac=D::aA:=by
    cases h:s.Ac with
    | nil=>rw[h]at cf;simp at cf
    | cons a b=>exact⟨a,b,rfl⟩
   obtain⟨aY,aD,am,hI⟩:=id b5;rcases aD.at_ with h0 | ⟨g,gc,bZ,ax,cq,aF⟩
   ·rw[h0]at am;simp at am;omega
   injection bZ with bF cl eZ;subst bF;have fo:=(b5.lt g rfl).1;have hB:=(b5.lt g rfl).2;have aG:=hI 0 yE yE;have av:=Aa (aF 0 yE) e5 yE;have cu:s.Ac[0]'yE=D:=by simp only[b8,Zek]
   rw[cu]at aG;obtain⟨gp,aJ,db⟩:=aG;obtain⟨an,rc,cm,hx,gT⟩:=id db;subst cm;rw[aJ]at av;simp only[Zgl]at av;have btb:=Zaa av;have gN:=Zaa db;have e7:=Zaa hI;have e8:=Zaa aF;have b4:=Zaa b8;have dZ:0<s.Ac.length:=yE;have dH:=Zaa am;clear b8 av hI aF db gT cu aJ am cq aD cl;go_upto_region 14 with fail
   refine Z4N ?_;intro q3 zr rb P1 gk;refine Ce [(0,.inl none),(1,.inl (some 0)),(2,.inl none),(3,.inl (some 0)),(4,.inl none),(5,.inl (some 1)),(6,.inr ([],[0])),(7,.inr ([],[])),(8,.inl none),(9,.inr ([],[]))]
    (fun k W=>match k with | 0=>W.cell? ⟨b3,2,none⟩=some (.slice (some ⟨g,0,none⟩) s.Ac H) | _=>W.rangeAt g 0 [.string D.name,.slice an D.Ai rc]) [0,1] yG yG (lv2 P1 gk) ?_
   refine Z3s ?_;have be:Au (Rk (fun b=>m9<=b/\b<b3) Cf) m9 37 2 (bs.drewN 1) s.Ac (.slice (some ⟨g,0,none⟩) s.Ac H):=(Au.inn (Q:=fun b=>m9<=b) Cf.Ab b5 (fun b h1 h2=>⟨h2,h1⟩)).below (Rk.Ab _ Cf.Ab) (e5.trans (zr.mono xI)) (Zab _);have dK:=B5 bs 1 (none:Option Nat);generalize bs.drewN 1=dE at q3 zr rb P1 gk be dK|-;have d4:=Zaa rb;have e4:=Zaa gk;have vg:=Zaa q3;have b0:=Zaa zr;have hK:=Zaa dK;have cX:=Zaa be;clear rb P1 gk q3 zr dK be;refine Z04 ?_;refine Ba (.slice (some ⟨g,0,none⟩) s.Ac H) yI (fun w' ac=>?_) (fun K J=>?_)
   ·have dL:w'.cell? ⟨b3,2,none⟩=some (.slice (some ⟨g,0,none⟩) s.Ac H):=ac
    go_simp
   refine Z2n ?_;clear J K;refine Z04 ?_;refine Ba (.slice (some ⟨g,0,none⟩) s.Ac H) yI (fun w' ac=>?_) (fun K J=>?_)
   ·have dL:w'.cell? ⟨b3,2,none⟩=some (.slice (some ⟨g,0,none⟩) s.Ac H):=ac
    go_simp
   refine Z2n ?_;clear J K;refine Z04 ?_;refine Ba (.agg #[.string D.name,.slice an D.Ai rc]) yI (fun w' ac=>?_) (fun K J=>?_)
   ·have bf:=ac 0 _ rfl
    have bh:=ac 1 _ rfl;simp only[Zac]at bf bh;go_simp
   refine Z2n ?_;clear J K;refine A1 rfl (fun K J=>?_);go_wp2_with fail
   refine J _ _ yF (Bg (fun h=>(Zaw (a:=⟨b3,2,none⟩) ((Af _).block b3 xC)).trans h)) ?_;clear J K;refine A1 rfl (fun K J=>?_);have iJ:(Value.slice (some ⟨g,0,none⟩) s.Ac H).ownBlock=some g:=rfl;refine Am (Rk.Ab (fun b=>m9<=b/\b<b3) Cf.Ab) rfl _ _ 28 rfl m9 37 2 40 N9 Pt yH s.Ac (.slice (some ⟨g,0,none⟩) s.Ac H) yU cX.out D [.string D.name,.slice an D.Ai rc] rfl rfl ?hy rfl yL (by have:=aq.out.Fm;unfold maxLen;omega) (by have:=aq.out.Fm;omega) xC ?_
   case hy=>exact⟨_,rfl,(Al.Ab Bj.Ab).wide ((Al.Ab Bj.Ab).block gN.out (w':=dE) (fun b U=>(b0.out.block b (by have:=td.out;have:=U.1.1;omega)).trans (e5.block b U.1.1))) (fun b U=>⟨⟨by have:=vg.out;have:=U.1.1;omega,U.1.2⟩,U.2,U.1.1⟩)⟩
   intro aB aC hf bB cU jl aE aX c1;refine Z4a ?_;have b7:=(aE.block b3 xC (show some b3.heap.size≠some g from B4 yE)).trans d4.out;have g3:=A4 b7 2 _ rfl;simp only[Zac]at g3;have f2:=Zhv hf b3 2 _ 30 b7;refine Z4v ?_;clear J K;refine Z04 ?_;refine A1 rfl (fun K J=>?_);go_wp2_with fail
   refine Z4v ?_;clear J K;refine B1 ?_;have aO:=Zhy hf b3 2 _ 30 (.slice aB (s.Ac+1) aC) b7;have bu:=As hf b3 2 (.slice aB (s.Ac+1) aC);have c4:=Zaa aO;have bY:=Zaa bu;have bG:=Zaa bB;have cY:=Zaa aE;have d3:=Zaa c1;have d5:=Zaa aX;clear aO bu bB aE c1 g3 f2 b7 aX cU;go_wp2_with fail
   go_meet
   case rel=>
    have bu:=bY.out;have aX:=d5.out;have q3:=vg.out;have cj:=bu.size;have dk:Below ap bs hf:=(b0.out.mono xI).trans (jl.mono yE);refine⟨s.Aj,aK,aB,s.An.length,al,s.Ac.length+1,aC,c4.out,fun X az=>?_,dk.grown bu yE (fun r e=>yM)⟩;have T:∀k,k<b3.heap.size->k≠g->X.heap[k]? =b3.heap[k]? :=fun k h1 h2=>(az.block k yE).trans ((bu.block k yE (B4 yE)).trans ((cY.out.block k yE (B4 h2)).trans ((b0.out.block k xI).trans (e5.block k h1))))
    have bK:=bU.An (X:=X) (fun k e=>by have:=bH k e;exact T k yE yE);have bJ:=bG.out.keeps (X:=X) Cf.Ab (fun k h1 h2=>(az.block k yE).trans (bu.block k h1 (B4 yE))) (fun k e=>(az.block k (by have:=bG.out.lt k e;omega)).trans (bu.block k (bG.out.lt k e).2 (B4 (by
     rcases d3.out with ak | ⟨q,ak,bi⟩
     ·have gb:some g=some k:=ak.symm.trans e
      injection gb with gb;omega
     rw[ak]at e;injection e with e;omega))))
    refine Adn s aw.out ⟨s.Aj,s.An,s.Ac++[D]⟩ D rfl rfl rfl (by rw[b4.out];rfl) _ X hf xV ⟨_,_,rfl,(Al.Ab Dy.Ab).wide bK (fun b U=>yE),bJ⟩
  ·have bi:((O:Int)%5==0)=false:=by rw[h5];rfl
   have ds:((O:Int)%5==1)=false:=wK;have fr:((O:Int)%5==2)=false:=wK;have gY:((O:Int)%5==3)=true:=wK;clear h5;obtain⟨v9,u9,dX,m9,aN,fp,gd,dW,bU,bH,-,ws,cH,dA,cF⟩:=dO.out;simp only[Zdm,Zhm]at aN;obtain⟨-,rfl,rfl⟩:=aN;obtain⟨D,aA,b8⟩:∃D aA,s.Ac=D::aA:=by
    cases h:s.Ac with
    | nil=>rw[h]at cf;simp at cf
    | cons a b=>exact⟨a,b,rfl⟩
   have bp:ws.length=s.Ac:=by rw[<-cH];simp
   have dZ:0<s.Ac.length:=yE;have ga:(ws[0]'yE).1=D:=by
    have h:(ws.map (·.1))[0]? =some D:=by rw[cH,b8];rfl
    rw[Zbl,Zam (show 0<ws.length from yE)]at h;simpa using h
   obtain⟨aY,aD,am,hI⟩:=id cF;rcases aD.at_ with h0 | ⟨g,gc,bZ,ax,cq,aF⟩
   ·rw[h0]at am;simp at am;omega
   injection bZ with bF cl eZ;subst bF;have fo:=(cF.lt g rfl).1;have hB:=(cF.lt g rfl).2;have aG:=hI 0 yE yE;unfold G6 at aG;rw[ga]at aG;have dt:=dA.1 _ (Zat (show 0<ws.length from yE));generalize dS:ws[0]'yE=bf at aG dt;obtain⟨gp,hd,aJ,cS,dR,dY,f9⟩:=aG;obtain⟨an,rc,cm,hx⟩:=cS.shape;have gS:gp=.slice an D.Ai rc:=by rw[cm,dR]
   subst gS;clear cm;have bq:∀k,(Value.slice an D.Ai rc).ownBlock=some k->k<b3.heap.size/\k≠g/\bf.2.1<=k/\k<bf.2.2:=fun k e=>by
    obtain⟨⟨h1,h2⟩,h3,h4⟩:=dY k e;exact⟨h1,fun e=>h2 yS,h3,h4⟩
   have f7:Au (Rk (fun b=>b<b3/\b≠g) Bj) 0 48 16 b3 D.Ai (.slice an D.Ai rc):=⟨hd,cS,dR,fun i a b=>Bj.Ab.wide (f9 i a b) fun k T=>⟨⟨T.1.1.1,T.2⟩,T.1.1.1,fun e=>T.1.1.2 yS⟩⟩;have av:=Aa (aF 0 yE) e5 yE;rw[aJ]at av;simp only[Zgl]at av;have btb:=Zaa av;have e7:=Zaa hI;have e8:=Zaa aF;have b4:=Zaa b8;have dH:=Zaa am;have e1:=Zaa aD;have cY:=Zaa f7;have bw:=Zaa bq;have hE:=Zaa dA;have gA:=Zaa cH;have e9:=Zaa bp;have gw:RowKit.Hid (ws[0]? =some bf):=Zaa (by rw[Zam (show 0<ws.length from yE)];exact Zhr some dS);have ea:=Zaa dt;clear b8 av hI aF aJ am cq aD cl f7 bq dA cH bp dS dt ga cS dR dY f9 cF;go_upto_region 16 with fail
   refine Z4N ?_;intro q3 zr rb P1 gk;have be:=cY.out.below (Rk.Ab _ Bj.Ab) (e5.trans (zr.mono xI)) (Zab _);have dd:=e1.out.below (e5.trans (zr.mono xI)) (Zab _);refine Ce [(0,.inl none),(1,.inl (some 0)),(2,.inl none),(3,.inl (some 0)),(4,.inl none),(5,.inl none),(6,.inl (some 1)),(7,.inl none),(8,.inr ([],[0,1])),(9,.inr ([],[0])),(10,.inl none),(11,.inl none),(12,.inr ([],[]))]
    (fun k W=>match k with | 0=>W.cell? ⟨b3,2,none⟩=some (.slice (some ⟨g,0,none⟩) s.Ac H) | _=>W.rangeAt g 0 [.string D.name,.slice an D.Ai rc]) [0,1] yG yG (lv2 P1 gk) ?_
   refine Z09 ?_;generalize bs.drewN 1=dE at q3 zr rb P1 gk be dd|-;have d4:=Zaa rb;have e4:=Zaa gk;have vg:=Zaa q3;have b0:=Zaa zr;have cX:=Zaa be;have gO:=Zaa dd;clear rb P1 gk q3 zr be dd;refine Z2o ?_;refine Ba (.slice (some ⟨g,0,none⟩) s.Ac H) yI (fun w' ac=>?_) (fun K J=>?_)
   ·have dL:w'.cell? ⟨b3,2,none⟩=some (.slice (some ⟨g,0,none⟩) s.Ac H):=ac
    go_simp
   (go_simp;refine J _ ?_;clear J K)
   refine Z2o ?_;refine Ba (.slice (some ⟨g,0,none⟩) s.Ac H) yI (fun w' ac=>?_) (fun K J=>?_)
   ·have dL:w'.cell? ⟨b3,2,none⟩=some (.slice (some ⟨g,0,none⟩) s.Ac H):=ac
    go_simp
   (go_simp;refine J _ ?_;clear J K)
   refine Z2o ?_;refine Z2o ?_;refine Ba (.slice an D.Ai rc) yI (fun w' ac=>?_) (fun K J=>?_)
   ·have bh:=ac 1 _ rfl
    exact Z15
   (go_simp;refine J _ ?_;clear J K)
   refine Jh 48 _ nrC.toArray rfl rfl yG (fun K J=>?_);(go_simp;refine J _ ?_;clear J K)
   refine A1 rfl (fun K J=>?_);refine Iq Ml N0 ⟨yH,yH⟩ rfl rfl rfl rfl ?_;have dl:=Bq dE (.cells nrC.toArray 48);refine Z4a ?_;refine J _ _ yF (Js (fun h=>(Zaw (a:=⟨b3,2,none⟩) (dl.block b3 xC)).trans h) (fun h=>Ag h (dl.block g xC))) ?_;clear J K;refine A1 rfl (fun K J=>?_);refine Am (Rk.Ab (fun b=>b<b3/\b≠g) Bj.Ab) rfl _ _ 35 rfl 0 48 16 168 Ml N0 yH D.Ai (.slice an D.Ai rc) yU cX.out Vp nrC rfl rfl (Apr _ _) rfl yL ?h63 ?hbt (Zap _) ?_
   case h63=>have:=((aq.out.Ac D (by rw[b4.out];simp)).Fm);unfold maxLen;omega
   case hbt=>have:=((aq.out.Ac D (by rw[b4.out];simp)).Fm);omega
   intro aB aC hf bB cU jl aE aX c1;refine Z4a ?_;have dP:(Value.slice (some ⟨g,0,none⟩) s.Ac H).ownBlock≠(Value.slice an D.Ai rc).ownBlock:=fun e=>by
    have:=bw.out g (by rw[<-e];rfl);exact this.2.1 rfl
   have fq:some b3.heap.size≠(Value.slice an D.Ai rc).ownBlock:=fun e=>by
    have:=bw.out _ e.symm;omega
   have b7:=(aE.block b3 xC fq).trans d4.out;have dc:=gO.out.grown aE (.inr dP);have cG:=dc.there 0 (by rw[dH.out,e9.out];exact dZ);have f1:=(cG 1 yH).2;have dr:=Ag e4.out (aE.block g xC dP);have bh:=dr 1 _ rfl;simp only[Zgl,Zac]at f1 bh;refine J _ _ yF (Bg (fun h=>(Zaw (a:=⟨b3,2,none⟩) ((aE.block b3 xC fq).trans (dl.block b3 xC).symm)).trans h)) ?_;clear J K;refine Z2o ?_;refine Z2o ?_;refine A1 rfl (fun K J=>?_);go_wp2_with fail
   refine Z3y ?_;clear J K;refine B1 ?_;have bu:=As hf g 1 (.slice aB (D.Ai.length+1) aC);have e6:=Zaa dr;have dQ:=Zaa b7;have hQ:=Zaa dc;have bY:=Zaa bu;have bG:=Zaa bB;have cZ:=Zaa aE;have d3:=Zaa c1;have d5:=Zaa aX;clear bu bB aE c1 bh f1 b7 aX cU dc cG dr jl;go_wp2_with fail
   go_meet
   case rel=>
    have bu:=bY.out;have aX:=d5.out;have q3:=vg.out;have cM:=td.out;have cj:=bu.size;have dk:Below ap bs hf:=(b0.out.mono yE).grown cZ.out yE (fun r e=>by have:=bw.out r e;have:=ea.out;omega);refine⟨s.Aj,aK,some ⟨g,0,none⟩,s.An.length,al,s.Ac.length,H,(bu.block b3 yE (B4 yE)).trans dQ.out,fun X az=>?_,dk.grown bu yE (fun r e=>yM)⟩;have T:∀k,k<b3.heap.size->k≠g->some k≠(Value.slice an D.Ai rc).ownBlock->X.heap[k]? =b3.heap[k]? :=fun k h1 h2 h3=>(az.block k yE).trans ((bu.block k yE (B4 h2)).trans ((cZ.out.block k yE h3).trans ((b0.out.block k yE).trans (e5.block k h1))))
    have bK:=bU.An (X:=X) (fun k e=>by
     have:=bH k e;exact T k yE yE (fun ak=>by have:=bw.out k ak.symm;have:=ea.out;omega))
    have gU:=bG.out.keeps (X:=X) Bj.Ab (fun k h1 h2=>(az.block k yE).trans (bu.block k h1 (B4 h2.2))) (fun k e=>(az.block k (by have:=bG.out.lt k e;omega)).trans (bu.block k (bG.out.lt k e).2 (B4 (by
     rcases d3.out with ak | ⟨q,ak,bi⟩
     ·rw[ak]at e;exact(bw.out k e).2.1
     rw[ak]at e;injection e with e;omega))))
    have b6:Below hf (hf.setCell ⟨g,1,none⟩ (.slice aB (D.Ai.length+1) aC)) X:=az.mono cj;have c0:∀j v,¬(j=1)->hf.cell? ⟨g,j,none⟩=some v->(hf.setCell ⟨g,1,none⟩ (.slice aB (D.Ai.length+1) aC)).cell? ⟨g,j,none⟩=some v:=fun j v bq aj=>(World.cell?_setCell_other hf _ _ _ (by intro e;injection e with _ e;exact bq e.symm)).trans aj
    have bJ:Al Cf 2 X (fun b=>b<hf) (⟨D.name,D.Ai++[Vp]⟩::aA) (.slice (some ⟨g,0,none⟩) s.Ac H):=by
     obtain⟨a5,ho,dF,bv⟩:=e1.out.shape;have gy:aY<=H:=by injection dF with _ _ e;omega
     have am:=dH.out;have bp:=e9.out;have dJ:s.Ac.length=aA.length+1:=by rw[b4.out];rfl
     refine⟨some ⟨g,0,none⟩,H,by rw[dJ];rfl,by simp only[Zao];omega,.inr ⟨g,0,rfl,yE,fun i bz=>?_⟩⟩;simp only[Zao]at bz;cases i with
     | zero=>
      refine⟨[.string D.name,.slice aB (D.Ai.length+1) aC],Aa (fun j v aj=>?_) b6 yE,⟨_,rfl,?_⟩⟩
      ·simp only[Zgl,Zac]
       match j,aj with
       | 0,aj=>exact c0 0 v yH (by have:=e6.out 0 v aj;simpa using this)
       | 1,aj=>
        simp only[Zae,Zad,Zbb]at aj;subst aj;exact World.cell?_setCell_same _ _ _ (by have:=e6.out 1 _ rfl;simpa using this)
      have e:(D.Ai++[Vp]).length=D.Ai.length+1:=by simp
      exact gU
     | succ i=>
      have bN:i+1<ws:=yE;have c9:=Aa (e8.out (i+1) yE) (e5.trans (b0.out.mono yE)) yE;have gZ:=Ag c9 (cZ.out.block g yE dP);have bI:=e7.out (i+1) bN yE;unfold G6 at bI;have ge:=bI.state;have ak:(ws[i+1]'bN).1=aA[i]'yE:=by
       have h:(ws.map (·.1))[i+1]? =some (aA[i]'yE):=by rw[gA.out,b4.out];simp
       rw[Zbl,Zam bN]at h;simpa using h
      rw[ak]at ge;have ih:bf.2.2<=(ws[i+1]'bN).2.1:=by
       have:=List.pairwise_iff_getElem.1 hE.out.2 0 (i+1) yE bN yE;rw[(Zeg.1 gw.out).2]at this;exact this
      refine⟨aY[i+1]'yE,Aa (fun j v aj=>c0 _ v yE (gZ j v aj)) b6 yE,?_⟩;exact Cf.Ab.wide (Cf.Ab.block ge fun k h=>T k h.1.1 (fun e=>h.1.2 yS) (fun e=>by have:=bw.out k e.symm;omega)) fun k h=>by have:=h.1.1;omega
    exact Zh_ s aw.out ⟨s.Aj,s.An,⟨D.name,D.Ai++[Vp]⟩::aA⟩ D aA Vp rfl rfl b4.out rfl rfl Agq rfl rfl Aln (Aij aq.out.names) _ X hf xV ⟨_,_,rfl,(Al.Ab Dy.Ab).wide bK (fun b U=>yE),bJ⟩
  have bi:((O:Int)%5==0)=false:=by rw[h5];rfl
  have ds:((O:Int)%5==1)=false:=wK;have fr:((O:Int)%5==2)=false:=wK;have gY:((O:Int)%5==3)=false:=wK;clear h5;obtain⟨v9,u9,dX,m9,aN,fp,gd,dW,bU,bH,b5,-⟩:=dO.out;simp only[Zdm,Zhm]at aN;obtain⟨-,rfl,rfl⟩:=aN;obtain⟨V,bt,br⟩:∃V bt,s.An=V::bt:=by
   cases h:s.An with
   | nil=>have:=cR.out;rw[h]at this;cases this
   | cons a b=>exact⟨a,b,rfl⟩
  obtain⟨aY,aD,am,hI⟩:=id bU;have hV:=cR.out;rcases aD.at_ with h0 | ⟨g,gc,bZ,ax,cq,aF⟩
  ·rw[h0]at am;simp at am;omega
  injection bZ with bF cl eZ;subst bF;have fo:=bH g rfl;have hn:=aD.below e5 (Zab _);have cG:=hn.there 0 yE;have aG:=hI 0 yE yE;have av:=Aa (aF 0 yE) e5 yE;have cE:s.An[0]? =some V:=by rw[br];rfl
  have cu:s.An[0]'yE=V:=by have:=Zam (show 0<s.An.length from yE);rw[cE]at this;injection this with this;exact this.symm
  have aJ:aY[0]'yE=[.string V.name,.bool V.number,.string V.text,.float .f64 V.float]:=by rw[<-cu];exact aG
  rw[aJ]at av;have gj:=av 0 _ rfl;simp only[Zgl,Zaf]at gj;have hb:=(cG 0 yH).2;simp only[Zgl,Zaf]at hb;have bu:=As bs g 0 (.string ⟨#[78,79,78,69]⟩);have hW:((s.An.length:Nat):Int)=6:=yE;have gX:b3≠g:=yE;have gg:=(bu.block b3 xI (B4 gX)).trans rj.out;have gQ:=Zaa gg;have bY:=Zaa bu;clear gg bu;go_wp2_with fail
  go_meet
  case rel=>
   have bu:=bY.out;refine⟨s.Aj,some ⟨g,0,none⟩,b9,s.An.length,al,s.Ac.length,H,gQ.out,fun X az=>?_,(Zai ap bs).grown bu uG (fun r e=>yM)⟩;obtain⟨ci,a0⟩:∃ci:Ap,ci=⟨s.Aj,⟨Q1,V.number,V.text,V.float⟩::bt,s.Ac⟩:=⟨_,rfl⟩;have b6:Below b3 (bs.setCell ⟨g,0,none⟩ (.string ⟨#[78,79,78,69]⟩)) X:=az.mono (by have:=bu.size;have:=td.out;omega);have bJ:Al Cf 2 X (fun b=>b<b3) s.Ac (.slice b9 s.Ac H):=by
    have h1:=b5.list (A2.Ab Cf.Ab m9);obtain⟨aB,aC,gl,gq,h0 | ⟨ck,hc,rfl,dm,ha⟩⟩:=h1
    ·exact⟨aB,aC,gl,gq,.inl h0⟩
    cases gl;have hN:m9<=ck:=(b5.lt ck rfl).1;refine⟨_,_,rfl,gq,.inr ⟨ck,hc,rfl,dm,fun i bz=>?_⟩⟩;obtain⟨cs,q1,hm⟩:=ha i bz;refine⟨cs,Aa (Ag (Aa q1 e5 dm) (bu.block ck xI (B4 yE))) b6 dm,?_⟩;exact Cf.Ab.wide (Cf.Ab.block (show Cf b3 (fun b=>b<b3/\m9<=b) s.Ac[i] cs from hm) (w':=X) fun k T=>(b6.block k T.1).trans ((bu.block k (by have:=td.out;have:=T.1;omega) (B4 (by have:=T.2;omega))).trans (e5.block k T.1))) fun k T=>T.1
   have bK:Al Dy 4 X (fun b=>b<b3) (⟨Q1,V.number,V.text,V.float⟩::bt) (.slice (some ⟨g,0,none⟩) s.An al):=by
    obtain⟨a5,ho,dF,bv⟩:=aD.shape;have gy:aY<=al:=by injection dF with _ _ e;omega
    have dJ:s.An.length=bt.length+1:=by rw[br];rfl
    refine⟨some ⟨g,0,none⟩,al,by rw[dJ];rfl,by simp only[Zao];omega,.inr ⟨g,0,rfl,yE,fun i bz=>?_⟩⟩;simp only[Zao]at bz;have c9:=Aa (aF i yE) e5 yE;have bI:=hI i yE yE;have c0:∀j v,¬(0+i*4+j=0)->bs.cell? ⟨g,0+i*4+j,none⟩=some v->(bs.setCell ⟨g,0,none⟩ (.string ⟨#[78,79,78,69]⟩)).cell? ⟨g,0+i*4+j,none⟩=some v:=fun j v bq aj=>by
     exact(World.cell?_setCell_other bs _ _ _ (by intro e;injection e with _ e;exact bq yE)).trans aj
    cases i with
    | zero=>
     refine⟨[Q1,.bool V.number,.string V.text,.float .f64 V.float],Aa (fun j v aj=>?_) b6 yE,rfl⟩;rw[aJ]at c9;cases j with
     | zero=>
      simp only[Zad,Zbb]at aj;subst aj;simp only[Zgl,Zaf];exact World.cell?_setCell_same _ _ _ gj
     | succ j=>
      exact c0 (j+1) v yE (c9 (j+1) v aj)
    | succ i=>
     refine⟨aY[i+1]'yE,Aa (fun j v aj=>c0 j v yE (c9 j v aj)) b6 yE,?_⟩;have ak:s.An[i+1]'yE=bt[i]'yE:=by simp only[br,Zej]
     rw[ak]at bI;exact bI
   have ay:=aw.out;have cj:ci.size=s.size:=by rw[a0];simp only[Ap.size,br,Zao]
   have gD:=Ado ci ⟨by rw[cj];exact ay.right.small.size,by rw[a0];exact ay.right.small.Bu,by rw[a0];exact ay.right.small.act⟩ ⟨by rw[a0];have:=ay.short.An;rw[br]at this;exact this,by rw[a0];exact ay.short.Ac,by rw[a0];exact ay.short.Ay⟩
    ⟨by rw[a0];exact ay.Aj.1,by rw[a0];exact ay.Aj.2,by rw[a0];exact ay.Ac.1,by rw[a0];have:=ay.Ac.2;simp only;omega,by rw[a0];have:=ay.An.2;rw[br]at this;exact this⟩ ⟨Q1,V.number,V.text,V.float⟩ (by rw[a0];rfl) rfl [s.Aj,.slice (some ⟨g,0,none⟩) s.An al,.slice b9 s.Ac H] X b3 (by have:=az.size;have:=bu.size;have:=td.out;omega) (by rw[a0];exact⟨_,_,rfl,bK,bJ⟩)
   exact gD
 case rest=>
  obtain⟨b',aS,aR,aV,aT,aU,aQ,e3,fu,bT⟩:=hcut;obtain⟨wd,gx⟩:∃wd,wd=wc:=⟨_,rfl⟩;subst gx;have ir:=bT.size;have dU:Lz [s.Aj,.slice ad s.An ae,.slice ag s.Ac af] wd:=fun X az=>by
   have h1:=Cp.block A0.Ab hq.out (w':=X) (fun b U=>(az.block b xI).trans ((bT.block b yE).trans ((e5.block b yE).trans (bE.block b yE))));exact Yb s aq.out.Aha.right aq.out.Aha.short _ X X (Zab _) (A0.Ab.wide h1 (fun b U=>by have:=az.size;have:=td.out;omega))
  have bc:=Zaa dU;have cg:=Zaa fu;have dQ:=Zaa e3;have e2:=(bT.block ah yE).trans ((e5.block ah yE).trans ((bE.block ah yE).trans hA.out));have hp:=Zaa e2;have be1:Below w w wd:=(((cK.trans (bE.mono cK.size)).trans (e5.mono (by have:=cK.size;omega)))).trans (bT.mono cK.size);clear dU fu e3 e2 g9 b1 b2 bd;go_upto_region 18 with fail
  go_cut [11] (fun v bg=>N7 v bg/\Below wd wd bg)
  case first=>
   obtain⟨wl,bp,de,i5,hL⟩:=Bx wd [.int .u8 3,zJ,.int .u8 9,zJ,.int .u8 2,.int .u8 1] 55;rw[bp];clear bp;have cM:=td.out;obtain⟨cN,ax⟩:∃cN,cN=wd.heap.size:=⟨_,rfl⟩;rw[<-ax]at de|-;have fn:=de.lt;have cW:=Zaa (gL.out.below ((du.trans (bE.mono yE)).trans ((e5.mono yE).trans ((bT.mono yE).trans (i5.mono yE)))) (Zab _));obtain⟨k,T,iB⟩:∃k:Nat,(O:Int)%3=k/\k<3:=⟨O%3,yE,yE⟩;have hJ:(O:Int).tmod 3=k:=by rw[Zbg yE];exact T
   have hU:IntKind.u8.wrap (k:Int)=k:=Zcz _ yE;have hO:(k:Int) <3:=yE;have bx:wl.rangeAt cN (k*2) (Ga k).cells:=by
    have h:=de.range;rcases(show k=0\/k=1\/k=2 from yE)with rfl | rfl | rfl
    ·exact fun j v aj=>by match j,aj with | 0,aj=>exact h 0 _ aj | 1,aj=>exact h 1 _ aj
    ·exact fun j v aj=>by match j,aj with | 0,aj=>exact h 2 _ aj | 1,aj=>exact h 3 _ aj
    exact fun j v aj=>by match j,aj with | 0,aj=>exact h 4 _ aj | 1,aj=>exact h 5 _ aj
   have gR:=Zaa bx;have hH:=Zaa T;clear bx T;obtain⟨ao,tp⟩:∃ao,ao=wl.heap.size:=⟨_,rfl⟩;have a0:Below ao wl (wl.drewN 1):=sB;rw[<-tp]at fn;have iv:wd.heap.size<=ao:=by rw[tp];exact i5.size
   have hT:ao<=wl.heap.size:=yE;have dB:=Zaa ax;clear ax tp;have bx:=Aa gR.out a0 fn;refine Mn [(0,[0]),(2,[0]),(10,[]),(11,[])] [(1,.inl none),(3,.inl none),(4,.inl none),(5,.inl none),(6,.inl none),(7,.inl none),(8,.inl none),(9,.inl (some 0))]
    (.two 0 ([],[0]) [] (.two 2 ([],[0]) [(10,.inr ([],[])),(11,.inr ([],[])),(12,.inl none)] .done 10 ([],[]) [(2,.inr ([],[0])),(11,.inr ([],[])),(12,.inl none)] .done)
     10 ([],[]) [(0,.inr ([],[0])),(2,.inr ([],[0])),(11,.inr ([],[])),(12,.inl none)] .done)
    (fun _ X=>X.rangeAt cN (k*2) (Ga k).cells) [0] yG yG (fun _ _=>bx) ?_
   refine Z09 ?_;generalize wl.drewN 1=a8 at a0 bx|-;have hP:=a0.size;have dI:=gM.out;clear bx;iterate 7 (refine Ah (fun K J=>?_);go_simp;refine J _ ?_;clear J K)
   refine Ba (.agg #[.int .u8 (Ga k).kind.toNat,.int .u8 (Ga k).byte.toNat]) yI (fun w' ac=>?_) (fun K J=>?_)
   ·have g0:=ac 0 _ rfl
    have g1:=ac 1 _ rfl;try simp only[Zaf]at g0
    go_simp
   (go_simp;refine J _ ?_;clear J K)
   refine B1 ?_;simp only[Pj,Bi,Zak,Zan,Zah,Zad,Zae,Zaj];refine⟨?_,?_⟩
   ·refine A1 rfl (fun K J=>?_)
    go_wp2_with fail
    have a1:=Bq a8 (.cells #[] 55);have G:=Au.empty Hw a8 ao 55 2 yE;have dM:a8.heap.size< (a8.alloc (.cells #[] 55)).heap.size:=yF;generalize a8.alloc (.cells #[] 55)=a7 at a1 G dM|-;refine Z4A ?_;have e0:=Zaa G;clear J K;have g5:=a1.size;have bV:=a0.trans (a1.mono yE);clear a1 G;refine B1 ?_;try simp only[Pj,Bi,Zak,Zan,Zah,Zad,Zae,Zaj]
    refine⟨?_,?_⟩
    ·refine A1 rfl (fun K J=>?_)
     refine E4 rfl _ _ rfl ao [] (.slice (some ⟨a8,0,none⟩) 0 0) rfl e0.out es dw dv rfl ((cW.out.below bV yE).mono yE) cV.out yJ yE ?_;intro a2 aL aM G a1 c5 bb;simp only[wpList,Dz,Zau,Zav,Zac]at G|-;refine Z4A ?_;have bC:=Zaa G;clear bb;clear J K;have dD:=c5;have aW:=bV.trans a1;clear a1 G;refine A1 rfl (fun K J=>?_);go_wp2_with fail
     have a1:=Bq aM (.cells #[.int .u8 3,zJ,.int .u8 3,zJ,.int .u8 (Ga k).kind.toNat,.int .u8 (Ga k).byte.toNat] 55);have aP:=Ae aM [.int .u8 3,zJ,.int .u8 3,zJ,.int .u8 (Ga k).kind.toNat,.int .u8 (Ga k).byte.toNat] 55;have c7:aM.heap.size< (aM.alloc (.cells #[.int .u8 3,zJ,.int .u8 3,zJ,.int .u8 (Ga k).kind.toNat,.int .u8 (Ga k).byte.toNat] 55)).heap.size:=yF;have a6:=Zaa aP;clear aP;generalize aM.alloc (.cells #[.int .u8 3,zJ,.int .u8 3,zJ,.int .u8 (Ga k).kind.toNat,.int .u8 (Ga k).byte.toNat] 55)=g8 at a1 c7 a6|-;refine Z3y ?_;have bX:=Zaa (bC.out.below Hw.Ab a1 (Zab _));clear J K;have dz:=a1.size;have c6:=aW.trans (a1.mono yE);clear a1;refine A1 rfl (fun K J=>?_);refine E4 rfl _ _ rfl ao es (.slice a2 es aL) rfl bX.out [⟨3,0⟩,⟨3,0⟩,Ga k] (some ⟨aM,0,none⟩) 3 rfl (R2 a6.out yE rfl) (fun e=>yW) yJ yE ?_;intro a4 j1 hf G a1 gr _;refine Z4a ?_;refine Z3y ?_;clear J K;have bG:=Zaa G;have jl:=c6.trans a1;clear G a1;refine Z0h ?_;refine B1 ?_;go_wp2_with fail
     have ax:=dB.out;subst ax;go_meet
     case rel=>
      exact Z0R
    refine A1 rfl (fun K J=>?_);go_wp2_with fail
    have a1:=Bq a7 (.cells #[.int .u8 3,zJ,.int .u8 3,zJ,.int .u8 (Ga k).kind.toNat,.int .u8 (Ga k).byte.toNat] 55);have aP:=Ae a7 [.int .u8 3,zJ,.int .u8 3,zJ,.int .u8 (Ga k).kind.toNat,.int .u8 (Ga k).byte.toNat] 55;have c7:a7.heap.size< (a7.alloc (.cells #[.int .u8 3,zJ,.int .u8 3,zJ,.int .u8 (Ga k).kind.toNat,.int .u8 (Ga k).byte.toNat] 55)).heap.size:=yF;have a6:=Zaa aP;clear aP;generalize a7.alloc (.cells #[.int .u8 3,zJ,.int .u8 3,zJ,.int .u8 (Ga k).kind.toNat,.int .u8 (Ga k).byte.toNat] 55)=aM at a1 c7 a6|-;refine Z3y ?_;have bC:=Zaa (e0.out.below Hw.Ab a1 (Zab _));clear J K;have dD:=a1.size;have aW:=bV.trans (a1.mono yE);clear a1;refine A1 rfl (fun K J=>?_);refine E4 rfl _ _ rfl ao [] (.slice (some ⟨a8,0,none⟩) 0 0) rfl bC.out es dw dv rfl ((cW.out.below aW yE).mono yE) cV.out yJ yE ?_;intro a2 aL g8 G a1 c5 bb;simp only[wpList,Dz,Zau,Zav,Zac]at G|-;refine Z4A ?_;have bX:=Zaa G;have bO:=Ag a6.out (bb.block a7 yE (show some a7.heap.size≠some a8.heap.size from B4 yE));clear a6;have a6:=Zaa bO;clear bO;clear bb;clear J K;have dz:=c5;have c6:=aW.trans a1;clear a1 G;refine A1 rfl (fun K J=>?_);refine E4 rfl _ _ rfl ao es (.slice a2 es aL) rfl bX.out [⟨3,0⟩,⟨3,0⟩,Ga k] (some ⟨a7,0,none⟩) 3 rfl (R2 a6.out yE rfl) (fun e=>yW) yJ yE ?_;intro a4 j1 hf G a1 gr _;refine Z4a ?_;refine Z3y ?_;clear J K;have bG:=Zaa G;have jl:=c6.trans a1;clear G a1;refine Z0h ?_;refine B1 ?_;go_wp2_with fail
    have ax:=dB.out;subst ax;go_meet
    case rel=>
     exact Z0R
   refine A1 rfl (fun K J=>?_);go_wp2_with fail
   have a1:=Bq a8 (.cells #[.int .u8 3,zJ,.int .u8 3,zJ,.int .u8 (Ga k).kind.toNat,.int .u8 (Ga k).byte.toNat] 55);have aP:=Ae a8 [.int .u8 3,zJ,.int .u8 3,zJ,.int .u8 (Ga k).kind.toNat,.int .u8 (Ga k).byte.toNat] 55;have c7:a8.heap.size< (a8.alloc (.cells #[.int .u8 3,zJ,.int .u8 3,zJ,.int .u8 (Ga k).kind.toNat,.int .u8 (Ga k).byte.toNat] 55)).heap.size:=yF;have a6:=Zaa aP;clear aP;generalize a8.alloc (.cells #[.int .u8 3,zJ,.int .u8 3,zJ,.int .u8 (Ga k).kind.toNat,.int .u8 (Ga k).byte.toNat] 55)=a7 at a1 c7 a6|-;refine Z3y ?_;clear J K;have g5:=a1.size;have bV:=a0.trans (a1.mono yE);clear a1;refine A1 rfl (fun K J=>?_);go_wp2_with fail
   have a1:=Bq a7 (.cells #[] 55);have G:=Au.empty Hw a7 ao 55 2 yE;have dM:a7.heap.size< (a7.alloc (.cells #[] 55)).heap.size:=yF;generalize a7.alloc (.cells #[] 55)=aM at a1 G dM|-;refine Z4A ?_;have bC:=Zaa G;have ft:=Aa a6.out a1 yE;clear a6;have a6:=Zaa ft;clear ft;clear J K;have dD:=a1.size;have aW:=bV.trans (a1.mono yE);clear a1 G;refine A1 rfl (fun K J=>?_);refine E4 rfl _ _ rfl ao [] (.slice (some ⟨a7,0,none⟩) 0 0) rfl bC.out es dw dv rfl ((cW.out.below aW yE).mono yE) cV.out yJ yE ?_;intro a2 aL g8 G a1 c5 bb;simp only[wpList,Dz,Zau,Zav,Zac]at G|-;refine Z4A ?_;have bX:=Zaa G;have bO:=Ag a6.out (bb.block a8 yE (show some a8.heap.size≠some a7.heap.size from B4 yE));clear a6;have a6:=Zaa bO;clear bO;clear bb;clear J K;have dz:=c5;have c6:=aW.trans a1;clear a1 G;refine A1 rfl (fun K J=>?_);refine E4 rfl _ _ rfl ao es (.slice a2 es aL) rfl bX.out [⟨3,0⟩,⟨3,0⟩,Ga k] (some ⟨a8,0,none⟩) 3 rfl (R2 a6.out yE rfl) (fun e=>yW) yJ yE ?_;intro a4 j1 hf G a1 gr _;refine Z4a ?_;refine Z3y ?_;clear J K;have bG:=Zaa G;have jl:=c6.trans a1;clear G a1;refine Z2o ?_;refine B1 ?_;go_wp2_with fail
   have ax:=dB.out;subst ax;go_meet
   case rel=>
    exact Z0R
  case rest=>
   obtain⟨f8,F⟩:=hcut;have iu:=F.size;have bA:=Zaa f8;have hX:b3.heap.size<wc:=xI;have hM:b3.heap.size<wd.heap.size:=xI;have df:=(F.block b3 yE).trans dQ.out;have g4:=(F.block ah yE).trans hp.out;have aZ:=A4 df;have g0:=aZ 0 _ rfl;have g1:=aZ 1 _ rfl;have g2:=aZ 2 _ rfl;simp only[Zac]at g0 g1 g2;have ch:=Zaa df;have bD:=Zaa g4;have A:Below wc wc wc:=Zai _ _;clear aZ df g4 f8;have cv:=A4 ((A.block b3 yE).trans ch.out);have eb:=cv 0 _ rfl;have ec:=cv 1 _ rfl;have ed:=cv 2 _ rfl;simp only[Zac]at eb ec ed;have d7:=To b' aS aR aV aT aU aQ u11 wc (cg.out.mono (F.trans (A.mono F.size)));simp only[Gf]at d7;have gE:=Zaa d7;clear d7 cv g0 g1 g2;go_wp2_with fail
   refine gE.out.mono ?_;rintro e aa ⟨rfl,dn⟩;clear eb ec ed;go_upto_region 20 with fail
   obtain⟨cd,bP⟩:=zL (aa.alloc (.cells yA 62));rw[bP];have gW:Below aa aa cd:=by rw[<-bP];exact Af _
   have fS:cd.heap[aa.heap.size]? =some (.cells yA 62 (0,0)):=by rw[<-bP];exact G4 _ rfl
   have ib:aa.heap.size<cd:=by rw[<-bP];simp
   have hY:=dn.size;have fb:=A.trans ((dn.mono A.size).trans (gW.mono (Zag A.size dn.size)));have M:=Zaa fS;clear bP fS A;have A:=fb;have ii:=A.size;clear fb;have cw:=A4 ((A.block b3 yE).trans ch.out);have ee:=cw 0 _ rfl;have ef:=cw 1 _ rfl;have eg:=cw 2 _ rfl;simp only[Zac]at ee ef eg;have d8:=K9 b' aS aR aV aT aU aQ u11 360 cd (fun X az=>To b' aS aR aV aT aU aQ u11 X (cg.out.mono ((F.trans (A.mono F.size)).trans (az.mono (Zag F.size A.size)))));simp only[G8]at d8;have gF:=Zaa d8;clear d8 cw;go_wp2_with fail
   refine gF.out.mono ?_;rintro e ab ⟨rfl,cn⟩;clear ee ef eg;go_upto_region 21 with fail
   obtain⟨z20,bQ⟩:=zL (ab.alloc (.cells #[zH,zJ,zE] 60));rw[bQ];have fk:Below ab ab z20:=by rw[<-bQ];exact Af _
   have fT:z20.heap[ab.heap.size]? =some (.cells #[zH,zJ,zE] 60 (0,0)):=by rw[<-bQ];exact G4 _ rfl
   have ic:ab.heap.size<z20:=by rw[<-bQ];simp
   have hZ:=cn.size;have fc:=A.trans ((cn.mono A.size).trans (fk.mono (Zag A.size cn.size)));have a3:=Zaa fT;clear bQ fT A;have A:=fc;have fv:=(fk.block aa yE).trans ((cn.block aa yE).trans M.out);clear M;have M:=Zaa fv;clear fv;have ij:=A.size;clear fc;have cx:=A4 ((A.block ah yE).trans bD.out);have eh:=cx 0 _ rfl;have ei:=cx 1 _ rfl;have ej:=cx 2 _ rfl;simp only[Zac]at eh ei ej;have d9:=Mm s.Aj ad ag s.An ae s.Ac af u11 z20 (bc.out.mono (F.trans (A.mono F.size))) (bA.out.mono A);simp only[Gf]at d9;have gG:=Zaa d9;clear d9 cx;go_wp2_with fail
   refine gG.out.mono ?_;rintro e ar ⟨rfl,bL⟩;clear eh ei ej;go_upto_region 22 with fail
   obtain⟨z21,bR⟩:=zL (ar.alloc (.cells yA 62));rw[bR];have dq:Below ar ar z21:=by rw[<-bR];exact Af _
   have fU:z21.heap[ar.heap.size]? =some (.cells yA 62 (0,0)):=by rw[<-bR];exact G4 _ rfl
   have ie:ar.heap.size<z21:=by rw[<-bR];simp
   have i0:=bL.size;have fd:=A.trans ((bL.mono A.size).trans (dq.mono (Zag A.size bL.size)));have a9:=Zaa fU;clear bR fU A;have A:=fd;have fw:=(dq.block aa yE).trans ((bL.block aa yE).trans M.out);clear M;have M:=Zaa fw;clear fw;have fx:=(dq.block ab yE).trans ((bL.block ab yE).trans a3.out);clear a3;have a3:=Zaa fx;clear fx;have ik:=A.size;clear fd;have cy:=A4 ((A.block ah yE).trans bD.out);have ek:=cy 0 _ rfl;have el:=cy 1 _ rfl;have em:=cy 2 _ rfl;simp only[Zac]at ek el em;have da:=K9 s.Aj ad ag s.An ae s.Ac af u11 320 z21 (fun X az=>Mm s.Aj ad ag s.An ae s.Ac af u11 X (bc.out.mono ((F.trans (A.mono F.size)).trans (az.mono (Zag F.size A.size)))) (bA.out.mono (A.trans (az.mono A.size))));simp only[G8]at da;have gH:=Zaa da;clear da cy;go_wp2_with fail
   refine gH.out.mono ?_;rintro e au ⟨rfl,bj⟩;clear ek el em;go_upto_region 23 with fail
   obtain⟨ce,bS⟩:=zL (au.alloc (.cells #[zH,zJ,zE] 60));rw[bS];have cp:Below au au ce:=by rw[<-bS];exact Af _
   have fV:ce.heap[au.heap.size]? =some (.cells #[zH,zJ,zE] 60 (0,0)):=by rw[<-bS];exact G4 _ rfl
   have ig:au.heap.size<ce:=by rw[<-bS];simp
   have i1:=bj.size;have fe:=A.trans ((bj.mono A.size).trans (cp.mono (Zag A.size bj.size)));have ai:=Zaa fV;clear bS fV A;have A:=fe;have fy:=(cp.block aa yE).trans ((bj.block aa yE).trans M.out);clear M;have M:=Zaa fy;clear fy;have fA:=(cp.block ab yE).trans ((bj.block ab yE).trans a3.out);clear a3;have a3:=Zaa fA;clear fA;have fB:=(cp.block ar yE).trans ((bj.block ar yE).trans a9.out);clear a9;have a9:=Zaa fB;clear fB;have il:=A.size;clear fe;go_wp2_with fail
   refine(bA.out ce A).mono ?_;rintro e he ⟨hS,rfl,bk⟩;have fC:=(bk.block aa yE).trans M.out;clear M;have M:=Zaa fC;clear fC;have fD:=(bk.block ab yE).trans a3.out;clear a3;have a3:=Zaa fD;clear fD;have fE:=(bk.block ar yE).trans a9.out;clear a9;have a9:=Zaa fE;clear fE;have fF:=(bk.block au yE).trans ai.out;clear ai;have ai:=Zaa fF;clear fF;have i2:=bk.size;have ff:=A.trans (bk.mono A.size);clear A;have A:=ff;have im:=A.size;clear ff;have cz:=A4 ((A.block b3 yE).trans ch.out);have en:=cz 0 _ rfl;have eo:=cz 1 _ rfl;have ep:=cz 2 _ rfl;simp only[Zac]at en eo ep;have cA:=A4 ((A.block ah yE).trans bD.out);have eq:=cA 0 _ rfl;have er:=cA 1 _ rfl;have et:=cA 2 _ rfl;simp only[Zac]at eq er et;have f3:=Acg s.Aj ad ag s.An ae s.Ac af b' aS aR aV aT aU aQ u11 he (bc.out.mono (F.trans (A.mono F.size))) (cg.out.mono (F.trans (A.mono F.size)));have gI:=Zaa f3;clear f3 cz cA;go_wp2_with fail
   refine gI.out.mono ?_;rintro e hg ⟨rfl,bm⟩;clear en eo ep;clear eq er et;have fG:=(bm.block aa yE).trans M.out;clear M;have M:=Zaa fG;clear fG;have fH:=(bm.block ab yE).trans a3.out;clear a3;have a3:=Zaa fH;clear fH;have fI:=(bm.block ar yE).trans a9.out;clear a9;have a9:=Zaa fI;clear fI;have fJ:=(bm.block au yE).trans ai.out;clear ai;have ai:=Zaa fJ;clear fJ;have i3:=bm.size;have fg:=A.trans (bm.mono A.size);clear A;have A:=fg;have io:=A.size;clear fg;have cB:=A4 ((A.block b3 yE).trans ch.out);have eu:=cB 0 _ rfl;have ev:=cB 1 _ rfl;have ew:=cB 2 _ rfl;simp only[Zac]at eu ev ew;have cC:=A4 ((A.block ah yE).trans bD.out);have ex:=cC 0 _ rfl;have ey:=cC 1 _ rfl;have ez:=cC 2 _ rfl;simp only[Zac]at ex ey ez;have f4:=Aex b' aS aR aV aT aU aQ s.Aj ad ag s.An ae s.Ac af u11 hg (cg.out.mono (F.trans (A.mono F.size)));have gJ:=Zaa f4;clear f4 cB cC;go_wp2_with fail
   refine gJ.out.mono ?_;rintro e hh ⟨rfl,bn⟩;clear eu ev ew;clear ex ey ez;have fK:=(bn.block aa yE).trans M.out;clear M;have M:=Zaa fK;clear fK;have fL:=(bn.block ab yE).trans a3.out;clear a3;have a3:=Zaa fL;clear fL;have fM:=(bn.block ar yE).trans a9.out;clear a9;have a9:=Zaa fM;clear fM;have fN:=(bn.block au yE).trans ai.out;clear ai;have ai:=Zaa fN;clear fN;have i4:=bn.size;have fh:=A.trans (bn.mono A.size);clear A;have A:=fh;have ip:=A.size;clear fh;have cD:=A4 ((A.block ah yE).trans bD.out);have eA:=cD 0 _ rfl;have eB:=cD 1 _ rfl;have eC:=cD 2 _ rfl;simp only[Zac]at eA eB eC;have f5:=Ahm s.Aj ad ag s.An ae s.Ac af s.Aj ad ag s.An ae s.Ac af u11 hh (bc.out.mono (F.trans (A.mono F.size))) (bc.out.mono (F.trans (A.mono F.size))) (fun X az=>K9 s.Aj ad ag s.An ae s.Ac af u11 320 X (fun Y bW=>Mm s.Aj ad ag s.An ae s.Ac af u11 Y (bc.out.mono (((F.trans (A.mono F.size)).trans (az.mono (Zag F.size A.size))).trans (bW.mono (Zag (Zag F.size A.size) az.size)))) (bA.out.mono ((A.trans (az.mono A.size)).trans (bW.mono (Zag A.size az.size)))))) (fun X az=>K9 s.Aj ad ag s.An ae s.Ac af u11 320 X (fun Y bW=>Mm s.Aj ad ag s.An ae s.Ac af u11 Y (bc.out.mono (((F.trans (A.mono F.size)).trans (az.mono (Zag F.size A.size))).trans (bW.mono (Zag (Zag F.size A.size) az.size)))) (bA.out.mono ((A.trans (az.mono A.size)).trans (bW.mono (Zag A.size az.size))))));have gK:=Zaa f5;clear f5 cD;go_wp2_with fail
   refine gK.out.mono ?_;rintro e hi ⟨rfl,bo⟩;clear eA eB eC;have fO:=(bo.block aa yE).trans M.out;clear M;have M:=Zaa fO;clear fO;have fP:=(bo.block ab yE).trans a3.out;clear a3;have a3:=Zaa fP;clear fP;have fQ:=(bo.block ar yE).trans a9.out;clear a9;have a9:=Zaa fQ;clear fQ;have fR:=(bo.block au yE).trans ai.out;clear ai;have ai:=Zaa fR;clear fR;have i6:=bo.size;have fi:=A.trans (bo.mono A.size);clear A;have A:=fi;have iq:=A.size;clear fi;have aH:=A4 M.out;have eD:=aH 0 _ rfl;have eE:=aH 1 _ rfl;have eF:=aH 2 _ rfl;have eG:=aH 3 _ rfl;have eH:=aH 4 _ rfl;have eI:=aH 5 _ rfl;have eJ:=aH 6 _ rfl;have eK:=aH 7 _ rfl;simp only[Zac]at eD eE eF eG eH eI eJ eK;clear aH;go_wp2_with fail
   have dg:=P8 hi;simp only[Gf]at dg;refine dg.mono ?_;rintro e hj ⟨rfl,bM⟩;clear dg eD eE eF eG eH eI eJ eK;have i7:=bM.size;have aI:=A4 ((bM.block ar yE).trans a9.out);have eO:=aI 0 _ rfl;have eP:=aI 1 _ rfl;have eQ:=aI 2 _ rfl;have eR:=aI 3 _ rfl;have eS:=aI 4 _ rfl;have eT:=aI 5 _ rfl;have eU:=aI 6 _ rfl;have eV:=aI 7 _ rfl;simp only[Zac]at eO eP eQ eR eS eT eU eV;clear aI;go_wp2_with fail
   have di:=P8 hj;simp only[Gf]at di;refine di.mono ?_;rintro e hk ⟨rfl,co⟩;clear di eO eP eQ eR eS eT eU eV;have i8:=co.size;have cr:=A4 ((co.block ab yE).trans ((bM.block ab yE).trans a3.out));have eL:=cr 0 _ rfl;have eM:=cr 1 _ rfl;have eN:=cr 2 _ rfl;simp only[Zac]at eL eM eN;clear cr;go_wp2_with fail
   have dh:=L9 hk;simp only[G8]at dh;refine dh.mono ?_;rintro e hl ⟨rfl,dp⟩;clear dh eL eM eN;have i9:=dp.size;have ct:=A4 ((dp.block au yE).trans ((co.block au yE).trans ((bM.block au yE).trans ai.out)));have eW:=ct 0 _ rfl;have eX:=ct 1 _ rfl;have eY:=ct 2 _ rfl;simp only[Zac]at eW eX eY;clear ct;go_wp2_with fail
   have dj:=L9 hl;simp only[G8]at dj;refine dj.mono ?_;rintro e ix ⟨rfl,fj⟩;clear dj eW eX eY;have ia:=fj.size;have hv:=(((be1.trans (F.mono be1.size)).trans (A.mono (Zag be1.size F.size))).trans (bM.mono tD)).trans ((co.mono tD).trans ((dp.mono tD).trans (fj.mono tD)));go_wp2_with fail
   go_ret;exact⟨rfl,hv⟩
end
end Go.Proofs.YtafmoofknjncpaaGreatDoor
