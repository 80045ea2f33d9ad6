/- A part of the proof that ModelWrong holds: its theorems stand as they are typed. -/
import Derived.WideMake
import Derived.Test.YtafmoofknjncpaaGreatDoorG
import Derived.Test.YtafmoofknjncpaaGreatDoorN
import Derived.Test.YtafmoofknjncpaaGreatDoorQa
set_option linter.all false
set_option maxRecDepth 100000
set_option maxHeartbeats 8000000
namespace Go.Proofs.YtafmoofknjncpaaGreatDoor
section
open Tryz Go.RowKit Go.Shelf
structure A8 (P:zT) (w w':zN):Prop where
 os:w'.os=w.os
 tape:w'.tape=w.tape
 output:w'.output=w.output
 size:w.heap.size<=w'
 block:∀k,P k->w'.heap[k]? =w.heap[k]?
section
variable {P Q:zT} {u v w:zN}
theorem A8.refl (P:zT) (w:zN):A8 P w w:=⟨rfl,rfl,rfl,Zab _,fun _ _=>rfl⟩
theorem A8.trans (h:A8 P u v) (k:A8 P v w):A8 P u w:=
 ⟨k.os.trans h.os,k.tape.trans h.tape,k.output.trans h.output,Zag h.size k.size,fun i A=>(k.block i A).trans (h.block i A)⟩
theorem A8.Gz (h:A8 P u v) (D:∀k,Q k->P k):A8 Q u v:=⟨h.os,h.tape,h.output,h.size,fun k A=>h.block k (D k A)⟩
theorem A8.By {m:Nat} (h:Below m u v) (D:∀k,P k->k<m):A8 P u v:=⟨h.os,h.tape,h.output,h.size,fun k A=>h.block k (D k A)⟩
theorem A8.G0 {row:Option Nat} (h:u.grownBy v row) (D:∀k,P k->k<u.heap.size/\some k≠row):A8 P u v:=⟨h.os,h.tape,h.output,h.size,fun k A=>h.block k (D k A).1 (D k A).2⟩
theorem A8.below {m:Nat} (h:A8 P u v) (D:∀k,k<m->P k):Below m u v:=⟨h.os,h.tape,h.output,h.size,fun k A=>h.block k (D k A)⟩
theorem A8.box {b:Nat} {t:TypeId} {cs:zP} (h:A8 P u v) (A:Ar u b t cs) (U:P b):Ar v b t cs:=A.C4 (h.block b U)
end
def Cq:ByteArray:=⟨#[110]⟩
def Fs (x:Nat):List Value:=[.string Cq,.bool true,.string ⟨#[]⟩,.float .f64 x]
structure G5 (w:zN) (bf lb an:Nat) (x:Nat):Prop where
 box:∃lc js,1<=lc/\Ar w bf 150 [.slice (some ⟨lb,0,none⟩) 1 lc,.map (some an),js]/\Dc w 0 53 4 (.slice (some ⟨lb,0,none⟩) 1 lc) [Fs x]
 map:∃born clock,w.heap[an]? =some (.map #[{key:=.string Cq,val:=.int .i64 0,born:=born}] clock)
 num:x<2^64/\D1 x=true
theorem G5.ne {w:zN} {A lb D x:Nat} (h:G5 w A lb D x):A≠lb:=by
 rintro rfl;obtain⟨lc,F,_,h1,h2⟩:=h.box;rcases h2.1.2 with⟨h,-⟩ | ⟨g,G,cur,h,_,h3,_⟩
 ·cases h
 cases h;unfold Ar at h1;rw[h1]at h3;simp only[Zbb,Obj.cells.injEq]at h3;have:=h3.2.1;exact absurd this yH
theorem G5.C4 {w w':zN} {D lb A x:Nat} {P:zT} (h:G5 w D lb A x) (k:A8 P w w') (h1:P D) (h2:P lb) (h3:P A):G5 w' D lb A x:=by
 obtain⟨⟨lc,J,H,U,F⟩,⟨born,clock,hm⟩,G⟩:=h;refine⟨⟨lc,J,H,k.box U h1,?_⟩,⟨born,clock,(k.block _ h3).trans hm⟩,G⟩;refine⟨⟨F.1.1,?_⟩,F.2⟩;rcases F.1.2 with h | ⟨g,M,cur,e,h4,h5,h6⟩
 ·exact .inl h
 cases e;exact .inr ⟨lb,lc,cur,rfl,h4,(k.block _ h2).trans h5,h6⟩
theorem Pm:∃D F,prog.underlying 146=some (.map D F)/\D=9/\F=3:=by
 have h:(prog.underlying 146).map (fun d=>match d with | .map k e=>some (k,e) | _=>none)=some (some (9,3)):=yG;cases A:prog.underlying 146 with
 | none=>rw[A]at h;cases h
 | some d=>
  rw[A]at h;cases d with
  | map k e=>simp only[Zaj,Zbb,Zgr]at h;exact⟨k,e,rfl,h.1,h.2⟩
  | _=>simp at h
theorem Aaq (w:zN) (A born clock:Nat) (h:w.heap[A]? =some (.map #[{key:=.string Cq,val:=.int .i64 0,born:=born}] clock)):
  (Instr.lookup 146 (.map (some A)) (.string Cq) true).run prog w=.ok (.tuple #[zE,zB]) w:=by
 obtain⟨M,O,hm,rfl,rfl⟩:=Pm
 have D:prog.underlying 9=some .string:=yG
 have J:(getObj A).run prog w=.ok (.map #[{key:=.string Cq,val:=.int .i64 0,born:=born}] clock) w:=by simp[getObj,Sem.run,h]
 have G:∀em,(Instr.checkKey em 10000 9 (.string Cq)).run prog w=.ok () w:=fun em=>Zfv (k:=.string Cq) D (by simp[MapKept.IsKey]) em 9999
 have H:Instr.findNow .string (.string Cq) [({key:=.string Cq,val:=.int .i64 0,born:=born}:MapEntry)] 0=some (some (0,.int .i64 0)):=by
  have F:(Cq==Cq)=true:=yH;simp[Instr.findNow,Instr.sameNow,F]
 simp only[Instr.lookup,Zgv,Zig hm,Zgu,J,Zgw,G,Zfw D H,Zia]
theorem Rv (w:zN) (A F:Nat) (v G:Value) (D:Ar w A 150 [v,.map (some F),G]):
  Calls prog 72 #[zK A] w fun e w'=>e=.returned (.bool false)/\w'=w:=by
 have H:=D.cell (j:=0) rfl
 have J:=D.cell (j:=1) rfl
 obtain⟨M,O,hm,rfl,rfl⟩:=Pm
 have q:=fun(w:zN) (m:Option Nat)=>run_eql_map_nil w 146 _ _ m hm
 go_enter func72,ntmps72
 exact Z0G
theorem Ac9 (w:zN) (D lb A x:Nat) (h:G5 w D lb A x):
  Calls prog 168 #[zK D,Cq] w fun e w'=>e=.returned (.tuple #[zE,zE])/\w'=w:=by
 obtain⟨⟨lc,F,G,U,H⟩,⟨born,clock,hm⟩,-⟩:=h
 have J:=U.cell (j:=1) rfl
 have q:=Aaq w A born clock hm
 go_enter func168,ntmps168
 go_wp2_with (go_at_call 72;refine(Rv w D A _ F U).mono ?_;rintro e w' ⟨rfl,rfl⟩)
 go_ret2
 exact⟨rfl,rfl⟩
theorem Va (w:zN) (A lb D x:Nat) (h:G5 w A lb D x):
  Calls prog 39 #[zK A] w fun e w'=>∃v,e=.returned v/\Dc w' w 53 4 v [Fs x]/\Below w w w':=by
 obtain⟨⟨lc,M,O,U,F⟩,⟨born,clock,hm⟩,-⟩:=h
 have T:=U.cell (j:=0) rfl
 have G:=F.Ve rfl
 go_enter func39,ntmps39
 go_wp2_with (go_at_call 72;refine(Rv w A D _ M U).mono ?_;rintro e w' ⟨rfl,hw⟩;subst w')
 refine(Sr [Fs x] (some ⟨lb,0,none⟩) lc w _ (Zab _) yF G yF (by simp[Fs,Value.oneCell'])).mono ?_
 rintro e w' ⟨v,rfl,H,J⟩
 go_wp2_with fail
 go_ret
 exact⟨v,rfl,⟨H,F.2⟩,J⟩
def Ake (x:Nat):Value:=.agg #[zB,zC,.float .f64 x]
theorem Afs (w:zN) (W lb M x y:Nat) (hy:y<2^64/\D1 y=true) (h:G5 w W lb M x):
  Calls prog 137 #[zK W,Cq,Ake y] w fun e w'=>e=.returned (.int .i64 0)/\G5 w' W lb M y/\w.grownBy w' (some lb):=by
 obtain⟨⟨lc,aI,az,U,aj⟩,⟨born,clock,hm⟩,-⟩:=id h
 obtain⟨A,ai,a1,V,aF⟩:=Bx w [zB,zC,.float .f64 y] 51
 have a6:M<w:=(Zbx.1 hm).1
 have av:=(aj.lt lb rfl).2
 have h1:=h.C4 (A8.By (P:=fun b=>b<w) V (fun _ h=>h)) U.lt av a6
 have hF:=Zaa (Ac9 A W lb M x h1)
 have aH:=Zaa (K5 y hy.1 hy.2 A)
 obtain⟨⟨aC,aD,aK,ah,ac⟩,-,-⟩:=id h1
 have a3:=ah.cell (j:=0) rfl
 have d0:=a1.cell (j:=0) rfl
 have d1:=a1.cell (j:=1) rfl
 have d2:=a1.cell (j:=2) rfl
 obtain ap | ⟨g,aJ,e,-,aa,a7⟩:=ac.at_
 ·cases ap
 cases e
 have a0:=a7 0 yF
 have ae:=a0 0 _ rfl
 have ad:=a0 1 _ rfl
 have Y:=a0 2 _ rfl
 have af:=a0 3 _ rfl
 simp only[Zgl,Zaf,Zac]at ae ad Y af
 have D:=ac.there 0 yF
 clear a7
 unfold Ake
 go_enter func137,ntmps137
 go_upto_region 1 with fail
 clear ai
 go_wp2_with (go_at_call 168;refine hF.out.mono ?_;rintro e w' ⟨rfl,hw⟩;subst w')
 go_quiet (fail)
 go_wp2_with (go_at_call 92;refine(K5 y hy.1 hy.2 _).mono ?_;rintro e G ⟨rfl,a9⟩)
 rw[show(A.drewN nq).heap.size=A.heap.size from yN]at a9
 have O:Below A A G:=(Bk (Zai _ _) nq (Zab _)).trans a9
 clear a3 d0 d1 d2 ae ad Y af D a0
 have h2:=h1.C4 (A8.By (P:=fun b=>b<A) O (fun _ h=>h)) ah.lt aa (Zal a6 V.size)
 obtain⟨⟨aG,aE,aB,ag,aw⟩,-,-⟩:=id h2
 have a3:=ag.cell (j:=0) rfl
 have D:=aw.there 0 yF
 have t1:=D 1 yH
 have t2:=D 2 yH
 have t3:=D 3 yH
 have a4:=a1.below O yE
 have d0:=a4.cell (j:=0) rfl
 have d1:=a4.cell (j:=1) rfl
 have d2:=a4.cell (j:=2) rfl
 go_still_tail 9,yG
 change wpList _ _ _ _ _ G.drew
 have a2:Below G G G.drew:=Bk (Zai _ _) 1 (Zab _)
 have h3:=h2.C4 (A8.By (P:=fun b=>b<G) a2 (fun _ h=>h)) ag.lt (Zal aa O.size) (Zal a6 (Zag V.size O.size))
 clear a3 d0 d1 d2 t1 t2 t3 D
 generalize G.drew=J at a2 h3|-
 obtain⟨⟨ao,am,aq,au,a5⟩,H,-⟩:=id h3
 have D:=a5.there 0 yF
 rw[Zgl]at D
 have an:J.there lb 1 3:=fun j ay=>by
  have:=D (1+j) yE;rwa[Zac]at this
 refine wpList_store_row rfl 51 _ _ rfl lb 1 [zB,zC,.float .f64 y] rfl rfl an yG yL ?_
 have F:=Ao J lb [zB,zC,.float .f64 y] 1
 have ax:W≠lb:=h.ne
 have ab:=Nj [zB,zC,.float .f64 y] 1 J _ a5.1
 have cf:M≠lb:=by
  rintro rfl;obtain⟨_,_,H⟩:=H;rcases a5.1.2 with⟨e,-⟩ | ⟨_,_,_,e,_,Y,_⟩
  ·cases e
  cases e;rw[H]at Y;cases Y
 have ar:Below A A J:=O.trans (a2.mono O.size)
 have T:Below w w J:=V.trans (ar.mono V.size)
 generalize J.setCells lb 1 [.bool true,.string ⟨#[]⟩,.float .f64 y]=aA at F ab|-
 go_wp2_with fail
 go_ret
 refine⟨rfl,⟨⟨ao,am,aq,au.grown F (by simpa using ax),ab,by simp[Fs]⟩,?_,hy⟩,⟨F.os.trans T.os,F.tape.trans T.tape,F.output.trans T.output,Zag T.size F.size,fun k a8 cf=>(F.block k (Zal a8 T.size) cf).trans (T.block k a8)⟩⟩
 obtain⟨ak,al,H⟩:=H
 exact⟨ak,al,(F.block M (Zbx.1 H).1 vO).trans H⟩
end
section
open Tryz Go.RowKit Go.Shelf
theorem Xd:Hm Cq where
 Qp:=yH
 Zy:=yH
 Wa:=yH
 Qc:=yH
 all:=yH
 not:=yH
theorem Acw (x:Nat) (O:x<2^64/\D1 x=true) (b o c:Nat) (w:zN) (a5:1<=c) (U:b<w) (A:w.rangeAt b o (Fs x)):
  Calls prog 61 #[.slice (some ⟨b,o,none⟩) 1 c] w fun e w'=>e=.returned (.tuple #[zG,zE])/\Below w w w':=by
 have d0:=A 0 _ rfl
 have d1:=A 1 _ rfl
 have d2:=A 2 _ rfl
 have d3:=A 3 _ rfl
 rw[Zaf]at d0
 have a0:=Zaa fun(X:zN)=>Jt Cq X Xd
 have a3:=Zaa fun(X:zN)=>K5 x O.1 O.2 X
 go_enter func61,ntmps61
 go_wp2_with fail
 go_loopw [11] (fun H wr=>(H=.int .i64 0/\wr=w)\/(H=.int .i64 1/\Below w w wr)) (fun H _=>1 - (intOf H).toNat)
 case atStart=>exact .inl ⟨rfl,rfl⟩
 case round=>
  rcases hrel with⟨rfl,rfl⟩ | ⟨rfl,a2⟩
  ·obtain⟨T,W,e3,F,a7⟩:=Bx wr (Fs x) 53
   go_upto_region 6 with fail
   refine Z3P ?_;intro aq bh cq ed;clear d0 d1 d2 d3 A;rw[show wr.alloc (.cells #[Cq,zB,zC,.float .f64 x] 53)=T from W];clear W;go_wp2_with fail
   refine(a0.out T).mono ?_;rintro e V ⟨rfl,G⟩;have D:=e3.below G e3.lt;clear aq bh cq ed;have bh:=D.cell (j:=1) rfl;have cq:=D.cell (j:=2) rfl;have ed:=D.cell (j:=3) rfl;go_wp2_with fail
   refine(Ae8 91 _ (fun _ _=>rfl) (some ⟨b,o,none⟩) c [] (fun _=>false) V V (Zab _) yF (.inl rfl) (fun i h=>yX)).mono ?_;rintro e Y ⟨rfl,J⟩;have M:=D.below J D.lt;clear bh cq ed;have bh:=M.cell (j:=1) rfl;have cq:=M.cell (j:=2) rfl;have ed:=M.cell (j:=3) rfl;simp only[Zav,List.range_zero,Zdi];go_wp2_with fail
   refine(a3.out Y).mono ?_;rintro e a6 ⟨rfl,a1⟩;have a4:=((F.trans (G.mono F.size)).trans (J.mono (Zag F.size G.size))).trans (a1.mono (Zag F.size (Zag G.size J.size)));clear bh cq ed;go_wp2;exact⟨.inr ⟨yK,a4⟩,wJ⟩
  clear d0 d1 d2 d3;go_wp2_with fail
  go_ret2;exact⟨rfl,a2⟩
theorem Ahw (x:Nat) (al:x<2^64/\D1 x=true) (b o c:Nat) (w:zN) (aH:1<=c) (U:b<w) (a6:w.rangeAt b o (Fs x)):
  Calls prog 31 #[.slice (some ⟨b,o,none⟩) 1 c] w fun e w'=>∃aa lb ao,e=.returned (.tuple #[zK aa,zE])/\G5 w' aa lb ao x/\w.heap.size<=aa/\w.heap.size<=lb/\w.heap.size<=ao/\Below w w w':=by
 have aP:=Zaa (Acw x al b o c w aH U a6)
 have au:∀X,Below w w X->Bs X w 4 (some ⟨b,o,none⟩) [Fs x]:=fun X V=>.inr ⟨b,o,rfl,U,fun i am=>by
  have am:i<1:=am;obtain rfl:i=0:=yE;exact⟨Aa vN V U,rfl⟩⟩
 have aB:=Zaa fun(X:zN) (V:Below w w X)=>Sr [Fs x] (some ⟨b,o,none⟩) c X w V.size yF (au X V) yF (by simp[Fs,Value.oneCell'])
 have aT:=Zaa a6
 clear au a6
 go_enter func31,ntmps31
 go_wp2_with fail
 refine aP.out.mono ?_
 rintro e a5 ⟨rfl,J⟩
 go_wp2_with fail
 refine(aB.out a5 J).mono ?_
 rintro e A ⟨v2,rfl,ar,an⟩
 have a0:=J.trans (an.mono J.size)
 have ak:Dc A a5 53 4 v2 [Fs x]:=⟨ar,by simp[Fs]⟩
 obtain ad | ⟨lb,lc,rfl,b5,b0,aV⟩:=id ak.at_
 ·cases ad
 have bd:1<=lc:=by
  obtain⟨_,_,e,h⟩:=ak.shape;cases e;simpa using h
 have T:Below A A (A.alloc (.map #[] 0)):=Bq _ _
 have a4:=Zhe A (.map #[] 0)
 have ax:=run_makeMap_plain (P:=prog) A 146
 generalize A.alloc (.map #[] 0)=a8 at T a4 ax
 have a1:=a0.trans (T.mono a0.size)
 go_wp2_with fail
 refine(aB.out a8 a1).mono ?_
 rintro e G ⟨v4,rfl,aw,H⟩
 have aA:Dc G a8 53 4 v4 [Fs x]:=⟨aw,by simp[Fs]⟩
 obtain ad | ⟨fb,aD,rfl,b4,b3,aK⟩:=aA.at_
 ·cases ad
 clear ax
 simp only[Zao,Zav,Zac]
 go_upto_region 5 with fail
 obtain⟨a9,aF,ai,Y,aW⟩:=Bx G [.slice (some ⟨lb,0,none⟩) 1 lc,.map (some A.heap.size),.slice (some ⟨fb,0,none⟩) 1 aD] 150
 rw[show G.alloc (.cells #[.slice (some ⟨lb,0,none⟩) 1 lc,.map (some A.heap.size),.slice (some ⟨fb,0,none⟩) 1 aD] 150)=a9 from aF]
 have af:A.heap.size<a8:=(Zbx.1 a4).1
 have a3:=a1.trans (H.mono a1.size)
 have ag:=a3.trans (Y.mono a3.size)
 have aJ:a9.heap[A.heap.size]? =some (.map #[] 0):=(Y.block _ (Zal af H.size)).trans ((H.block _ af).trans a4)
 have aZ:=((ak.below T (Zab _)).below H (Zab _)).below Y (Zab _)
 have O:=Aa aT.out ag U
 have d0:=O 0 _ rfl
 have d1:=O 1 _ rfl
 have d2:=O 2 _ rfl
 have d3:=O 3 _ rfl
 rw[Zaf]at d0
 have aR:w.heap.size<=A:=a0.size
 have aS:w.heap.size<=G:=a3.size
 have b8:w.heap.size<=a5:=J.size
 have bc:A.heap.size<G:=Zal af H.size
 have b6:lb<A.heap.size:=b0
 have b7:=ai.lt
 clear aW aF J an a0 T a1 H a3 Y aK aV aA aw ar a4 O
 go_wp2_with fail
 go_loopw [26] (fun a2 wr=>(a2=.int .i64 0/\wr=a9)\/(a2=.int .i64 1/\G5 wr G lb A x/\Below w w wr)) (fun a2 _=>1 - (intOf a2).toNat)
 case atStart=>exact .inl ⟨rfl,rfl⟩
 case round=>
  rcases hrel with⟨rfl,rfl⟩ | ⟨rfl,aX,aU⟩
  ·obtain⟨F,aC,b2,W,b9⟩:=Bx wr (Fs x) 53
   go_upto_region 8 with fail
   rw[show wr.alloc (.cells #[Cq,zB,zC,.float .f64 x] 53)=F from aC];have av:=ag.trans (W.mono ag.size);have ap:=(W.block _ yE).trans aJ;have aI:=aZ.below W (Zab _);have aj:=ai.below W ai.lt;have aG:=b2.cell (j:=0) rfl;have b1:=aj.cell (j:=1) rfl;clear aC d0 d1 d2 d3
   go_still_tail 8,yG
   change wpList _ _ _ _ _ F.drew
   clear aG b1;have M:Below F F F.drew:=Bk (Zai _ _) 1 (Zab _);have ab:=av.trans (M.mono av.size);have ac:=(M.block _ (Zbx.1 ap).1).trans ap;have az:=aI.below M (Zab _);have ay:=aj.below M aj.lt;generalize F.drew=D at M ab ac az ay|-;obtain⟨ba,bb,aO,rfl,rfl⟩:=Pm;have aq:=run_mapUpdate_first (P:=prog) D 146 _ _ A 0 Cq (.int .i64 0) aO yG ac;have aN:=(Zbx.1 ac).1;have aE:=Zhk (o:=.map #[{key:=.string Cq,val:=.int .i64 0,born:=0}] 1) aN;have ah:∀k,k≠A.heap.size->(D.putObj A (.map #[{key:=.string Cq,val:=.int .i64 0,born:=0}] 1)).heap[k]? =D.heap[k]? :=fun k a7=>Zhj a7
   have ae:D.grownBy (D.putObj A (.map #[{key:=.string Cq,val:=.int .i64 0,born:=0}] 1)) (some A.heap.size):=⟨rfl,rfl,rfl,vK,fun k _ a7=>ah k xZ⟩
   change (Instr.mapUpdate 146 (.map (some A.heap.size)) (.string Cq) (.int .i64 0)).run prog D=.ok () (D.putObj A (.map #[{key:=.string Cq,val:=.int .i64 0,born:=0}] 1))at aq
   generalize D.putObj A (.map #[{key:=.string Cq,val:=.int .i64 0,born:=0}] 1)=aY at aE ah ae aq|-;have aL:=ay.C4 (ah _ yE);have aM:=az.grown ae (.inr (by simp[Value.ownBlock];omega));have aQ:Below w w aY:=ab.grown ae ab.size (fun r e=>yM);go_wp2;exact⟨.inr ⟨yK,⟨⟨lc,_,by assumption,aL,Du aM.1 (Zap _),by simp[Fs]⟩,⟨0,1,aE⟩,al⟩,aQ⟩,wJ⟩
  clear d0 d1 d2 d3;go_wp2_with fail
  go_ret2;exact⟨_,_,_,rfl,aX,aS,yE,aR,aU⟩
end
section
open Tryz Go.RowKit Go.Shelf
def xR:Rx:=.node ⟨2,0,72057594037927936,0,0,0,0⟩ []
def yR:Rx:=.node ⟨2,0,144115188075855872,0,0,0,0⟩ []
def qR:Rx:=.node ⟨2,0,562949953421312,0,0,0,0⟩ []
def gxR:Rx:=.node ⟨6,0,0,0,0,0,0⟩ [xR]
def Rn:Rx:=.node ⟨3,0,0,0,0,0,0⟩ [gxR,yR]
theorem Sq (c:UInt64) (A:c≠0):Cd (.node ⟨2,0,c,0,0,0,0⟩ []):=Cd.node.2 ⟨.cls _ rfl (by simpa[Cc.blank]using A) uL,yF⟩
theorem Aj9:Cd xR:=Sq _ yH
theorem Aj8:Cd yR:=Sq _ yH
theorem Aa1:Cd qR:=Sq _ yH
theorem Aiz:Cd gxR:=Cd.node.2 ⟨.group _ _ rfl (by simp[Cc.blank]) uL,by simpa using Aj9⟩
theorem Xy:Cd Rn:=Cd.node.2 ⟨.cat _ _ rfl (by simp[Cc.blank]) uL yH (by
 simp only[Zbc,Zbe,Zic];rintro x (rfl | rfl)<;>exact⟨yH,yH⟩),by
 simp only[Zbc,Zbe,Zic];rintro x (rfl | rfl)
 ·exact Aiz
 ·exact Aj8⟩
theorem Ae5:F3 qR:=⟨Aa1,yH,yH,yH⟩
theorem Z7:F3 Rn:=⟨Xy,yH,yH,yH⟩
def Lm:ByteArray:=⟨#[97]⟩
def Jr:ByteArray:=⟨#[98]⟩
theorem Anw:Hm Lm where
 Qp:=yH
 Zy:=yH
 Wa:=yH
 Qc:=yH
 all:=yH
 not:=yH
theorem Anv:Hm Jr where
 Qp:=yH
 Zy:=yH
 Wa:=yH
 Qc:=yH
 all:=yH
 not:=yH
def F8:Nat:=4607182418800017408
def Nd:Ex:=.node ⟨9,0,Cq,0⟩ []
def Xc:Ex:=.node ⟨8,F8,⟨#[]⟩,0⟩ []
def Sv:Ex:=.node ⟨2,0,⟨#[]⟩,0⟩ [Nd,Xc]
theorem Qk:F4 Nd:=F4.node.2 ⟨.var _ rfl rfl Xd rfl,yF⟩
theorem Ago:F4 Xc:=F4.node.2 ⟨.num _ rfl yH yG rfl rfl,yF⟩
theorem Wm:F4 Sv:=F4.node.2 ⟨.two _ _ _ yH yH ⟨rfl,rfl,rfl⟩,by
 simp only[Zbc,Zbe,Zic];rintro x (rfl | rfl)
 ·exact Qk
 ·exact Ago⟩
def ltP:Dl:=⟨1,⟨#[60]⟩,0,Dd⟩
def Ab5:Dl:=⟨3,⟨#[]⟩,1,Dd⟩
def gtP:Dl:=⟨1,⟨#[62]⟩,0,Dd⟩
def Ahj:Dl:=⟨4,⟨#[]⟩,0,Nd⟩
def Nv:Dv:=⟨1,⟨#[]⟩,[ltP,Ab5,gtP],Dd⟩
def Abf:Dv:=⟨3,Cq,[],Sv⟩
def Nt:Dv:=⟨1,⟨#[]⟩,[Ahj],Dd⟩
def G9:A7:=⟨1,false,false,Rn,⟨#[]⟩,0,[Nv,Abf],Lm,0⟩
def Ta:A7:=⟨2,false,false,Jn,⟨#[122,122]⟩,0,[],Jr,0⟩
def Ig:A7:=⟨4,false,false,Jn,⟨#[]⟩,2,[Nt],Jr,0⟩
def Z0:A7:=⟨3,false,false,Jn,⟨#[]⟩,0,[],⟨#[]⟩,3⟩
def S9:A7:=⟨1,false,true,qR,⟨#[]⟩,0,[],⟨#[]⟩,0⟩
def Db:Bc:=⟨Lm,[G9,Ta,Ig,Z0]⟩
def G3:Bc:=⟨Jr,[S9]⟩
def Mb:List Bc:=[Db,G3]
def A9:Ap:=⟨4,[⟨Cq,true,⟨#[]⟩,0⟩],Mb⟩
end
section
open Tryz Go.RowKit Go.Shelf
theorem Abg:Fp A9.An Cq=some true:=by simp[Fp,A9,Zdv,Zcp]
theorem Alk:L1 A9 Nd:=by
 intro x A;simp only[S6,Nd,Tree.pre,Tree.Dw,Tree.Ak,Zdu,List.filter_nil,Zbi,Zeu]at A;simp at A;subst A;exact Abg
theorem All:L1 A9 Sv:=by
 intro x A;simp only[S6,Sv,Nd,Xc,Tree.pre,Tree.Dw,Tree.Ak,Zdu,List.filter_nil,Zbi,Zeu,Zdk,Zas,Zau]at A;simp at A;subst A;exact Abg
theorem Ae1:Er A9 Lm=some 0:=by simp[Er,A9,Mb,Db,Zdv]
theorem W4:Er A9 Jr=some 1:=by simp[Er,A9,Mb,Db,G3,Lm,Jr,Zdv,Zcp]
theorem Wh:(⟨#[]⟩:ByteArray).toList=[]:=by rw[Zcp]
theorem M4 (b:UInt8):¬(⟨#[b]⟩:ByteArray).toList=[]:=by rw[Zcp];simp
theorem Km {r:A7} {a:Dv} (h:(r=G9/\a=Nv)\/(r=Ig/\a=Nt)):∀i p,a.Ay[i]? =some p->H9 A9 r a.Ay i p:=by
 intro i p hp;rcases h with⟨rfl,rfl⟩ | ⟨rfl,rfl⟩
 ·have D:i<3:=(Zeg.1 hp).1
  rcases(show i=0\/i=1\/i=2 from yE)with rfl | rfl | rfl<;>injection hp with hp<;>subst hp
  ·exact⟨.inl ⟨rfl,yH,yH,rfl,rfl⟩,fun j q h=>yE⟩
  ·exact⟨.inr (.inr (.inl ⟨rfl,rfl,yH,yH,yH,rfl⟩)),fun j q h A=>by simp[Ab5]⟩
  refine⟨.inl ⟨rfl,yH,yH,rfl,rfl⟩,fun j q h A=>?_⟩;obtain rfl:j=1:=yE;injection A with A;subst A;simp[Ab5]
 have D:i<1:=(Zeg.1 hp).1;obtain rfl:i=0:=yE;injection hp with hp;subst hp;exact⟨.inr (.inr (.inr ⟨rfl,rfl,rfl,Qk,Alk,yH⟩)),fun j q h=>yE⟩
theorem F7:Acn A9 where
 small:=by
  exact⟨yH,yH,yH⟩
 at_:=by
  have e:Ca A9=[top,⟨(0:Nat),-1,-1,-1,-1⟩,⟨-1,(0:Nat),-1,-1,-1⟩,⟨-1,(0:Nat),(0:Nat),-1,-1⟩,⟨-1,(0:Nat),(0:Nat),(0:Nat),-1⟩,⟨-1,(0:Nat),(0:Nat),(0:Nat),(0:Nat)⟩,⟨-1,(0:Nat),(0:Nat),(0:Nat),(1:Nat)⟩,⟨-1,(0:Nat),(0:Nat),(0:Nat),(2:Nat)⟩,
   ⟨-1,(0:Nat),(0:Nat),(1:Nat),-1⟩,⟨-1,(0:Nat),(1:Nat),-1,-1⟩,⟨-1,(0:Nat),(2:Nat),-1,-1⟩,⟨-1,(0:Nat),(2:Nat),(0:Nat),-1⟩,⟨-1,(0:Nat),(2:Nat),(0:Nat),(0:Nat)⟩,⟨-1,(0:Nat),(3:Nat),-1,-1⟩,⟨-1,(1:Nat),-1,-1,-1⟩,⟨-1,(1:Nat),(0:Nat),-1,-1⟩]:=yI
  rw[e];have D:=Km (r:=G9) (a:=Nv) (.inl ⟨rfl,rfl⟩);have F:=Km (r:=Ig) (a:=Nt) (.inr ⟨rfl,rfl⟩);have hA:∀r a,(r=G9/\a=Nv)\/(r=Ig/\a=Nt)->Tj A9 r a:=by
   rintro r a (⟨rfl,rfl⟩ | ⟨rfl,rfl⟩)<;>exact⟨.inl rfl,fun _=>rfl,fun _=>rfl,fun e=>absurd e yH,yH,fun e=>absurd e yH,fun e=>absurd e yH⟩
  have G:Tj A9 G9 Abf:=⟨.inr (.inr rfl),fun e=>absurd e yH,fun e=>absurd rfl e,fun _=>⟨rfl,Wm,All,yH⟩,yH,fun e=>absurd e yH,fun _=>Abg⟩;simp only[Zed];refine⟨.whole ⟨yH,yH,yH,yH,yH⟩,.var 0 _ rfl ⟨Xd,⟨yH,yG,rfl⟩,fun j x h=>yE⟩,.state 0 _ rfl ⟨Anw,yH,fun j x h=>yE⟩,?_,.act 0 0 0 _ _ _ rfl rfl rfl (hA _ _ (.inl ⟨rfl,rfl⟩)),.part 0 0 0 0 _ _ _ _ rfl rfl rfl rfl (D 0 _ rfl),.part 0 0 0 1 _ _ _ _ rfl rfl rfl rfl (D 1 _ rfl),.part 0 0 0 2 _ _ _ _ rfl rfl rfl rfl (D 2 _ rfl),
   .act 0 0 1 _ _ _ rfl rfl rfl G,?_,?_,.act 0 2 0 _ _ _ rfl rfl rfl (hA _ _ (.inr ⟨rfl,rfl⟩)),.part 0 2 0 0 _ _ _ _ rfl rfl rfl rfl (F 0 _ rfl),?_,?_,?_,yF⟩
  ·refine .Me 0 0 _ _ rfl rfl ⟨.inl ⟨rfl,rfl,rfl⟩,yH,fun _=>Z7,fun _=>yH,?_⟩
   rw[if_neg (show ¬G9.A3.toList=[]from M4 97)];exact⟨by rw[show G9.A3=Lm from rfl,Ae1];rfl,rfl⟩
  ·refine .Me 0 1 _ _ rfl rfl ⟨.inr (.inl ⟨rfl,rfl,rfl,rfl,rfl,yH,yH⟩),yH,fun e=>absurd e yH,fun e=>absurd e yH,?_⟩
   rw[if_neg (show ¬Ta.A3.toList=[]from M4 98)];exact⟨by rw[show Ta.A3=Jr from rfl,W4];rfl,rfl⟩
  ·refine .Me 0 2 _ _ rfl rfl ⟨.inr (.inr (.inr ⟨rfl,rfl,rfl,rfl,rfl,yH,yH⟩)),yH,fun e=>absurd e yH,fun e=>absurd e yH,?_⟩
   rw[if_neg (show ¬Ig.A3.toList=[]from M4 98)];exact⟨by rw[show Ig.A3=Jr from rfl,W4];rfl,rfl⟩
  ·refine .Me 0 3 _ _ rfl rfl ⟨.inr (.inr (.inl ⟨rfl,rfl,rfl,rfl,rfl,rfl⟩)),yH,fun e=>absurd e yH,fun e=>absurd e yH,?_⟩
   rw[if_pos (show Z0.A3.toList=[]from Wh)];exact⟨yH,yH⟩
  ·refine .state 1 _ rfl ⟨Anv,yH,fun j x h A=>?_⟩
   obtain rfl:j=0:=yE;injection A with A;subst A;simp[Db,G3,Lm,Jr,Zcp]
  refine .Me 1 0 _ _ rfl rfl ⟨.inl ⟨rfl,rfl,rfl⟩,yH,fun _=>Ae5,fun _=>yH,?_⟩;rw[if_pos (show S9.A3.toList=[]from Wh)];exact⟨yH,yH⟩
theorem Zo:Kj A9:=⟨yH,yH,yH⟩
end
end Go.Proofs.YtafmoofknjncpaaGreatDoor
