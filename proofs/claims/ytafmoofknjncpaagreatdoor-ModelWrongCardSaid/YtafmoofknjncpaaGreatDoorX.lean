/- A part of the proof that ModelWrong holds: its theorems stand as they are typed. -/
import Derived.Test.YtafmoofknjncpaaGreatDoorV
import Derived.Test.YtafmoofknjncpaaGreatDoorW
set_option linter.all false
set_option maxRecDepth 100000
set_option maxHeartbeats 8000000
namespace Go.Proofs.YtafmoofknjncpaaGreatDoor
section
open Tryz Go.RowKit Go.Shelf
theorem Gc {fn:Func} {p q:Tmp} {ty:TypeId} (h:fn.results=#[.cell p ty,.tmp q]) (tmps:Array Value) (w:zN) (b o:Nat) (cs:zP) (v:Value) (hp:tmps.getD p undef=.pointer (some ⟨b,o,none⟩)) (A:tmps.getD q undef=v) (G:w.rangeAt b o cs)
  (D:(prog.underlying ty).map (·.isRow)=some true) (F:(prog.info? ty).map (·.size)=some cs.length):
  (results fn tmps).run prog w=.ok (.tuple #[.agg cs.toArray,v]) w:=by
 obtain⟨d,hu,H⟩:∃d,prog.underlying ty=some d/\d.isRow=true:=by
  cases A:prog.underlying ty with
  | none=>rw[A]at D;cases D
  | some d=>rw[A]at D;exact⟨d,rfl,by simpa using D⟩
 rw[Zbv]at hp A
 simp only[results,h]
 simp[Zgv,Result.andThen,hp,A,asAddr,Zif w b o ty cs d G hu H F]
def Mk (D:zP) (w:zN):Prop:=∀X,Below w w X->Calls prog 30 #[.agg D.toArray] X fun e A=>e=.returned (.bool false)/\Below X X A
def Lz (D:zP) (w:zN):Prop:=∀X,Below w w X->Calls prog 30 #[.agg D.toArray] X fun e A=>e=.returned (.bool true)/\Below X X A
def N7 (D:Value) (w:zN):Prop:=∀X,Below w w X->Calls prog 10 #[D] X fun e A=>∃i:Int,e=.returned (.tuple #[i,.int .i64 320])/\Below X X A
theorem Mk.mono {A:zP} {w w':zN} (h:Mk A w) (g:Below w w w'):Mk A w':=fun X D=>h X (g.trans (D.mono g.size))
theorem Lz.mono {A:zP} {w w':zN} (h:Lz A w) (g:Below w w w'):Lz A w':=fun X D=>h X (g.trans (D.mono g.size))
theorem N7.mono {A:Value} {w w':zN} (h:N7 A w) (g:Below w w w'):N7 A w':=fun X D=>h X (g.trans (D.mono g.size))
theorem To (b:Int) (bn bq:zO) (e4 br o4 bb:Nat) (T:Value) (w:zN) (h:Mk [b,.slice bn e4 br,.slice bq o4 bb] w):
  Calls prog 8 #[.agg #[b,.slice bn e4 br,.slice bq o4 bb],T] w fun e w'=>e=.returned (.tuple #[.agg Gf.toArray,.int .i64 360])/\Below w w w':=by
 refine Z2E ?_
 intro ad dj az bl af ao a1 d0 d1 d2 hC c3 ly ho
 clear dj hC a1 az bl h
 simp only[Gf]at ly ho|-
 go_enter func8,ntmps8
 go_upto_region 1 with fail
 have dj:=ly.out
 rw[dj]
 clear dj ly
 go_wp2_with fail
 refine Z0P ?_
 rintro e A ⟨rfl,G⟩
 have M:=(G.block (w+1) yE).trans ho.out
 have J:=Dp M
 have H:=Zaa J
 clear J M
 go_wp2_with (refine Zil rfl 62 _ _ rfl _ _ _ rfl rfl H.out yG yL ?_)
 have O:=Ao A (w+1) zW 0
 have F:=Zar A (w+1) 0 zW H.out
 generalize A.setCells (w+1) 0 [.slice none 0 0,.int .u8 0,.int .i64 0,.string ⟨#[]⟩,.string ⟨#[]⟩,.int .i64 0,.int .i64 0,.slice none 0 0]=U at O F|-
 have D:=af.trans (G.mono yE)
 exact Zho (Gc rfl _ _ (w+1) 0 zW (.int .i64 360) rfl rfl F yG yG) rfl ⟨rfl,D.grown O D.size (fun r e=>yM)⟩
theorem Mm (b:Int) (bn bq:zO) (e4 br o4 bb:Nat) (O:Value) (w:zN) (h:Lz [b,.slice bn e4 br,.slice bq o4 bb] w) (Y:N7 O w):
  Calls prog 8 #[.agg #[b,.slice bn e4 br,.slice bq o4 bb],O] w fun e w'=>e=.returned (.tuple #[.agg Gf.toArray,.int .i64 320])/\Below w w w':=by
 refine Z2E ?_
 intro ad dj az bl af ao a1 d0 d1 d2 hC c3 ly ho
 clear dj hC a1 az bl h
 simp only[Gf]at ly ho|-
 go_enter func8,ntmps8
 go_upto_region 1 with fail
 have dj:=ly.out
 rw[dj]
 clear dj ly
 go_wp2_with fail
 refine Z0P ?_
 rintro e A ⟨rfl,D⟩
 go_wp2_with fail
 refine(Y A (af.trans (D.mono yE))).mono ?_
 rintro e W ⟨i,rfl,H⟩
 have J:=D.trans (H.mono D.size)
 clear D H
 have D:=J
 clear J
 obtain⟨A,e⟩:∃A,A=W:=⟨_,rfl⟩
 subst e
 have U:=(D.block (w+1) yE).trans ho.out
 have T:=Dp U
 have M:=Zaa T
 clear T U
 go_wp2_with (refine Zil rfl 62 _ _ rfl _ _ _ rfl rfl M.out yG yL ?_)
 have V:=Ao A (w+1) zW 0
 have G:=Zar A (w+1) 0 zW M.out
 generalize A.setCells (w+1) 0 [.slice none 0 0,.int .u8 0,.int .i64 0,.string ⟨#[]⟩,.string ⟨#[]⟩,.int .i64 0,.int .i64 0,.slice none 0 0]=a0 at V G|-
 have F:=af.trans (D.mono yE)
 exact Zho (Gc rfl _ _ (w+1) 0 zW (.int .i64 320) rfl rfl G yG yG) rfl ⟨rfl,F.grown V F.size (fun r e=>yM)⟩
def Aqz (D:zP) (F:Value) (err:Int) (w:zN):Prop:=∀X,Below w w X->Calls prog 8 #[.agg D.toArray,F] X fun e A=>e=.returned (.tuple #[.agg Gf.toArray,err])/\Below X X A
def Ack (D:zP) (F:Value) (err:Int) (w:zN):Prop:=∀X,Below w w X->Calls prog 9 #[.agg D.toArray,F] X fun e A=>e=.returned (.tuple #[.agg G8.toArray,err])/\Below X X A
theorem K9 (b:Int) (J M:zO) (T O U G:Nat) (a6:Value) (err:Int) (w:zN) (h:Aqz [b,.slice J T O,.slice M U G] a6 err w):
  Calls prog 9 #[.agg #[b,.slice J T O,.slice M U G],a6] w fun e w'=>e=.returned (.tuple #[.agg G8.toArray,err])/\Below w w w':=by
 obtain⟨A,dj⟩:=zL ((w.alloc (.cells #[b,.slice J T O,.slice M U G] 30)).alloc (.cells G8.toArray 60))
 have a2:A.heap[w.heap.size]? =some (.cells #[b,.slice J T O,.slice M U G] 30 (0,0)):=sJ
 have a3:A.heap[w.heap.size+1]? =some (.cells G8.toArray 60 (0,0)):=sN
 have a0:Below w w A:=tY
 have ag:w.heap.size+2<=A:=by rw[<-dj];simp
 have a1:=A4 a2
 refine Z2Z ?_
 intro d0 d1 d2
 simp only[Zac]at d0 d1 d2
 have hC:=h A a0
 simp only[Gf]at hC
 have c3:=Zaa hC
 have W:=Zaa dj
 have a8:=Zaa a3
 clear dj hC a1 a2 a3 h
 simp only[G8]at W a8|-
 go_enter func9,ntmps9
 go_upto_region 1 with fail
 have dj:=W.out
 rw[dj]
 clear dj W
 go_wp2_with fail
 refine Z0P ?_
 rintro e F ⟨rfl,al⟩
 have aa:=(al.block (w+1) yE).trans a8.out
 have af:=Zaa aa
 clear aa
 go_upto_region 2 with fail
 obtain⟨D,V⟩:=zL (F.alloc (.cells yA 62))
 rw[V]
 have a5:Below F F D:=by rw[<-V];exact Af _
 have H:D.rangeAt F 0 zW:=by rw[<-V];exact Ae _ _ _
 clear V
 have ac:=H 0 _ rfl
 have ad:=H 1 _ rfl
 have ae:=H 2 _ rfl
 simp only[Zac]at ac ad ae
 have a7:=Dp ((a5.block (w+1) wW).trans af.out)
 have a4:=Zaa a7
 clear a7 H d0 d1 d2
 go_wp2_with (refine Zil rfl 60 _ _ rfl _ _ _ rfl rfl a4.out yG yL ?_)
 have ab:=Ao D (w+1) [zH,zJ,zE] 0
 have Y:=Zar D (w+1) 0 [zH,zJ,zE] a4.out
 generalize D.setCells (w+1) 0 [.slice none 0 0,.int .u8 0,.int .i64 0]=ah at ab Y|-
 have a9:=(a0.trans (al.mono yE)).trans (a5.mono wW)
 exact Zho (Gc rfl _ _ (w+1) 0 [zH,zJ,zE] (.int .i64 err) rfl rfl Y yG yG) rfl ⟨rfl,a9.grown ab a9.size (fun r e=>yM)⟩
end
section
open Tryz Go.RowKit Go.Shelf
theorem Pv (w:zN) (A B:zP):∃D,(w.alloc (.cells A.toArray 30)).alloc (.cells B.toArray 30)=D/\D.rangeAt w 0 A/\D.rangeAt (w+1) 0 B/\Below w w D/\w.heap.size+2<=D.heap.size:=by
 have h:=Hh w A B 30 30;exact⟨_,rfl,h.1,h.2.1,h.2.2.1,yE⟩
theorem Aex (b:Int) (bn bq:zO) (e4 br o4 bb:Nat) (b':Int) (vv tv:zO) (wz vx wy sy:Nat) (F:Value) (w:zN) (h:Mk [b,.slice bn e4 br,.slice bq o4 bb] w):
  Calls prog 11 #[.agg #[b,.slice bn e4 br,.slice bq o4 bb],.agg #[b',.slice vv wz vx,.slice tv wy sy],F] w fun e w'=>e=.returned (.tuple #[zA,.int .i64 360])/\Below w w w':=by
 refine Z2O ?_
 intro ad dj hA dx af ao d0 d1 d2 hC c3
 have A:=Zaa dj
 clear dj hC hA dx h
 go_enter func11,ntmps11
 go_upto_region 1 with fail
 have dj:=A.out
 rw[dj]
 clear dj A
 go_wp2_with fail
 refine Z0P ?_
 rintro e G ⟨rfl,D⟩
 go_wp2_with fail
 go_ret2
 exact⟨rfl,af.trans (D.mono yE)⟩
theorem Acg (b:Int) (bn bq:zO) (e4 br o4 bb:Nat) (b':Int) (vv tv:zO) (wz vx wy sy:Nat) (O:Value) (w:zN) (h:Lz [b,.slice bn e4 br,.slice bq o4 bb] w) (T:Mk [b',.slice vv wz vx,.slice tv wy sy] w):
  Calls prog 11 #[.agg #[b,.slice bn e4 br,.slice bq o4 bb],.agg #[b',.slice vv wz vx,.slice tv wy sy],O] w fun e w'=>e=.returned (.tuple #[zA,.int .i64 360])/\Below w w w':=by
 refine Z2O ?_
 intro ad dj hA dx af ao d0 d1 d2 hC c3
 have J:=Zaa dx
 have G:=Zaa dj
 clear dj hC hA dx h
 go_enter func11,ntmps11
 go_upto_region 1 with fail
 have dj:=G.out
 rw[dj]
 clear dj G
 go_wp2_with fail
 refine Z0P ?_
 rintro e H ⟨rfl,F⟩
 have A:=Aa J.out F yE
 have f0:=A 0 _ rfl
 have f1:=A 1 _ rfl
 have f2:=A 2 _ rfl
 simp only[Zac]at f0 f1 f2
 have D:=af.trans (F.mono yE)
 clear A
 go_wp2_with fail
 refine(T H D).mono ?_
 rintro e U ⟨rfl,M⟩
 go_wp2_with fail
 go_ret2
 exact⟨rfl,D.trans (M.mono D.size)⟩
theorem Ahm (b:Int) (bn bq:zO) (e4 br o4 bb:Nat) (b':Int) (vv tv:zO) (wz vx wy sy:Nat) (O:Value) (w:zN) (h:Lz [b,.slice bn e4 br,.slice bq o4 bb] w) (ac:Lz [b',.slice vv wz vx,.slice tv wy sy] w) (a6:Ack [b,.slice bn e4 br,.slice bq o4 bb] O 320 w) (ag:Ack [b',.slice vv wz vx,.slice tv wy sy] O 320 w):
  Calls prog 11 #[.agg #[b,.slice bn e4 br,.slice bq o4 bb],.agg #[b',.slice vv wz vx,.slice tv wy sy],O] w fun e w'=>e=.returned (.tuple #[zA,.int .i64 320])/\Below w w w':=by
 refine Z2O ?_
 intro ad dj hA dx af ao d0 d1 d2 hC c3
 have ah:=Zaa hA
 have W:=Zaa dx
 have a2:=Zaa dj
 clear dj hC hA dx h
 go_enter func11,ntmps11
 go_upto_region 1 with fail
 have dj:=a2.out
 rw[dj]
 clear dj a2
 go_wp2_with fail
 refine Z0P ?_
 rintro e a4 ⟨rfl,D⟩
 have F:=Aa W.out D yE
 have f0:=F 0 _ rfl
 have f1:=F 1 _ rfl
 have f2:=F 2 _ rfl
 simp only[Zac]at f0 f1 f2
 have a3:=af.trans (D.mono yE)
 clear F d0 d1 d2
 go_wp2_with fail
 refine(ac a4 a3).mono ?_
 rintro e a5 ⟨rfl,aa⟩
 have A:=D.trans (aa.mono D.size)
 have ae:=af.trans (A.mono yE)
 have hA4:=Aa ah.out A yE
 have d0:=hA4 0 _ rfl
 have d1:=hA4 1 _ rfl
 have d2:=hA4 2 _ rfl
 simp only[Zac]at d0 d1 d2
 have J:=a6 a5 ae
 simp only[G8]at J
 have a9:=Zaa J
 clear hA4 J f0 f1 f2
 go_wp2_with fail
 refine a9.out.mono ?_
 rintro e H ⟨rfl,Y⟩
 go_upto_region 4 with fail
 obtain⟨V,U⟩:=zL (H.alloc (.cells #[zH,zJ,zE] 60))
 rw[U]
 have a7:Below H H V:=by rw[<-U];exact Af _
 clear U
 have a1:=A.trans ((Y.mono A.size).trans (a7.mono (by have:=A.size;have:=Y.size;omega)))
 have M:=af.trans (a1.mono yE)
 have G:=Aa W.out a1 yE
 have f0:=G 0 _ rfl
 have f1:=G 1 _ rfl
 have f2:=G 2 _ rfl
 simp only[Zac]at f0 f1 f2
 have T:=ag V M
 simp only[G8]at T
 have a8:=Zaa T
 clear G T d0 d1 d2
 go_wp2_with fail
 refine a8.out.mono ?_
 rintro e ai ⟨rfl,ab⟩
 have a0:=M.trans (ab.mono M.size)
 go_wp2_with fail
 go_ret2
 exact⟨rfl,a0.trans ((Af _).mono a0.size)⟩
end
section
open Tryz Go.RowKit Go.Shelf
theorem Ad7 (p:Nat->Bool) (n:Nat):p n=false->∃K,K<=n/\p K=false/\∀j,j<K->p j=true:=by
 induction n using Nat.strongRecOn with
 | ind n G=>
  intro h;by_cases A:∃k,k<n/\p k=false
  ·obtain⟨k,D,hp⟩:=A
   obtain⟨K,h1,h2,h3⟩:=G k D hp;exact⟨K,yE,h2,h3⟩
  refine⟨n,Zab _,h,fun j F=>?_⟩;cases U:p j with
  | true=>rfl
  | false=>exact absurd ⟨j,F,U⟩ A
theorem Ac3 (es:List Ct) (z:Ct):Q6 (es++[⟨3,0⟩,⟨3,0⟩,z]) (es+1)=false:=by
 have A:es.length+1< (es++[⟨3,0⟩,⟨3,0⟩,z]).length:=yF;rw[Afb A];have h1:(es++[⟨3,0⟩,⟨3,0⟩,z])[es.length+1]=⟨3,0⟩:=by
  rw[Zbn yE];simp[show es.length+1 - es=1 from yE]
 have h2:J8 (es++[⟨3,0⟩,⟨3,0⟩,z]) (es+1)=true:=by
  rw[Ty yF];have h3:(es++[⟨3,0⟩,⟨3,0⟩,z])[es.length]'yF=⟨3,0⟩:=by
   rw[Zbn yE];simp
  rw[h3];simp
 rw[h1,h2];decide
theorem Qz (es:List Ct) (z:Ct) (a:zO) (cap:Nat) (w:zN) (n:Nat) (D:n<=w) (hlen:es.length<=100) (G:Bs w n 2 a ((es++[⟨3,0⟩,⟨3,0⟩,z]).map Ct.cells)):
  N7 (.slice a (es++[⟨3,0⟩,⟨3,0⟩,z]).length cap) w:=by
 intro X F
 obtain⟨K,h1,h2,h3⟩:=Ad7 (Q6 (es++[⟨3,0⟩,⟨3,0⟩,z])) _ (Ac3 es z)
 have A:(es++[⟨3,0⟩,⟨3,0⟩,z]).length=es.length+3:=yF
 refine(Tn _ a cap X n (Zag D F.size) (by rw[A];omega) (G.below (F.mono D) (Zab _)) K (by rw[A];omega) h3 (fun _=>h2) K 320 (by rw[if_pos (by rw[A];omega)];exact⟨rfl,rfl⟩)).mono ?_
 rintro e w' ⟨rfl,U⟩
 exact⟨K,rfl,U⟩
end
end Go.Proofs.YtafmoofknjncpaaGreatDoor
