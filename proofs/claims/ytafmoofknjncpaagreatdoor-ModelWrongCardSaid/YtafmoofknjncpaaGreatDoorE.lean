/- A part of the proof that ModelWrong holds: its theorems stand as they are typed. -/
import Derived.Shelf.Strings.SlTrimAscii
import Derived.Test.YtafmoofknjncpaaGreatDoorD
set_option linter.all false
set_option maxRecDepth 100000
set_option maxHeartbeats 8000000
namespace Go.Proofs
open Go.Proofs.YtafmoofknjncpaaGreatDoor Tryz
open Go.Shelf
def Ady:Go.Shelf.Ren:=⟨fun | 160=>123 | 232=>152 | 231=>151 | 227=>153 | 234=>155 | 233=>154 | 236=>157 | 235=>156 | 228=>197 | 271=>200 | 151=>199 | 197=>198 | 120=>233 | 152=>232 | 260=>231 | 137=>255 | 119=>256 | 224=>257 | 225=>258 | 217=>284 | 266=>302 | n=>n,fun | 9=>9 | 4=>4 | 3=>3 | 5=>5 | 117=>261 | 116=>260 | 0=>0 | 124=>264 | 21=>21 | 105=>297 | 46=>337 | 119=>355 | 139=>358 | 138=>357 | n=>n,fun | 3=>1 | 4=>2 | n=>n⟩
theorem Anz:Go.Proofs.Lays.n160 prog Ady:={
 mixed:=yG
 f119:=func256.trans (Zhr some yG)
 f120:=func233.trans (Zhr some yG)
 f137:=func255.trans (Zhr some yG)
 f151:=func199.trans (Zhr some yG)
 f152:=func232.trans (Zhr some yG)
 f160:=func123.trans (Zhr some yG)
 f197:=func198.trans (Zhr some yG)
 f217:=func284.trans (Zhr some yG)
 f224:=func257.trans (Zhr some yG)
 f225:=func258.trans (Zhr some yG)
 f227:=func153.trans (Zhr some yG)
 f228:=func197.trans (Zhr some yG)
 f231:=func151.trans (Zhr some yG)
 f232:=func152.trans (Zhr some yG)
 f233:=func154.trans (Zhr some yG)
 f234:=func155.trans (Zhr some yG)
 f235:=func156.trans (Zhr some yG)
 f236:=func157.trans (Zhr some yG)
 f260:=func231.trans (Zhr some yG)
 f266:=func302.trans (Zhr some yG)
 f271:=func200.trans (Zhr some yG)
 t0:=underlying0
 a0:=isAgg0
 z0:=sizeOf0
 v0:=zeroValue0
 t3:=underlying3
 a3:=isAgg3
 z3:=sizeOf3
 v3:=zeroValue3
 t4:=underlying4
 a4:=isAgg4
 z4:=sizeOf4
 v4:=zeroValue4
 t5:=underlying5
 a5:=isAgg5
 z5:=sizeOf5
 v5:=zeroValue5
 t9:=underlying9
 a9:=isAgg9
 z9:=sizeOf9
 v9:=zeroValue9
 t21:=underlying21
 a21:=isAgg21
 z21:=sizeOf21
 v21:=zeroValue21
 t46:=underlying337
 a46:=isAgg337
 z46:=sizeOf337
 v46:=zeroValue337
 t105:=underlying297
 a105:=isAgg297
 z105:=sizeOf297
 v105:=zeroValue297
 t116:=underlying260
 a116:=isAgg260
 z116:=sizeOf260
 t117:=underlying261
 a117:=isAgg261
 z117:=sizeOf261
 v117:=zeroValue261
 t119:=underlying355
 a119:=isAgg355
 z119:=sizeOf355
 t124:=underlying264
 a124:=isAgg264
 z124:=sizeOf264
 v124:=zeroValue264
 t138:=underlying357
 a138:=isAgg357
 z138:=sizeOf357
 v138:=zeroValue357
 t139:=underlying358
 a139:=isAgg358
 z139:=sizeOf358
 v139:=zeroValue358
 g3:=yG
 g4:=yG}
end Go.Proofs
namespace Go.Proofs.YtafmoofknjncpaaGreatDoor
section
open Tryz Go.RowKit Go.Shelf
def I1:List UInt8:=[97,98,99,100,101,102,103,104,105,106,107,108,109,110,111,112,113,114,115,116,117,118,119,120,121,122,48,49,50,51,52,53,54,55,56,57,95]
structure Hm (s:zS):Prop where
 Qp:0<s.size
 Zy:s.size<=16
 Wa:97<=(s[0]'Qp).toNat
 Qc:(s[0]'Qp).toNat<=122
 all:∀b∈s.data.toList,I1.contains b=true
 not:[109,105,110]≠s.data.toList/\[109,97,120]≠s.data.toList/\[110,117,109]≠s.data.toList
theorem Ahx (s:zS) (w:zN) (M:s.size<=16) (h:∀b∈s.data.toList,I1.contains b=true):
  Calls prog 123 #[s,.string ⟨I1.toArray⟩] w fun e w'=>e=.returned (.string ByteArray.empty)/\Below w w w':=by
 have D:=Any.strings_Trim_laid Anz yG s ⟨I1.toArray⟩ w yE yH (ascii_of_all yH)
 have J:Lib.trimS s.data.toList I1=[]:=by
  have h1:Lib.trimRightS s.data.toList I1=[]:=by
   unfold Lib.trimRightS;rw[List.reverse_eq_nil_iff];have G:∀l:List UInt8,(∀b∈l,I1.contains b=true)->l.dropWhile (I1.contains ·)=[]:=by
    intro l
    induction l with
    | nil=>intro _;rfl
    | cons x xs H=>
     intro A;simp only[List.dropWhile_cons];rw[if_pos (A x yF)];exact H (fun b U=>A b (by simp[U]))
   exact G _ fun x A=>h x (by simpa using A)
  unfold Lib.trimS;rw[h1];rfl
 have F:(⟨I1.toArray⟩:ByteArray).data.toList=I1:=rfl
 rw[F,J]at D
 exact D
theorem Jt (s:zS) (w:zN) (h:Hm s):
  Calls prog 89 #[s] w fun e w'=>e=.returned (.bool true)/\Below w w w':=by
 have h0:=h.Qp
 have h1:=h.Zy
 have g0:=h.Wa
 have g1:=h.Qc
 have a5:s.toList.isEmpty=false:=by
  rw[Zcp];have D:s.data.toList.length=s.size:=by rw[Zbz];rfl
  cases M:s.data.toList with
  | nil=>rw[M]at D;simp at D;omega
  | cons x xs=>rfl
 have a3:decide (16< (s.size:Int))=false:=Zhs yE
 have a2:decide (((s[0]'h0).toNat:Int) <97)=false:=Zhs yE
 have a6:decide (122< ((s[0]'h0).toNat:Int))=false:=Zhs yE
 have F:(([⟨#[109,105,110]⟩,⟨#[109,97,120]⟩,⟨#[110,117,109]⟩]:List ByteArray).any fun x=>s.toList==x.toList)=false:=by
  obtain⟨U,W,V⟩:=h.not;simp only[List.any_cons,Zdi,Zcm,Bool.or_eq_false_iff,Zaz,Zcp];exact⟨fun e=>U (by rw[e]),fun e=>W (by rw[e]),fun e=>V (by rw[e])⟩
 have T:=Zaa F
 have O:=Zaa h.all
 have a4:(97:Int)<=((s[0]'h0).toNat:Int):=yE
 have a1:((s[0]'h0).toNat:Int)<=122:=yE
 clear F g0 g1 h
 go_enter func89,ntmps89
 go_wp2_with fail
 refine(Sp (some ⟨w,0,none⟩) 3 [⟨#[109,105,110]⟩,⟨#[109,97,120]⟩,⟨#[110,117,109]⟩] s _ (w+1) yF (.inr ⟨w,0,rfl,yE,fun i ae=>?_⟩)).mono ?_
 ·have H:=Ae w [.string ⟨#[109,105,110]⟩,.string ⟨#[109,97,120]⟩,.string ⟨#[110,117,109]⟩] 9
  have G:i<3:=xE;refine⟨fun j v A=>?_,by match i,G with | 0,_ | 1,_ | 2,_=>rfl⟩;simp only[Zbh,Zba]at A|-;cases j with
  | succ j=>simp at A
  | zero=>
   refine H (0+i+0) v ?_ |> fun h=>yV
   match i,G with
   | 0,_ | 1,_ | 2,_=>simpa using A
 rintro e Y ⟨rfl,rfl⟩
 rw[T.out]
 go_wp2_with fail
 refine(Ahx s _ h1 O.out).mono ?_
 rintro e a0 ⟨rfl,J⟩
 go_wp2_with fail
 go_ret
 exact⟨rfl,(Af _).trans (J.mono yF)⟩
end
section
open Tryz Go.RowKit Go.Shelf
def Gr:Nat:=9221120237041090561
def B7 (x:Nat):Nat:=if Gq x then Gr else x
def D1 (x:Nat):Bool:= !Gq x||x==Gr
@[go_sem] theorem Ap7 (z:Int) (w:zN):(callFunc 107 #[.int .u64 z]).run prog w=.ok (.value (.float .f64 z.toNat)) w:=by
 rw[@run_callFunc_extern prog 107 _ Extern.MathFloatBits.float64frombits func107 yG yG yG yG];rfl
@[go_sem] theorem Arw (n:Nat) (w:zN):(callFunc 105 #[.float .f64 n]).run prog w=.ok (.value (.int .u64 n)) w:=by
 rw[@run_callFunc_extern prog 105 _ Extern.MathFloatBits.float64bits func105 yG yG yG yG];rfl
theorem Anu (w:zN):Calls prog 142 #[] w fun e w'=>e=.returned (.float .f64 Gr)/\w=w':=by
 go_enter func142,ntmps142
 go_wp2;exact Z0K
theorem ne_self (x:Nat) (A:x<2^64):(FloatKind.f64.format.order x x != some .eq)=Gq x:=Anj x
theorem eq_self (x:Nat) (A:x<2^64):(FloatKind.f64.format.order x x==some .eq)= !Gq x:=Ank x
theorem Pd (x:Nat) (w:zN) (D:x<2^64):Calls prog 106 #[.float .f64 x] w fun e w'=>e=.returned (.float .f64 (B7 x))/\w=w':=by
 have h:=ne_self x D;unfold B7;cases A:Gq x<;>rw[A]at h<;>clear A
 ·go_enter func106,ntmps106
  go_wp2;exact Z0K
 go_enter func106,ntmps106
 go_wp2_with (go_at_call 142;refine(Anu _).mono ?_;rintro e w' ⟨rfl,rfl⟩)
 exact Z0K
theorem Aal (x y:Nat) (w:zN) (A:x<2^64) (hy:y<2^64):
  Calls prog 73 #[.float .f64 x,.float .f64 y] w fun e w'=>e=.returned (.bool (B7 x==B7 y))/\w=w':=by
 go_enter func73,ntmps73
 go_wp2_with (go_at_call 106;refine(Pd _ _ (by assumption)).mono ?_;rintro e w' ⟨rfl,rfl⟩)
 go_ret
 refine⟨?_,rfl⟩
 show Ending.returned (Value.bool ((B7 x:Int)==(B7 y:Int)))=_
 rw[show(((B7 x:Int)==(B7 y:Int)))=(B7 x==B7 y)by rw[Zch];simp only[Zhn];omega]
theorem Y3 (x:Nat) (w:zN) (F:x<2^64) (A:D1 x=true):
  Calls prog 125 #[.float .f64 x] w fun e w'=>e=.returned (.bool true)/\w=w':=by
 have h:=eq_self x F
 unfold D1 at A
 cases D:Gq x with
 | false=>
  rw[D]at h;have G:(FloatKind.f64.format.order x x==some .eq)=true:=h;clear h A D;go_enter func125,ntmps125
  go_wp2;go_ret;exact⟨rfl,rfl⟩
 | true=>
  rw[D]at A;obtain rfl:x=Gr:=by simpa using A
  have G:(FloatKind.f64.format.order Gr Gr==some .eq)=false:=by rw[h,D];rfl
  have H:((Gr:Nat):Int)=9221120237041090561:=rfl;clear h A D;go_enter func125,ntmps125
  go_wp2;go_ret;exact⟨rfl,rfl⟩
end
section
open Tryz Go.RowKit Go.Shelf
theorem Ch.shape {w:zN} {n:Nat} {t:Ex} {cs:zP} (h:Ch w n t cs):
  ∃(a:zO) (c:Nat),cs=[.int .u8 t.Ak.kind.toNat,.float .f64 t.Ak.num,.string t.Ak.name,.int .i64 t.Ak.cap,.slice a t.Cb c]:=by
 obtain⟨l,s⟩:=t
 obtain⟨a,c,rfl,_⟩:=h.open
 exact⟨a,c,rfl⟩
def Aq3 (k:Nat):Nat:=if k=1 then 1 else if 2<=k/\k<=7 then 2 else 0
def Df.bare (l:Df):Prop:=l.num=0/\l.name=⟨#[]⟩/\l.cap=0
inductive Kl:Df->List Ex->Prop
 | num (l:Df):l.kind=8->l.num<2^64->D1 l.num=true->l.name=⟨#[]⟩->l.cap=0->Kl l []
 | var (l:Df):l.kind=9->l.num=0->Hm l.name->l.cap=0->Kl l []
 | cap (l:Df):l.kind=10->l.num=0->l.name=⟨#[]⟩->0<=l.cap->l.cap<=9->Kl l []
 | neg (l:Df) (x:Ex):l.kind=1->l.bare->x.Ak.kind≠8->Kl l [x]
 | two (l:Df) (x y:Ex):2<=l.kind.toNat->l.kind.toNat<=7->l.bare->Kl l [x,y]
theorem Yg {L:Type} (t:Tree L):t∈t.pre:=by cases t;simp[Tree.pre]
theorem Yn {L:Type} {x:Tree L} {s:List (Tree L)}:x∈Tree.Dw s↔∃y∈s,x∈y.pre:=by
 induction s with
 | nil=>simp[Tree.Dw]
 | cons a s A=>simp[Tree.Dw,A]
theorem R9 {L:Type} {x y:Tree L} {s:List (Tree L)} (h:y∈s) (A:x∈y.pre):x∈Tree.Dw s:=Yn.2 ⟨y,h,A⟩
theorem R4 {L:Type} {x:Tree L} {s:List (Tree L)} (h:x∈Tree.Dw s):∃y∈s,x∈y.pre:=Yn.1 h
def F4 (t:Ex):Prop:=∀x∈t.pre,Kl x.Ak x.Cb
theorem F4.node {l:Df} {s:List Ex}:F4 (.node l s)↔Kl l s/\∀x∈s,F4 x:=by
 constructor
 ·intro h
  refine⟨h _ (Yg _),fun x A y hy=>h y ?_⟩;simp only[Tree.pre,Zbc];exact .inr (R9 A hy)
 rintro⟨h1,h2⟩ y hy;simp only[Tree.pre,Zbc]at hy;rcases hy with rfl | hy
 ·exact h1
 obtain⟨x,A,hy⟩:=R4 hy;exact h2 x A y hy
theorem Hx (k:Nat) (A:k<=10) (w:zN):Calls prog 249 #[.int .u8 k] w fun e w'=>e=.returned (.int .i64 (Aq3 k))/\w'=w:=by
 have h:k=0\/k=1\/k=2\/k=3\/k=4\/k=5\/k=6\/k=7\/k=8\/k=9\/k=10:=yE;rcases h with rfl | rfl | rfl | rfl | rfl | rfl | rfl | rfl | rfl | rfl | rfl<;>
 ·go_enter func249,ntmps249
  go_wp2;exact Z0K
theorem Ma (z:Int) (h:z=2\/z=3\/z=4\/z=5\/z=6\/z=7) (w:zN):Calls prog 249 #[.int .u8 z] w fun e w'=>e=.returned (.int .i64 2)/\w'=w:=by
 rcases h with rfl | rfl | rfl | rfl | rfl | rfl
 ·exact Hx 2 yH w
 ·exact Hx 3 yH w
 ·exact Hx 4 yH w
 ·exact Hx 5 yH w
 ·exact Hx 6 yH w
 exact Hx 7 yH w
theorem Ru (z:Int) (h:z=8\/z=9\/z=10) (w:zN):Calls prog 249 #[.int .u8 z] w fun e w'=>e=.returned (.int .i64 0)/\w'=w:=by
 rcases h with rfl | rfl | rfl
 ·exact Hx 8 yH w
 ·exact Hx 9 yH w
 exact Hx 10 yH w
theorem Akg (w:zN):Calls prog 249 #[.int .u8 1] w fun e w'=>e=.returned (.int .i64 1)/\w'=w:=Hx 1 yH w
theorem below_drewN {B:Nat} {a w:zN} (h:Below B a w) (A:B<=w) (n:Nat):Below B a (w.drewN n):=h.grown (B5 w n none) A (fun k e=>yW)
theorem Hy {w:zN} (o:Obj) (n:Nat):Below w w ((w.alloc o).drewN n):=below_drewN (Af _) yF n
theorem Hc (w:zN):Calls prog 73 #[zD,zD] w fun e w'=>e=.returned (.bool true)/\w'=w:=
 (Aal 0 0 w yH yH).mono fun _ _ ⟨h,A⟩=>⟨by rw[h];rfl,A.symm⟩
theorem Ah3 (x:Nat) (A:x<2^64) (w:zN):Calls prog 73 #[.float .f64 x,zD] w fun e w'=>e=.returned (.bool (B7 x==B7 0))/\w'=w:=
 (Aal x 0 w A yH).mono fun _ _ ⟨h,D⟩=>⟨h,D.symm⟩
theorem Aee (x:Nat) (A:x<2^64) (D:D1 x=true) (a:zO) (c:Nat) (w:zN):
  Calls prog 222 #[.agg #[.int .u8 8,.float .f64 x,zC,zE,.slice a 0 c]] w fun e w'=>e=.returned (.bool true)/\Below w w w':=by
 go_enter func222,ntmps222
 go_wp2_with fail
 go_quiet ((go_at_call 73;exact Zcq (Ah3 x A _)))
 have b7:=Ag (w':=(w.alloc (.cells #[.int .u8 8,.float .f64 x,zC,zE,.slice a 0 c] 118)).drewN nq) (Ae w [.int .u8 8,.float .f64 x,zC,zE,.slice a 0 c] 118) yN
 have c7:=Hy (w:=w) (.cells #[.int .u8 8,.float .f64 x,zC,zE,.slice a 0 c] 118) nq
 generalize(w.alloc (.cells #[.int .u8 8,.float .f64 x,zC,zE,.slice a 0 c] 118)).drewN nq=F at b7 c7|-
 refine Z0k ?_
 intro d0 d1 d2 d3 d4
 clear b7
 go_wp2_with (go_at_call 125;refine(Y3 _ _ A D).mono ?_;rintro e w' ⟨rfl,rfl⟩)
 go_quiet ((go_at_call 249;exact Zcq (Ru 8 yH _)))
 exact Z2y
theorem Aec (s:zS) (D:Hm s) (a:zO) (c:Nat) (w:zN):
  Calls prog 222 #[.agg #[.int .u8 9,zD,s,zE,.slice a 0 c]] w fun e w'=>e=.returned (.bool true)/\Below w w w':=by
 have J:=Zaa D
 have O:s.toList.isEmpty=false:=by
  have h0:=D.Qp;rw[Zcp];have F:s.data.toList.length=s.size:=by rw[Zbz];rfl
  cases H:s.data.toList with
  | nil=>rw[H]at F;simp at F;omega
  | cons x xs=>rfl
 have G:=Ae w [.int .u8 9,zD,s,zE,.slice a 0 c] 118
 clear D
 go_enter func222,ntmps222
 go_wp2_with fail
 go_quiet ((go_at_call 73;exact Zcq (Hc _)))
 go_wp2_with fail
 refine(Jt s _ J.out).mono ?_
 rintro e M ⟨rfl,A⟩
 have c7:=(Hy _ _).trans (A.mono (by simp[Zhg]))
 have b7:=Aa (Ag (w':=(w.alloc (.cells #[.int .u8 9,zD,s,zE,.slice a 0 c] 118)).drewN nq) G yN) A (by rw[Zhg];simp)
 refine Z0k ?_
 intro d0 d1 d2 d3 d4
 clear b7 G A
 go_wp2_with fail
 go_quiet ((go_at_call 249;exact Zcq (Ru 9 yH _)))
 exact Z2y
theorem Aeg (k:Int) (h0:0<=k) (h9:k<=9) (a:zO) (c:Nat) (w:zN):
  Calls prog 222 #[.agg #[.int .u8 10,zD,zC,k,.slice a 0 c]] w fun e w'=>e=.returned (.bool true)/\Below w w w':=by
 go_enter func222,ntmps222
 go_wp2_with fail
 go_quiet ((go_at_call 73;exact Zcq (Hc _)))
 have b7:=Ag (w':=(w.alloc (.cells #[.int .u8 10,zD,zC,k,.slice a 0 c] 118)).drewN nq) (Ae w [.int .u8 10,zD,zC,k,.slice a 0 c] 118) yN
 have c7:=Hy (w:=w) (.cells #[.int .u8 10,zD,zC,k,.slice a 0 c] 118) nq
 generalize(w.alloc (.cells #[.int .u8 10,zD,zC,k,.slice a 0 c] 118)).drewN nq=A at b7 c7|-
 refine Z0k ?_
 intro d0 d1 d2 d3 d4
 clear b7
 go_wp2_with fail
 go_quiet ((go_at_call 249;exact Zcq (Ru 10 yH _)))
 exact Z2y
theorem Aje (a:zO) (c:Nat) (w:zN):
  Calls prog 222 #[.agg #[.int .u8 2,zD,zC,zE,.slice a 2 c]] w fun e w'=>e=.returned (.bool true)/\Below w w w':=by
 go_enter func222,ntmps222
 go_wp2_with fail
 go_quiet ((go_at_call 73;exact Zcq (Hc _)))
 have b7:=Ag (w':=(w.alloc (.cells #[.int .u8 2,zD,zC,zE,.slice a 2 c] 118)).drewN nq) (Ae w [.int .u8 2,zD,zC,zE,.slice a 2 c] 118) yN
 have c7:=Hy (w:=w) (.cells #[.int .u8 2,zD,zC,zE,.slice a 2 c] 118) nq
 generalize(w.alloc (.cells #[.int .u8 2,zD,zC,zE,.slice a 2 c] 118)).drewN nq=A at b7 c7|-
 refine Z0k ?_
 intro d0 d1 d2 d3 d4
 clear b7
 go_wp2_with fail
 go_quiet ((go_at_call 249;exact Zcq (Ma 2 yH _)))
 exact Z2y
theorem Ajd (a:zO) (c:Nat) (w:zN):
  Calls prog 222 #[.agg #[.int .u8 3,zD,zC,zE,.slice a 2 c]] w fun e w'=>e=.returned (.bool true)/\Below w w w':=by
 go_enter func222,ntmps222
 go_wp2_with fail
 go_quiet ((go_at_call 73;exact Zcq (Hc _)))
 have b7:=Ag (w':=(w.alloc (.cells #[.int .u8 3,zD,zC,zE,.slice a 2 c] 118)).drewN nq) (Ae w [.int .u8 3,zD,zC,zE,.slice a 2 c] 118) yN
 have c7:=Hy (w:=w) (.cells #[.int .u8 3,zD,zC,zE,.slice a 2 c] 118) nq
 generalize(w.alloc (.cells #[.int .u8 3,zD,zC,zE,.slice a 2 c] 118)).drewN nq=A at b7 c7|-
 refine Z0k ?_
 intro d0 d1 d2 d3 d4
 clear b7
 go_wp2_with fail
 go_quiet ((go_at_call 249;exact Zcq (Ma 3 yH _)))
 exact Z2y
theorem Ajc (a:zO) (c:Nat) (w:zN):
  Calls prog 222 #[.agg #[.int .u8 4,zD,zC,zE,.slice a 2 c]] w fun e w'=>e=.returned (.bool true)/\Below w w w':=by
 go_enter func222,ntmps222
 go_wp2_with fail
 go_quiet ((go_at_call 73;exact Zcq (Hc _)))
 have b7:=Ag (w':=(w.alloc (.cells #[.int .u8 4,zD,zC,zE,.slice a 2 c] 118)).drewN nq) (Ae w [.int .u8 4,zD,zC,zE,.slice a 2 c] 118) yN
 have c7:=Hy (w:=w) (.cells #[.int .u8 4,zD,zC,zE,.slice a 2 c] 118) nq
 generalize(w.alloc (.cells #[.int .u8 4,zD,zC,zE,.slice a 2 c] 118)).drewN nq=A at b7 c7|-
 refine Z0k ?_
 intro d0 d1 d2 d3 d4
 clear b7
 go_wp2_with fail
 go_quiet ((go_at_call 249;exact Zcq (Ma 4 yH _)))
 exact Z2y
theorem Ajb (a:zO) (c:Nat) (w:zN):
  Calls prog 222 #[.agg #[.int .u8 5,zD,zC,zE,.slice a 2 c]] w fun e w'=>e=.returned (.bool true)/\Below w w w':=by
 go_enter func222,ntmps222
 go_wp2_with fail
 go_quiet ((go_at_call 73;exact Zcq (Hc _)))
 have b7:=Ag (w':=(w.alloc (.cells #[.int .u8 5,zD,zC,zE,.slice a 2 c] 118)).drewN nq) (Ae w [.int .u8 5,zD,zC,zE,.slice a 2 c] 118) yN
 have c7:=Hy (w:=w) (.cells #[.int .u8 5,zD,zC,zE,.slice a 2 c] 118) nq
 generalize(w.alloc (.cells #[.int .u8 5,zD,zC,zE,.slice a 2 c] 118)).drewN nq=A at b7 c7|-
 refine Z0k ?_
 intro d0 d1 d2 d3 d4
 clear b7
 go_wp2_with fail
 go_quiet ((go_at_call 249;exact Zcq (Ma 5 yH _)))
 exact Z2y
theorem Aja (a:zO) (c:Nat) (w:zN):
  Calls prog 222 #[.agg #[.int .u8 6,zD,zC,zE,.slice a 2 c]] w fun e w'=>e=.returned (.bool true)/\Below w w w':=by
 go_enter func222,ntmps222
 go_wp2_with fail
 go_quiet ((go_at_call 73;exact Zcq (Hc _)))
 have b7:=Ag (w':=(w.alloc (.cells #[.int .u8 6,zD,zC,zE,.slice a 2 c] 118)).drewN nq) (Ae w [.int .u8 6,zD,zC,zE,.slice a 2 c] 118) yN
 have c7:=Hy (w:=w) (.cells #[.int .u8 6,zD,zC,zE,.slice a 2 c] 118) nq
 generalize(w.alloc (.cells #[.int .u8 6,zD,zC,zE,.slice a 2 c] 118)).drewN nq=A at b7 c7|-
 refine Z0k ?_
 intro d0 d1 d2 d3 d4
 clear b7
 go_wp2_with fail
 go_quiet ((go_at_call 249;exact Zcq (Ma 6 yH _)))
 exact Z2y
theorem Ai9 (a:zO) (c:Nat) (w:zN):
  Calls prog 222 #[.agg #[.int .u8 7,zD,zC,zE,.slice a 2 c]] w fun e w'=>e=.returned (.bool true)/\Below w w w':=by
 go_enter func222,ntmps222
 go_wp2_with fail
 go_quiet ((go_at_call 73;exact Zcq (Hc _)))
 have b7:=Ag (w':=(w.alloc (.cells #[.int .u8 7,zD,zC,zE,.slice a 2 c] 118)).drewN nq) (Ae w [.int .u8 7,zD,zC,zE,.slice a 2 c] 118) yN
 have c7:=Hy (w:=w) (.cells #[.int .u8 7,zD,zC,zE,.slice a 2 c] 118) nq
 generalize(w.alloc (.cells #[.int .u8 7,zD,zC,zE,.slice a 2 c] 118)).drewN nq=A at b7 c7|-
 refine Z0k ?_
 intro d0 d1 d2 d3 d4
 clear b7
 go_wp2_with fail
 go_quiet ((go_at_call 249;exact Zcq (Ma 7 yH _)))
 exact Z2y
theorem Aed (k:Nat) (h2:2<=k) (h7:k<=7) (a:zO) (c:Nat) (w:zN):
  Calls prog 222 #[.agg #[.int .u8 k,zD,zC,zE,.slice a 2 c]] w fun e w'=>e=.returned (.bool true)/\Below w w w':=by
 have h:k=2\/k=3\/k=4\/k=5\/k=6\/k=7:=yE
 rcases h with rfl | rfl | rfl | rfl | rfl | rfl
 ·exact Aje a c w
 ·exact Ajd a c w
 ·exact Ajc a c w
 ·exact Ajb a c w
 ·exact Aja a c w
 exact Ai9 a c w
theorem Aef (A:UInt8) (D:A≠8) (a:zO) (c:Nat) (w:zN) (b o:Nat) (G:a=some ⟨b,o,none⟩) (U:b<w) (F:w.cell? ⟨b,o,none⟩=some (.int .u8 A.toNat)):
  Calls prog 222 #[.agg #[.int .u8 1,zD,zC,zE,.slice a 1 c]] w fun e w'=>e=.returned (.bool true)/\Below w w w':=by
 subst G
 have M:((A.toNat:Int)==8)=false:=D4 D
 go_enter func222,ntmps222
 go_wp2_with fail
 go_quiet ((go_at_call 73;exact Zcq (Hc _)))
 have b7:=Ag (w':=(w.alloc (.cells #[.int .u8 1,zD,zC,zE,.slice (some ⟨b,o,none⟩) 1 c] 118)).drewN nq) (Ae w [.int .u8 1,zD,zC,zE,.slice (some ⟨b,o,none⟩) 1 c] 118) yN
 have c7:=Hy (w:=w) (.cells #[.int .u8 1,zD,zC,zE,.slice (some ⟨b,o,none⟩) 1 c] 118) nq
 have H:=(c7.cell (p:=⟨b,o,none⟩) U).trans F
 generalize(w.alloc (.cells #[.int .u8 1,zD,zC,zE,.slice (some ⟨b,o,none⟩) 1 c] 118)).drewN nq=J at b7 c7 H|-
 refine Z0k ?_
 intro d0 d1 d2 d3 d4
 clear b7
 go_wp2_with fail
 go_quiet ((go_at_call 249;exact Zcq (Akg _)))
 exact Z2y
theorem An4 (l:Df) (s:List Ex) (cs:zP) (w:zN) (n:Nat) (M:n<=w) (_hlen:s.length<=1000000) (H:Ch w n (.node l s) cs) (h:Kl l s):
  Calls prog 222 #[.agg cs.toArray] w fun e w'=>e=.returned (.bool true)/\Below w w w':=by
 obtain⟨k,num,name,cap⟩:=l
 obtain⟨a,c,rfl,-,A⟩:=H.open
 cases h with
 | num h1 F D h2 h3=>
  obtain rfl:k=8:=h1;obtain rfl:name=⟨#[]⟩:=h2;obtain rfl:cap=0:=h3;exact Aee num F D a c w
 | var h1 h2 h3 h4=>
  obtain rfl:k=9:=h1;obtain rfl:num=0:=h2;obtain rfl:cap=0:=h4;exact Aec name h3 a c w
 | cap h1 h2 h3 h4 h5=>
  obtain rfl:k=10:=h1;obtain rfl:num=0:=h2;obtain rfl:name=⟨#[]⟩:=h3;exact Aeg cap h4 h5 a c w
 | neg x h1 h2 h3=>
  obtain⟨h21,h22,h23⟩:=h2;obtain rfl:k=1:=h1;obtain rfl:num=0:=h21;obtain rfl:name=⟨#[]⟩:=h22;obtain rfl:cap=0:=h23;rcases A with A | ⟨b,o,rfl,U,A⟩
  ·cases A
  obtain⟨V,G,J⟩:=A 0 yF;obtain⟨O,T,rfl⟩:=Ch.shape J;have D:=G 0 _ rfl;simp only[Zgl,Zaf]at D;exact Aef x.Ak.kind h3 _ c w b o rfl yE D
 | two x y h1 h2 h3=>
  obtain⟨h31,h32,h33⟩:=h3;obtain rfl:num=0:=h31;obtain rfl:name=⟨#[]⟩:=h32;obtain rfl:cap=0:=h33;exact Aed k.toNat h1 h2 a c w
end
section
open Tryz Go.RowKit Go.Shelf
abbrev Fb (w:zN) (lo:Nat) (t:Ex) (cs:zP):Prop:=Tree.A6 Df.cells 5 w (fun b=>lo<=b/\b<w) t cs
theorem Fb.in {w:zN} {lo:Nat} {t:Ex} {cs:zP} (h:Fb w lo t cs):Ch w w t cs:=Tree.A6.mono h fun b U=>U.2
theorem Fb.lower {w:zN} {lo A:Nat} {t:Ex} {cs:zP} (h:Fb w lo t cs) (D:A<=lo):Fb w A t cs:=Tree.A6.mono h fun b U=>⟨yE,U.2⟩
theorem Fb.grown {w w':zN} {lo g:Nat} {t:Ex} {cs:zP} (h:Fb w lo t cs) (D:g<lo) (A:w.grownBy w' (some g)):Fb w' lo t cs:=
 Tree.A6.mono (Tree.A6.block h fun b U=>A.block b U.2 yJ) fun b U=>⟨U.1,Zal U.2 A.size⟩
theorem Gh {w w':zN} {b o k:Nat} (h:w.there b o k) (g:w'.heap[b]? =w.heap[b]?):w'.there b o k:=fun j A=>
 ⟨by rw[Zaw (a:=⟨b,o+j,none⟩) g];exact(h j A).1,by rw[World.frozen?_of_block (a:=⟨b,o+j,none⟩) g];exact(h j A).2⟩
theorem Afa (k:UInt8) (num:Nat) (name:zS) (cap:Int) (a:zO) (m c:Nat) (w:zN):
  Calls prog 87 #[.agg #[k,.float .f64 num,name,cap,.slice a m c]] w fun e w'=>e=.returned (.agg #[k,.float .f64 num,name,cap,.slice a m c])/\Below w w w':=by
 obtain⟨A,gd⟩:=zL ((w.alloc (.cells #[k,.float .f64 num,name,cap,.slice a m c] 118)).alloc (.cells zX 118))
 have F:Below w w A:=wL
 have D:A.rangeAt w 0 [k,.float .f64 num,name,cap,.slice a m c]:=by rw[<-gd];exact Aa (Ae w _ 118) (Af _) yF
 have fu:A.heap[w.heap.size+1]? =some (.cells zX 118 (0,0)):=by rw[<-gd];have:=Zhe (w.alloc (.cells #[k,.float .f64 num,name,cap,.slice a m c] 118)) (.cells zX 118);rwa[Zaq]at this
 have O:A.there (w+1) 0 5:=by
  intro j M;refine⟨?_,vZ⟩;simp only[World.cell?,fu]
  match j,M with
  | 0,_ | 1,_ | 2,_ | 3,_ | 4,_=>rfl
 have G:=Zaa O
 have d0:=D 0 _ rfl
 have d1:=D 1 _ rfl
 have d2:=D 2 _ rfl
 have d3:=D 3 _ rfl
 have d4:=D 4 _ rfl
 simp only[Zac]at d0 d1 d2 d3 d4
 go_enter func87,ntmps87
 go_wp2_with (refine Zil rfl 118 _ _ rfl _ _ _ rfl rfl G.out yG yL ?_)
 have H:=Ao A (w+1) [k,.float .f64 num,name,cap,.slice a m c] 0
 have J:=Zar A (w+1) 0 [k,.float .f64 num,name,cap,.slice a m c] G.out
 generalize A.setCells (w+1) 0 [.int .u8 k.toNat,.float .f64 num,.string name,.int .i64 cap,.slice a m c]=T at H J|-
 exact Zho (Aq rfl _ _ _ _ _ rfl J yG yG) rfl ⟨rfl,F.grown H F.size (fun r e=>yM)⟩
structure Acp (n g base i:Nat) (s:List Ex) (ai:List (List Value)) (X:zN):Prop where
 row:∃cur,X.heap[g]? =some (.cells cur 118 (0,0))
 done:∀j (h:j<s.length),j<i->∃dk,X.rangeAt g (j*5) dk/\dk.length=5/\Fb X base s[j] dk
 todo:∀j (h:j<ai.length),i<=j->X.rangeAt g (j*5) ai[j]/\ai[j].length=5
 src:∀j (h:j<s.length) (ig:j<ai.length),Ch X n s[j] ai[j]
 size:base<=X.heap.size
theorem Ajf (t:Ex):∀(cs:zP) (w:zN) (n:Nat),t.size<=10000->n<=w->Ch w n t cs->
  Calls prog 86 #[.agg cs.toArray,.func (.func 87) #[] #[]] w fun e w'=>∃aM,e=.returned (.agg aM.toArray)/\Fb w' w t aM/\Below w w w':=by
 induction t using Tree.ind with
 | h lb s b1=>
 intro cs w n bp aJ au
 have hlen:s.length<=10000:=wS
 obtain⟨a,c,O,rfl,bi,ad,G,ak⟩:=Tree.In.rows (E:=Df.cells) (K:=5) (fun _=>rfl) au
 have ai:a=none->O=[]:=by
  rintro rfl;rcases G with h | ⟨b,o,h,_⟩
  ·exact h
  cases h
 have aI:∀u∈O.flatten,u.oneCell'=true:=by
  intro u hu;obtain⟨x,aU,aC⟩:=Zfa.1 hu;obtain⟨i,ae,rfl⟩:=Zem aU;obtain⟨H,A,e⟩:=Ch.shape (ak i yE ae);rw[e]at aC;simp only[Zbc,Zbe,Zic]at aC;rcases aC with rfl | rfl | rfl | rfl | rfl<;>rfl
 obtain⟨k,num,name,cap⟩:=lb
 simp only[Df.cells,Zas,Zau]at au|-
 obtain⟨an,ba⟩:=zL ((w.alloc (.cells #[k,.float .f64 num,name,cap,.slice a s c] 118)).alloc (.cells zX 118))
 have ap:Below w w an:=by rw[<-ba];exact(Af _).alloc yF _
 have aA:an.heap.size=w+2:=xO
 have aB:=Ab4 O a c an n yE yE (G.below ap aJ) ai aI
 rw[ad]at aB
 subst ba
 go_enter func86,ntmps86
 go_wp2_with fail
 refine aB.mono ?_
 rintro e D ⟨bn,rfl,aE,a0⟩
 rw[aA]at aE a0
 have a6:=(a0.block _ yE).trans ((Zcd _ _ _ yF).trans (Zhe w _))
 have ah:D.heap[w.heap.size+1]? =some (.cells zX 118 (0,0)):=(a0.block _ yE).trans (by have:=Zhe (w.alloc (.cells #[k,.float .f64 num,name,cap,.slice a s c] 118)) (.cells zX 118);rwa[Zaq]at this)
 have ax:=ap.trans (a0.mono yE)
 have bq:w.heap.size+2<=D:=by have:=a0.size;rw[aA]at this;exact this
 have bl1:∀i (h:i<O.length),O[i].length=5:=fun i h=>Tree.In.len (E:=Df.cells) (fun _=>rfl) (ak i yE h)
 obtain⟨H,A,rfl,br,b9⟩:=R1 bl1 ad.symm aE
 have bme:∀j (h:j<s.length) (ig:j<O.length),Ch D n s[j] O[j]:=fun j h ig=>(ak j h ig).below (ax.mono aJ)
 rw[ad]
 clear aB aI ai G aE au ak ap aA
 have b8:D.cell? ⟨w,4,none⟩=some (.slice a s c):=by simp[World.cell?,a6]
 have f7:D.frozen? ⟨w,4,none⟩=false:=by simp[World.frozen?,a6]
 rcases b9 with ai | ⟨g,cur,rfl,bl,jx,aS,kj⟩
 ·obtain rfl:s=[]:=Zds (by rw[<-ad,ai];rfl)
  have M:D.grownBy (D.setCell ⟨w,4,none⟩ (.slice H 0 A)) (some w.heap.size):=As _ _ _ _;have al:(D.setCell ⟨w,4,none⟩ (.slice H 0 A)).heap[w.heap.size]? =some (.cells #[k,.float .f64 num,name,cap,.slice H 0 A] 118 (0,0)):=by
   simp only[World.setCell,Zby,Zia,a6,Zaj,Zgn];simp
  have aj:=(M.block (w+1) yE yF).trans ah;have af:=M.size;have aa:=ax.grown M yE (fun r e=>wI);clear a6 ah a0;simp only[Zav];go_wp2_with fail
  generalize D.setCell ⟨w,4,none⟩ (.slice H 0 A)=F at M al aj af aa|-;have b4:F.cell? ⟨w,0,none⟩=some (.int .u8 k.toNat):=xL;have b5:F.cell? ⟨w,1,none⟩=some (.float .f64 num):=xL;have b2:F.cell? ⟨w,2,none⟩=some (.string name):=xL;have T:F.cell? ⟨w,3,none⟩=some (.int .i64 cap):=xL;have b7:F.cell? ⟨w,4,none⟩=some (.slice H 0 A):=xL;have Y:F.there (w+1) 0 5:=by
   intro j av;refine⟨?_,by simp[World.frozen?,aj]⟩;simp only[World.cell?,aj]
   match j,av with
   | 0,_ | 1,_ | 2,_ | 3,_ | 4,_=>rfl
  have a2:=Zaa Y;clear al aj Y
  go_loop [14] (fun v=>v=.int .i64 0) (fun _=>0)
  case atStart=>rfl
  case round=>
   obtain rfl:=hrel;go_wp2_with fail
   refine(Afa k num name cap H 0 A F).mono ?_;rintro e a1 ⟨rfl,a9⟩;have a8:=Zaa (Gh a2.out (a9.block _ (by first | omega | (have:=V.size;have:=zh.out;omega))));go_wp2_with (refine Zil rfl 118 _ _ rfl _ _ _ rfl rfl a8.out yG yL ?_)
   have cm:=Bn (Ck (some (w.heap.size+1)) a9 (Zab _)) (Ao a1 (w+1) [k,.float .f64 num,name,cap,.slice H 0 A] 0);have ac:=Zar a1 (w+1) 0 [k,.float .f64 num,name,cap,.slice H 0 A] a8.out;generalize a1.setCells (w+1) 0 [.int .u8 k.toNat,.float .f64 num,.string name,.int .i64 cap,.slice H 0 A]=bb at cm ac|-;refine Zho (Aq rfl _ _ _ _ _ rfl ac yG yG) rfl ⟨_,rfl,?_,?_⟩
   ·exact Tree.A6.shut (E:=Df.cells) (l:=⟨k,num,name,cap⟩) (Zap _) (.inl rfl)
   exact aa.grown cm yE (fun r e=>yM)
 have bcp:=Zaa a6
 have bf:=Zaa ah
 have ff:=Zaa aS
 clear a6 ah aS a0
 have y8:g≠w:=yE
 go_wp2_with fail
 obtain⟨F,M⟩:=zL (D.setCell ⟨w,4,none⟩ (.slice (some ⟨g,0,none⟩) s A))
 rw[M]
 have i2:D.grownBy F (some w.heap.size):=by rw[<-M];exact As _ _ _ _
 have aa:=ax.grown i2 yE (fun r e=>wI)
 have af:F.heap.size=D:=by rw[<-M];simp[World.setCell]
 have al:F.heap[w.heap.size]? =some (.cells #[k,.float .f64 num,name,cap,.slice (some ⟨g,0,none⟩) s A] 118 (0,0)):=by
  rw[<-M];exact Z23
 have aV:Acp n g D 0 s O F:=by
  exact Z1i
 have aN:F.heap[w.heap.size+1]? =some (.cells zX 118 (0,0)):=(i2.block _ yE yF).trans bf.out
 have aX:=Zaa al
 have bc:=Zaa aN
 have zh:=Zaa af
 clear M kj bme al aN af b8 f7
 go_loopw [14] (fun v wr=>∃i:Nat,i<=s.length/\v=.int .i64 i/\F.grownBy wr (some g)/\Acp n g D i s O wr) (fun v _=>s.length - (intOf v).toNat)
 case atStart=>exact⟨0,Zap _,rfl,⟨rfl,rfl,rfl,Zab _,fun _ _ _=>rfl⟩,aV⟩
 case round=>
  obtain⟨i,ae,rfl,V,I⟩:=hrel;have bt:=(V.block _ tI uT).trans aX.out;by_cases ao:i<s.length
  ·have bo:(i:Int) <s.length:=by omega
   have G:=(I.todo i yE (Zab _)).1;have aF:=I.src i ao yE;obtain⟨a3,T,b6⟩:=Ch.shape aF;rw[b6]at G aF;have d0:=G 0 _ rfl;have d1:=G 1 _ rfl;have d2:=G 2 _ rfl;have d3:=G 3 _ rfl;have d4:=G 4 _ rfl;simp only[Zaf]at d0;have be:=zh.out;have b0:=V.size;go_wp2_with fail
   obtain⟨ay,ic⟩:=zL (wr.alloc (.cells #[.int .u8 s[i].Ak.kind.toNat,.float .f64 s[i].Ak.num,.string s[i].Ak.name,.int .i64 s[i].Ak.cap,.slice a3 s[i].Cb.length T] 118));rw[ic];have ag:wr.grownBy ay none:=by rw[<-ic];exact Zhf _ _ _
   have np:ay.heap.size=wr+1:=xS;have aR:ay.rangeAt wr 0 [.int .u8 s[i].Ak.kind.toNat,.float .f64 s[i].Ak.num,.string s[i].Ak.name,.int .i64 s[i].Ak.cap,.slice a3 s[i].Cb.length T]:=by rw[<-ic];exact Ae wr [.int .u8 s[i].Ak.kind.toNat,.float .f64 s[i].Ak.num,.string s[i].Ak.name,.int .i64 s[i].Ak.cap,.slice a3 s[i].Cb.length T] _
   have aO:=(ag.block _ yE yF).trans bt;clear ic d0 d1 d2 d3 d4;have aZ:=Zaa aO;have aY:=Zaa aR;clear bt aO aR;have aw:∀W:World,W.heap=ay.heap->(W.rangeAt w 4 [.slice (some ⟨g,0,none⟩) s A]/\W.rangeAt wr 0 [.int .u8 s[i].Ak.kind.toNat,.float .f64 s[i].Ak.num,.string s[i].Ak.name,.int .i64 s[i].Ak.cap,.slice a3 s[i].Cb.length T]):=fun W aL=>
    ⟨Ag (w:=ay) (by
     intro j v ar;cases j with
     | zero=>simp only[Zad,Zbb]at ar;subst ar;simp[World.cell?,aZ.out]
     | succ j=>simp at ar) (by rw[aL]),Ag aY.out (by rw[aL])⟩
   refine C1 [(0,.inl none),(1,.inl (some 0)),(2,.inl none),(3,.inl (some 0)),(4,.inl none),(5,.inr [0]),(6,.inl none),(7,.inr [0])]
    (fun _ W=>W.rangeAt w 4 [.slice (some ⟨g,0,none⟩) s A]/\W.rangeAt wr 0 [.int .u8 s[i].Ak.kind.toNat,.float .f64 s[i].Ak.num,.string s[i].Ak.name,.int .i64 s[i].Ak.cap,.slice a3 s[i].Cb.length T]) yG yG (fun _=>aw _ (Zhg _ _)) ?_
   refine Z3s ?_;have ee:(ay.drewN 1).heap=ay.heap:=Zhg _ _;have az:=aw (ay.drewN 1) ee;have aH:=Tree.A6.block aF (fun b U=>by rw[ee];exact ag.block b yE yF);have aP:=b1 s[i] (Zat ao) [.int .u8 s[i].Ak.kind.toNat,.float .f64 s[i].Ak.num,.string s[i].Ak.name,.int .i64 s[i].Ak.cap,.slice a3 s[i].Cb.length T] (ay.drewN 1) n vS vQ aH;have beg:wr.grownBy (ay.drewN 1) none:=Bn ag (B5 _ _ _);refine Z56 ?_;intro j4;clear aw;generalize ay.drewN 1=bk at az aH aP beg j4|-;have ta:=Zaa az;clear ee aH ag np az G;refine Z02 ?_;refine Av (.slice (some ⟨g,0,none⟩) s A) yI (fun w' ab=>?_) (fun K J=>?_)
   ·have bd:=ab.1 0 _ rfl
    simp only[Zaf]at bd;go_simp
   refine Z2n ?_;clear J K;refine Z02 ?_;refine Av (.agg #[.int .u8 s[i].Ak.kind.toNat,.float .f64 s[i].Ak.num,.string s[i].Ak.name,.int .i64 s[i].Ak.cap,.slice a3 s[i].Cb.length T]) yI (fun w' ab=>?_) (fun K J=>?_)
   ·have aq:=ab.2 0 _ rfl
    exact Z1O
   refine Z2n ?_;clear J K;refine Z02 ?_;refine Ci (fun K J=>?_) (Bg ta.out);go_wp2_with fail
   refine aP.mono ?_;rintro e b3 ⟨dk,rfl,aQ,bj⟩;obtain⟨a5,a4,rfl⟩:=Ch.shape (Fb.in aQ);have rq:=(bj.block g yE).trans (beg.block g yE yF);have Y:b3.there g (i*5) 5:=by
    exact Z1A
   have a2:=Zaa Y;clear Y;go_wp2_with fail
   refine J _ _ (Bg ⟨Aa ta.out.1 bj yE,Aa ta.out.2 bj yE⟩) ?_;clear J K;refine Z02 ?_;refine Ci (fun K J=>?_) (Bg ⟨Aa ta.out.1 bj yE,Aa ta.out.2 bj yE⟩);refine Zil rfl 118 _ _ rfl _ _ _ rfl rfl a2.out yG yL ?_;have bu:=Ao b3 g [.int .u8 s[i].Ak.kind.toNat,.float .f64 s[i].Ak.num,.string s[i].Ak.name,.int .i64 s[i].Ak.cap,.slice a5 s[i].Cb.length a4] (i*5);have bg:=Nf b3 g [.int .u8 s[i].Ak.kind.toNat,.float .f64 s[i].Ak.num,.string s[i].Ak.name,.int .i64 s[i].Ak.cap,.slice a5 s[i].Cb.length a4] (i*5);have aT:=Zar b3 g (i*5) [.int .u8 s[i].Ak.kind.toNat,.float .f64 s[i].Ak.num,.string s[i].Ak.name,.int .i64 s[i].Ak.cap,.slice a5 s[i].Cb.length a4] a2.out;have aD:=fun(b' aG:Nat) (cs:zP) (h:b3.rangeAt b' aG cs) (aW:b'≠g\/aG+cs.length<=i*5\/i*5+5<=aG)=>Zhl h g (i*5) [.int .u8 s[i].Ak.kind.toNat,.float .f64 s[i].Ak.num,.string s[i].Ak.name,.int .i64 s[i].Ak.cap,.slice a5 s[i].Cb.length a4] aW
   have aK:∃cur,(b3.setCells g (i*5) [.int .u8 s[i].Ak.kind.toNat,.float .f64 s[i].Ak.num,.string s[i].Ak.name,.int .i64 s[i].Ak.cap,.slice a5 s[i].Cb.length a4]).heap[g]? =some (.cells cur 118 (0,0)):=by
    obtain⟨bu7,kM⟩:=I.row;rw[<-rq]at kM;exact Gt b3 g _ _ _ kM
   refine Z4a ?_;generalize b3.setCells g (i*5) [.int .u8 s[i].Ak.kind.toNat,.float .f64 s[i].Ak.num,.string s[i].Ak.name,.int .i64 s[i].Ak.cap,.slice a5 s[i].Cb.length a4]=bs at bu bg aT aD aK|-;clear a2;refine Z4F ?_;clear J K;refine C7 ?_;go_wp2_with fail
   go_roundw
   case rel=>
    have bx8:=Ck none bj (Zab _);refine Z21 ?_;intro oc l9;refine⟨i+1,yE,yK,Bn V oc,aK,fun j h av=>?_,fun j h av=>?_,fun j h ig=>?_,tJ⟩
    ·by_cases e:j=i
     ·subst e
      refine⟨_,aT,rfl,?_⟩;exact Fb.grown (Fb.lower aQ tJ) jx bu
     obtain⟨dk,q1,eh,hn⟩:=I.done j h yE;refine⟨dk,?_,eh,?_⟩
     ·exact aD _ _ _ (Ag q1 rq) (.inr (.inl yE))
     exact Fb.grown hn jx oc
    ·have vm:=I.todo j h yE
     exact⟨aD _ _ _ (Ag vm.1 rq) (.inr (.inr yE)),vm.2⟩
    exact Tree.A6.block (I.src j h ig) (fun b U=>oc.block b yE yJ)
   case measure=>simp[intOf];omega
  obtain rfl:i=s.length:=by omega
  refine Z1e ?_;intro fe;have am:=(V.block _ tI yJ).trans bc.out;have b4:wr.cell? ⟨w,0,none⟩=some (.int .u8 k.toNat):=xM;have b5:wr.cell? ⟨w,1,none⟩=some (.float .f64 num):=xM;have b2:wr.cell? ⟨w,2,none⟩=some (.string name):=xM;have T:wr.cell? ⟨w,3,none⟩=some (.int .i64 cap):=xM;have b7:wr.cell? ⟨w,4,none⟩=some (.slice (some ⟨g,0,none⟩) s A):=xM;have Y:wr.there (w+1) 0 5:=by
   intro j av;refine⟨?_,by simp[World.frozen?,am]⟩;simp only[World.cell?,am]
   match j,av with
   | 0,_ | 1,_ | 2,_ | 3,_ | 4,_=>rfl
  have a2:=Zaa Y;clear bt am Y;go_wp2_with fail
  refine(Afa k num name cap (some ⟨g,0,none⟩) s A wr).mono ?_;rintro e a1 ⟨rfl,a9⟩;have a8:=Zaa (Gh a2.out (a9.block _ (by first | omega | (have:=V.size;have:=zh.out;omega))));go_wp2_with (refine Zil rfl 118 _ _ rfl _ _ _ rfl rfl a8.out yG yL ?_)
  have cm:=Bn (Ck (some (w.heap.size+1)) a9 (Zab _)) (Ao a1 (w+1) [k,.float .f64 num,name,cap,.slice (some ⟨g,0,none⟩) s A] 0);have ac:=Zar a1 (w+1) 0 [k,.float .f64 num,name,cap,.slice (some ⟨g,0,none⟩) s A] a8.out;generalize a1.setCells (w+1) 0 [.int .u8 k.toNat,.float .f64 num,.string name,.int .i64 cap,.slice (some ⟨g,0,none⟩) s A]=bb at cm ac|-;have b0:=V.size;have be:=zh.out;have bm:=cm.size;refine Zho (Aq rfl _ _ _ _ _ rfl ac yG yG) rfl ⟨_,rfl,?_,?_⟩
  ·refine Tree.A6.shut (E:=Df.cells) (l:=⟨k,num,name,cap⟩) yE (.inr ⟨g,0,rfl,⟨yE,yE⟩,fun i ae=>?_⟩)
   exact Z1r
  exact(aa.grown V aa.size (fun r e=>yM)).grown cm yE (fun r e=>yM)
end
section
open Tryz Go.RowKit Go.Shelf
theorem Ajh (t:Ex) (cs:zP) (w:zN) (n:Nat) (W:t.size<=10000) (a8:n<=w) (V:Ch w n t cs):
  Calls prog 57 #[.agg cs.toArray] w fun e w'=>∃M,e=.returned (.agg M.toArray)/\Fb w' w t M/\Below w w w':=by
 obtain⟨a,c,rfl⟩:=Ch.shape V
 obtain⟨dq,gd⟩:=zL ((w.alloc (.cells #[t.Ak.kind,.float .f64 t.Ak.num,t.Ak.name,t.Ak.cap,.slice a t.Cb c] 118)).alloc (.cells zX 118))
 refine Z30 ?_
 intro c0 gh
 have a0:dq.rangeAt w 0 [t.Ak.kind,.float .f64 t.Ak.num,t.Ak.name,t.Ak.cap,.slice a t.Cb c]:=by rw[<-gd];exact Aa (Ae w [t.Ak.kind,.float .f64 t.Ak.num,t.Ak.name,t.Ak.cap,.slice a t.Cb c] 118) (Af (w:=w.alloc (.cells #[t.Ak.kind,.float .f64 t.Ak.num,t.Ak.name,t.Ak.cap,.slice a t.Cb c] 118)) (.cells zX 118)) yF
 have a2:dq.heap[w.heap.size+1]? =some (.cells zX 118 (0,0)):=by rw[<-gd];have:=Zhe (w.alloc (.cells #[t.Ak.kind,.float .f64 t.Ak.num,t.Ak.name,t.Ak.cap,.slice a t.Cb c] 118)) (.cells zX 118);rwa[Zaq]at this
 have T:=V.below (c0.mono a8)
 have O:=Kz t _ dq n W yE T
 subst gd
 rw[gh]at O
 have ac:=Zaa a0
 have ab:=Zaa a2
 have af:=Zaa gh
 clear a0 a2 gh
 go_enter func57,ntmps57
 go_wp2_with fail
 refine O.mono ?_
 rintro e H ⟨rfl,D⟩
 have gh:=af.out
 have aa:=D.size
 rw[gh]at aa
 have b7:=Aa ac.out D yE
 have ad:=T.below (D.mono yE)
 have ag:Below w w H:=c0.trans (D.mono yE)
 have a4:H.heap[w.heap.size+1]? =some (.cells zX 118 (0,0)):=(D.block _ yE).trans ab.out
 have a6:=Ajf t _ H n W yE ad
 refine Z0k ?_
 intro d0 d1 d2 d3 d4
 have ae:=Zaa a4
 clear D O T c0 b7 gh a4
 go_wp2_with fail
 refine a6.mono ?_
 rintro e A ⟨M,rfl,a5,U⟩
 obtain⟨F,G,rfl⟩:=Ch.shape (Fb.in a5)
 have me:A.heap[w.heap.size+1]? =some (.cells zX 118 (0,0)):=(U.block _ yE).trans ae.out
 have a1:A.there (w+1) 0 5:=by
  intro j a9;refine⟨?_,vY⟩;simp only[World.cell?,me]
  match j,a9 with
  | 0,_ | 1,_ | 2,_ | 3,_ | 4,_=>rfl
 have Y:=Zaa a1
 have a7:Below w w A:=ag.trans (U.mono yE)
 clear me a1 a6
 go_wp2_with (refine Zil rfl 118 _ _ rfl _ _ _ rfl rfl Y.out yG yL ?_)
 have J:=Ao A (w+1) [t.Ak.kind,.float .f64 t.Ak.num,t.Ak.name,t.Ak.cap,.slice F t.Cb G] 0
 have a3:(A.setCells (w+1) 0 [t.Ak.kind,.float .f64 t.Ak.num,t.Ak.name,t.Ak.cap,.slice F t.Cb G]).rangeAt (w+1) 0 [t.Ak.kind,.float .f64 t.Ak.num,t.Ak.name,t.Ak.cap,.slice F t.Cb G]:=Zar A (w+1) 0 [t.Ak.kind,.float .f64 t.Ak.num,t.Ak.name,t.Ak.cap,.slice F t.Cb G] Y.out
 generalize A.setCells (w+1) 0 [.int .u8 t.Ak.kind.toNat,.float .f64 t.Ak.num,.string t.Ak.name,.int .i64 t.Ak.cap,.slice F t.Cb G]=ah at J a3|-
 refine Zho (Aq rfl _ _ _ _ _ rfl a3 yG yG) rfl ⟨_,rfl,?_,?_⟩
 ·exact Fb.lower (Fb.grown a5 yE J) yE
 exact a7.grown J a7.size (fun r e=>yM)
end
section
open Tryz Go.RowKit Go.Shelf
theorem Hq (x a b:Int) (w:zN) (h1:a<=x) (h2:x<=b):Calls prog 176 #[x,a,b] w fun e w'=>e=.returned (.bool true)/\w'=w:=by
 go_enter func176,ntmps176
 go_wp2;exact Z0K
theorem Uw (x a b:Int) (w:zN) (h1:x<a):Calls prog 176 #[x,a,b] w fun e w'=>e=.returned (.bool false)/\w'=w:=by
 go_enter func176,ntmps176
 go_wp2;exact Z0K
def Wr (v:Et):Prop:=if v.number then v.float<2^64/\D1 v.float=true/\v.text=⟨#[]⟩else v.float=0/\v.text.size<=512
theorem K5 (x:Nat) (A:x<2^64) (D:D1 x=true) (w:zN):
  Calls prog 92 #[.agg #[zB,zC,.float .f64 x]] w fun e w'=>e=.returned (.bool true)/\Below w w w':=by
 go_enter func92,ntmps92
 go_wp2_with (go_at_call 125;refine(Y3 _ _ A D).mono ?_;rintro e w' ⟨rfl,rfl⟩)
 go_ret
 exact⟨rfl,Af _⟩
theorem Za (s:zS) (A:s.size<=512) (w:zN):
  Calls prog 92 #[.agg #[zA,s,zD]] w fun e w'=>e=.returned (.bool true)/\Below w w w':=by
 have D:(s.size:Int)<=512:=yE
 go_enter func92,ntmps92
 exact Z0N
theorem Akd (v:Et) (h:Wr v) (w:zN):
  Calls prog 92 #[.agg #[v.number,v.text,.float .f64 v.float]] w fun e w'=>e=.returned (.bool true)/\Below w w w':=by
 obtain⟨A,num,text,float⟩:=v
 unfold Wr at h
 cases num with
 | true=>
  obtain⟨h1,h2,rfl⟩:float<2^64/\D1 float=true/\text=⟨#[]⟩:=h;exact K5 float h1 h2 w
 | false=>
  obtain⟨rfl,h2⟩:float=0/\text.size<=512:=h;exact Za text h2 w
def Ei (r:A7):Int:=if r.kind=1 then(r.Bu.B3:Int)else if r.kind=2 then 0 else -1
theorem Oq (r:A7) (cs:zP) (w:zN) (n:Nat) (G:r.Bu.size<=10000) (F:n<=w) (M:Fo w n r cs):
  Calls prog 192 #[.agg cs.toArray] w fun e w'=>e=.returned (.int .i64 (Ei r))/\Below w w w':=by
 obtain⟨W,v,rfl,D,a,c,rfl,-,-⟩:=M
 have J:Bo w n r.Bu W:=D
 obtain⟨z0,O,z2,z3,z4,z5,V,T,U,z9,rfl⟩:=Bo.eight D
 simp only[Zas,Zau]
 by_cases h1:r.kind=1
 ·have A:Ei r=r.Bu.B3:=if_pos h1
  rw[A,h1];have c0:=Af (w:=w) (.cells #[.int .u8 1,r.Bh,r.Bp,z0,O,z2,z3,z4,z5,V,.slice T U z9,r.text,r.Az,.slice a r.Aw c,r.A3,r.Bl] 48);have H:=Aao r.Bu _ _ n G (Zag F c0.size) (J.below (c0.mono F));have c3:=Zaa H;clear H A D J G;generalize r.Bu.B3=g at c3|-;go_enter func192,ntmps192
  go_wp2_with fail
  refine Z0P ?_;exact Z3l
 have Y:((r.kind.toNat:Int)==1)=false:=D4 h1
 by_cases h2:r.kind=2
 ·have A:Ei r=0:=by unfold Ei;rw[if_neg h1,if_pos h2]
  rw[A,h2];clear Y h1 h2 A;go_enter func192,ntmps192
  exact Z0N
 have a0:((r.kind.toNat:Int)==2)=false:=D4 h2
 have A:Ei r= -1:=by unfold Ei;rw[if_neg h1,if_neg h2]
 rw[A]
 clear h1 h2 A
 go_enter func192,ntmps192
 exact Z0N
end
section
open Tryz Go.RowKit Go.Shelf
attribute [local go_sem] Oper.semAt_some
def Gi (l:List Ex):Int:=l.foldl (fun m x=>if x.Ak.kind==10 then max m x.Ak.cap else m) (-1)
theorem Ags (l:List Ex) (x:Ex):Gi (l++[x])=if x.Ak.kind==10 then max (Gi l) x.Ak.cap else Gi l:=by
 unfold Gi;rw[List.foldl_append];rfl
theorem Ajg (t:Ex) (cs:zP) (w:zN) (n:Nat) (ae:t.size<=10000) (V:n<=w) (Y:Ch w n t cs):
  Calls prog 191 #[.agg cs.toArray] w fun e w'=>e=.returned (.int .i64 (Gi t.pre))/\Below w w w':=by
 obtain⟨z0,b9,z2,z3,bg,bk,z9,rfl⟩:=Ch.G2 Y
 obtain⟨O,gd⟩:=zL ((w.alloc (.cells #[z0,.float .f64 b9,z2,z3,.slice bg bk z9] 118)).alloc (.cells #[zG] 3))
 have a1:Below w w O:=rF
 have F:O.heap.size=w+2:=xY
 have a7:O.rangeAt w 0 [z0,.float .f64 b9,z2,z3,.slice bg bk z9]:=by rw[<-gd];exact Aa (Ae w [z0,.float .f64 b9,z2,z3,.slice bg bk z9] 118) (Below.alloc (Zai _ _) (Zab _) (.cells #[zG] 3)) yF
 have ab:Boxed O (w+1) 3 (.int .i64 (-1)):=by
  rw[<-gd];have:=Zco (w.alloc (.cells #[z0,.float .f64 b9,z2,z3,.slice bg bk z9] 118)) 3 (.int .i64 (-1));exact Z1z
 have a9:=Y.below (a1.mono V)
 have a2:=Kz t [z0,.float .f64 b9,z2,z3,.slice bg bk z9] O n ae yE a9
 rw[F]at a2
 subst gd
 have am:=Zaa F
 have ah:=Zaa a7
 clear F a7
 refine Z4f ?_
 refine Zhp func191 rfl trivial ?_ rfl
 simp only[ntmps191,Zfk,Zao,Zav,Nat.reduceAdd,Nat.reduceSub,Zcb,Zcc,Zff,Zdl,Zau,Zas]
 refine Zii.2 ?_
 go_wp2_with fail
 refine a2.mono ?_
 rintro e a8 ⟨rfl,H⟩
 have F:=am.out
 have al:=H.size
 rw[F]at al
 have b7:=Aa ah.out H yE
 have c7:Below w w a8:=a1.trans (H.mono yE)
 have ak:Boxed a8 (w+1) 3 (.int .i64 (-1)):=(H.block _ yE).trans ab
 refine Z0k ?_
 intro d0 d1 d2 d3 d4
 clear a1 a9 H b7 F ab a2
 go_wp2_with fail
 refine Z35 ?_
 intro ag cr
 go_wp2_with fail
 have au:ag.heap.size=a8+1:=xK
 have a5:Below w w ag:=uP
 have ao:ag.rangeAt a8 0 [z0,.float .f64 b9,z2,z3,.slice bg bk z9]:=rA
 have aj:Boxed ag (w+1) 3 (.int .i64 (-1)):=by rw[<-cr];exact ak.alloc _
 have an:=Y.below (a5.mono V)
 clear cr d0 d1 d2 d3 d4
 refine(Zii (n:=5)).1 (Gp (gf:=143) (lb:=#[zK a8]) rfl (fun _ _=>rfl)
  (Wb t _ ag n a8 a8 yE an ao (.inr (Zab _)) yE yE) (fun k args X ⟨_,es,e,_⟩=>yS) Cg.trans (fun X aa aq ai h1 h2 h3 h4=>Cg.put h3 h4 h2 ai)
  (fun k X=>Ip w (w+1) (Gi (t.pre.take k)) X) (fun _ _=>False) (fun k=>Ip.B8 yE) (fun c=>At.pure _) ⟨aj,a5⟩
  (fun k W X=>∃(T:Nat) (es:zP) (v9:Value) (G:k<t.pre),W={tmps:=#[.agg #[z0,.float .f64 b9,z2,z3,.slice bg bk z9],.pointer (some ⟨w,0,none⟩),.int .i64 0,.pointer (some ⟨w+1,0,none⟩),.pointer (some ⟨T,0,none⟩),.agg #[z0,.float .f64 b9,z2,z3,.slice bg bk z9],.bool true,.agg #[z0,.float .f64 b9,z2,z3,.slice bg bk z9],.func (.func 143) #[] #[zK a8],v9,undef,undef,undef,undef,undef,undef,undef,undef],defers:=[]}/\X.rangeAt T 0 es/\Ch X n t.pre[k] es)
  (fun k W A C row ⟨T,es,v10,G,e,h1,h2⟩ a6 a4=>⟨T,es,v10,G,e,Dg A C row h1 a6 a4,Tree.In.B8 A C row h2 a6 a4⟩) ?assign ?body ?done ?stop)
 case assign=>
  rintro aa k args X K G hI ⟨ac,es,rfl,lg⟩ J;obtain⟨a,c,rfl⟩:=Ch.shape lg;refine Z0y ?_;gi_wp2_with fail
  refine J _ _ ((Zdc _ _).from _) (Cg.below (Af _) (Zab _)) ((Ip.B8 (Zab _)).new hI _) ⟨X,_,_,ac,rfl,Ae X [.int .u8 t.pre[k].Ak.kind.toNat,.float .f64 t.pre[k].Ak.num,.string t.pre[k].Ak.name,.int .i64 t.pre[k].Ak.cap,.slice a t.pre[k].Cb.length c] _,?_⟩;exact Z2L
 case body=>
  rintro aa k W X G ar hI ⟨T,es,v10,ac,rfl,a3,lg⟩;obtain⟨a,c,rfl⟩:=Ch.shape lg;have d0:=a3 0 _ rfl;have d3:=a3 3 _ rfl;simp only[Zac]at d0 d3;have aw:=hI.box.cell;have ap:=hI.box.frozen;have U:Gi (t.pre.take (k+1))=if t.pre[k].Ak.kind==10 then max (Gi (t.pre.take k)) t.pre[k].Ak.cap else Gi (t.pre.take k):=by
   rw[Zay G];exact Ags _ _
  generalize Gi (t.pre.take (k+1))=m1 at U|-;generalize Gi (t.pre.take k)=m0 at U aw hI;have ad:=Zaa U;clear U;have D:=K7 t.pre[k].Ak.kind 10;cases h6:(t.pre[k].Ak.kind==10)with
  | true=>
   rw[h6]at D;have M:m1=max m0 t.pre[k].Ak.cap:=by rw[ad.out,h6];rfl
   have a0:=Zaa M;clear M h6;have af:((t.pre[k].Ak.kind.toNat:Int)==10)=true:=D;clear D;gi_wp2_with fail
   rw[a0.out];exact hI.step (max m0 t.pre[k].Ak.cap) yE V yE
  | false=>
   rw[h6]at D;have M:m1=m0:=by rw[ad.out,h6];rfl
   have a0:=Zaa M;clear M h6;have af:((t.pre[k].Ak.kind.toNat:Int)==10)=false:=D;clear D;gi_wp2_with fail
   rw[a0.out];exact⟨Zdb _ _,Cg.refl _ _ _ _,hI⟩
 case done=>
  rintro X hI hj;rw[Zbk]at hI;exact Z2k
 case stop=>
  exact Z1Z
end
section
open Tryz Go.RowKit Go.Shelf
def Dd:Ex:=.node ⟨0,0,⟨#[]⟩,0⟩ []
theorem Z6 (w:zN) (n:Nat) (a:zO) (c:Nat):Ch w n Dd [zJ,zD,zC,zE,.slice a 0 c]:=
 Tree.In.shut (E:=Df.cells) (l:=⟨0,0,⟨#[]⟩,0⟩) (Zap _) (.inl rfl)
theorem Ahc (a b:zO) (c d:Nat) (w:zN):
  Calls prog 252 #[.agg #[zJ,zD,zC,zE,.slice a 0 c],.agg #[zJ,zD,zC,zE,.slice b 0 d]] w fun e w'=>e=.returned (.bool true)/\Below w w w':=by
 go_enter func252,ntmps252
 go_wp2_with fail
 refine(Hc _).mono ?_
 rintro e A ⟨rfl,rfl⟩
 go_wp2_with fail
 refine(Sm a b c d _ _).mono ?_
 rintro e A ⟨rfl,rfl⟩
 exact Z27
theorem Wc (a:zO) (c:Nat) (w:zN):
  Calls prog 225 #[.agg #[zJ,zD,zC,zE,.slice a 0 c],.agg zX] w fun e w'=>e=.returned (.bool true)/\Below w w w':=by
 have c0:Below w w ((w.alloc (.cells #[zJ,zD,zC,zE,.slice a 0 c] 118)).alloc (.cells zX 118)):=(Af _).alloc yF _
 have df:=Aa (Ae w [zJ,zD,zC,zE,.slice a 0 c] 118) (Af (w:=w.alloc (.cells #[zJ,zD,zC,zE,.slice a 0 c] 118)) (.cells zX 118)) yF
 have aW:((w.alloc (.cells #[zJ,zD,zC,zE,.slice a 0 c] 118)).alloc (.cells zX 118)).rangeAt (w+1) 0 [zJ,zD,zC,zE,zH]:=by
  have:=Ae (w.alloc (.cells #[zJ,zD,zC,zE,.slice a 0 c] 118)) [zJ,zD,zC,zE,zH] 118;exact Z1z
 go_enter func225,ntmps225
 go_wp2_with fail
 refine(Kz Dd _ _ 0 yH (Zap _) (Z6 _ 0 a c)).mono ?_
 refine Z1a ?_
 intro a8 aa b7 n9 uj dc bno bnp bnq bnr bns
 simp only[Zac]at bno bnp bnq bnr bns
 clear aW c0 aa df
 go_wp2_with fail
 refine(Kz Dd _ _ 0 yH (Zap _) (Z6 _ 0 none 0)).mono ?_
 refine Z2V ?_
 intro ad af ha p3 so bnj bnk bnl bnm bnn
 simp only[Zac]at bnj bnk bnl bnm bnn
 have A:=p3 0 _ rfl
 have D:=p3 1 _ rfl
 have F:=p3 2 _ rfl
 have G:=p3 3 _ rfl
 have H:=p3 4 _ rfl
 simp only[Zac]at A D F G H
 clear b7 n9 uj af
 go_wp2_with fail
 refine(Ahc _ _ _ _ _).mono ?_
 exact Z3I
theorem Aa7 (a:zO) (c:Nat) (w:zN):
  Calls prog 186 #[.agg #[zJ,zD,zC,zE,.slice a 0 c]] w fun e w'=>e=.returned (.bool true)/\Below w w w':=by
 have c0:=Af (w:=w) (.cells #[zJ,zD,zC,zE,.slice a 0 c] 118)
 go_enter func186,ntmps186
 go_wp2_with fail
 refine(Wc a c _).mono ?_
 exact Z13
end
section
open Tryz Go.RowKit
def Fw:ByteArray:=⟨#[]⟩
structure B9 where
 var:Int
 state:Int
 Me:Int
 action:Int
 part:Int
deriving DecidableEq
def B9.cells (p:B9):List Value:=[.int .i64 p.var,.int .i64 p.state,.int .i64 p.Me,.int .i64 p.action,.int .i64 p.part]
def Fi (_w:zN) (_S:zT) (p:B9) (cs:zP):Prop:=cs=p.cells
theorem Fi.Ab:Cp Fi:=fun _ _ _ _ _ _ _ _ h=>h
def top:B9:=⟨-1,-1,-1,-1,-1⟩
def Lg (i k m:Nat) (a:Dv):List B9:=(List.range a.Ay).map fun n=>⟨-1,i,k,m,(n:Nat)⟩
def Na (i k m:Nat) (a:Dv):List B9:=⟨-1,i,k,m,-1⟩::Lg i k m a
def E6 (i k:Nat):Nat->List Dv->List B9
 | _,[]=>[]
 | m,a::r=>Na i k m a++E6 i k (m+1) r
def Jp (i k:Nat) (r:A7):List B9:=⟨-1,i,k,-1,-1⟩::E6 i k 0 r.Aw
def C9 (i:Nat):Nat->List A7->List B9
 | _,[]=>[]
 | k,r::s=>Jp i k r++C9 i (k+1) s
def Hb (i:Nat) (s:Bc):List B9:=⟨-1,i,-1,-1,-1⟩::C9 i 0 s.Ai
def Cr:Nat->List Bc->List B9
 | _,[]=>[]
 | i,s::r=>Hb i s++Cr (i+1) r
def Kt (l:List Et):List B9:=(List.range l).map fun n=>⟨(n:Nat),-1,-1,-1,-1⟩
def Ca (s:Ap):List B9:=top::(Kt s.An++Cr 0 s.Ac)
theorem Mw (i:Nat):∀(k:Nat) (l r:List A7),C9 i k (l++r)=C9 i k l++C9 i (k+l) r
 | k,[],r=>by simp[C9]
 | k,a::l,r=>by
  simp only[Zas,C9,Mw i (k+1) l r,Zdj,Zao];rw[show k+1+l=k+(l.length+1)from yE]
theorem L8:∀(k:Nat) (l r:List Bc),Cr k (l++r)=Cr k l++Cr (k+l) r
 | k,[],r=>by simp[Cr]
 | k,a::l,r=>by
  simp only[Zas,Cr,L8 (k+1) l r,Zdj,Zao];rw[show k+1+l=k+(l.length+1)from yE]
def Fp (l:List Et) (s:zS):Option Bool:=(l.findIdx? fun v=>v.name.toList==s.toList).bind fun i=>(l[i]?).map Et.number
structure Xs (s:Ap):Prop where
 b1:2<=s.Aj
 b2:s.Aj<=256
 s1:1<=s.Ac.length
 s2:s.Ac.length<=24
 v:s.An.length<=12
structure Z3 (s:Ap) (i:Nat) (v:Et):Prop where
 name:Hm v.name
 right:Wr v
 first:∀j x,j<i->s.An[j]? =some x->x.name.toList≠v.name.toList
structure Th (s:Ap) (i:Nat) (v:Bc):Prop where
 name:Hm v.name
 Fm:v.Ai.length<=12
 first:∀j x,j<i->s.Ac[j]? =some x->x.name.toList≠v.name.toList
def Io (r:A7):Prop:=
 (r.kind=1/\r.text=Fw/\r.Az=0)\/
 (r.kind=2/\r.Bh=false/\r.Bp=false/\r.Bu=Jn/\r.Az=0/\1<=r.text.size/\r.text.size<=64)\/
 (r.kind=3/\r.Bh=false/\r.Bp=false/\r.Bu=Jn/\r.text=Fw/\r.Az=0)\/
 (r.kind=4/\r.Bh=false/\r.Bp=false/\r.Bu=Jn/\r.text=Fw/\1<=r.Az/\r.Az<=1000)
def Er (s:Ap) (g:zS):Option Nat:=s.Ac.findIdx? fun x=>x.name.toList==g.toList
structure Wp (s:Ap) (r:A7) (total:Nat):Prop where
 fields:Io r
 Fm:r.Aw.length<=8
 Ea:r.kind=1->F3 r.Bu
 all:r.kind=1->total<=600
 A3:if r.A3.toList=[]then 0<=r.Bl/\r.Bl<=255 else(Er s r.A3).isSome=true/\r.Bl=0
def S6 (t:Ex):List ByteArray:=(t.pre.filter fun x=>x.Ak.kind==9).map fun x=>x.Ak.name
def L1 (s:Ap) (t:Ex):Prop:=∀x∈S6 t,Fp s.An x=some true
structure Tj (s:Ap) (r:A7) (a:Dv):Prop where
 kind:a.kind=1\/a.kind=2\/a.kind=3
 send:a.kind=1->a.name=Fw
 none:a.kind≠3->a.Bw=Dd
 bare:a.kind=3->a.Ay=[]/\F4 a.Bw/\L1 s a.Bw/\Gi a.Bw.pre<=Ei r
 Fm:a.Ay.length<=16
 set:a.kind=2->Fp s.An a.name=some false
 Apw:a.kind=3->Fp s.An a.name=some true
structure H9 (s:Ap) (r:A7) (l:List Dl) (i:Nat) (p:Dl):Prop where
 kinds:(p.kind=1/\1<=p.text.size/\p.text.size<=512/\p.group=0/\p.Bw=Dd)\/
  (p.kind=2/\Hm p.text/\p.group=0/\p.Bw=Dd/\(Fp s.An p.text).isSome=true)\/
  (p.kind=3/\p.text=Fw/\0<=p.group/\p.group<=9/\p.group<=Ei r/\p.Bw=Dd)\/
  (p.kind=4/\p.text=Fw/\p.group=0/\F4 p.Bw/\L1 s p.Bw/\Gi p.Bw.pre<=Ei r)
 apart:∀j q,j+1=i->l[j]? =some q->¬(p.kind=1/\q.kind=1)
def Cu (l:List A7):Nat:=(l.map fun r=>if r.kind=1 then r.Bu.size else 0).sum
def Fv (s:Ap) (i k:Nat):Nat:=((s.Ac.take i).map fun x=>Cu x.Ai).sum+Cu (((s.Ac[i]?).elim [] Bc.Ai).take (k+1))
inductive H8 (s:Ap):B9->Prop where
 | whole (h:Xs s):H8 s top
 | var (i:Nat) (v:Et) (aj:s.An[i]? =some v) (h:Z3 s i v):H8 s ⟨i,-1,-1,-1,-1⟩
 | state (i:Nat) (x:Bc) (a1:s.Ac[i]? =some x) (h:Th s i x):H8 s ⟨-1,i,-1,-1,-1⟩
 | Me (i k:Nat) (x:Bc) (r:A7) (a1:s.Ac[i]? =some x) (a6:x.Ai[k]? =some r) (h:Wp s r (Fv s i k)):H8 s ⟨-1,i,k,-1,-1⟩
 | act (i k m:Nat) (x:Bc) (r:A7) (a:Dv) (a1:s.Ac[i]? =some x) (a6:x.Ai[k]? =some r) (ef:r.Aw[m]? =some a) (h:Tj s r a):H8 s ⟨-1,i,k,m,-1⟩
 | part (i k m n:Nat) (x:Bc) (r:A7) (a:Dv) (p:Dl) (a1:s.Ac[i]? =some x) (a6:x.Ai[k]? =some r) (ef:r.Aw[m]? =some a) (hp:a.Ay[n]? =some p) (h:H9 s r a.Ay n p):H8 s ⟨-1,i,k,m,n⟩
structure Ef (s:Ap):Prop where
 size:s.size<=20000
 Bu:∀x∈s.Ac,∀r∈x.Ai,r.Bu.size<=10000
 act:∀x∈s.Ac,∀r∈x.Ai,∀a∈r.Aw,a.Bw.size<=10000/\∀p∈a.Ay,p.Bw.size<=10000
structure Acn (s:Ap):Prop where
 small:Ef s
 at_:∀p∈Ca s,H8 s p
end
section
open Tryz Go.RowKit
def nX:ByteArray:=⟨#[120]⟩
def nY:ByteArray:=⟨#[121]⟩
def nZ:ByteArray:=⟨#[122,95,49]⟩
def nL:ByteArray:=⟨#[97,98,99,100,101,102,103,104,105,106,107,108,109,110,111,112]⟩
def Cv:List ByteArray:=[nX,nY,nZ,nL]
theorem Q0 {s:zS} (h:s∈Cv):Hm s:=by
 simp only[Cv,Zbc,Zbe,Zic]at h;rcases h with rfl | rfl | rfl | rfl<;>exact⟨yH,yH,yH,yH,yH,yH⟩
structure D0 (m:Int) (t:Ex):Prop where
 clean:F4 t
 names:∀x∈t.pre,x.Ak.kind=9->x.Ak.name∈Cv
 Bv:∀x∈t.pre,x.Ak.kind=10->x.Ak.cap<=m
theorem D0.node {m:Int} {l:Df} {s:List Ex} (F:Kl l s) (G:l.kind=9->l.name∈Cv) (H:l.kind=10->l.cap<=m) (D:∀x∈s,D0 m x):D0 m (.node l s):=by
 refine⟨F4.node.2 ⟨F,fun x A=>(D x A).clean⟩,fun x A=>?_,fun x A=>?_⟩<;>simp only[Tree.pre,Zbc]at A<;>rcases A with rfl | A
 ·exact G
 ·obtain⟨y,hy,A⟩:=R4 A;exact(D y hy).names x A
 ·exact H
 obtain⟨y,hy,A⟩:=R4 A;exact(D y hy).Bv x A
theorem D0.sub {m:Int} {l:Df} {s:List Ex} (h:D0 m (.node l s)):∀x∈s,D0 m x:=fun x A=>
 ⟨(F4.node.1 h.clean).2 x A,fun y hy=>h.names y (by simp only[Tree.pre,Zbc];exact .inr (R9 A hy)),fun y hy=>h.Bv y (by simp only[Tree.pre,Zbc];exact .inr (R9 A hy))⟩
theorem D0.right {m:Int} {l:Df} {s:List Ex} (h:D0 m (.node l s)):Kl l s:=(F4.node.1 h.clean).1
theorem Ae7 {m:Int} (h0: -1<=m) (l:List Ex) (h:∀x∈l,x.Ak.kind=10->x.Ak.cap<=m):Gi l<=m:=by
 suffices F:∀(l:List Ex) (k:Int),k<=m->(∀x∈l,x.Ak.kind=10->x.Ak.cap<=m)->l.foldl (fun m x=>if x.Ak.kind==10 then max m x.Ak.cap else m) k<=m from F l (-1) h0 h
 intro l
 induction l with
 | nil=>intro k A _;exact A
 | cons a r D=>
  intro k A h;simp only[Zdz];refine D _ ?_ (fun x a1=>h x xP);split
  ·rename_i he;have:=h a yF (by simpa using he);omega
  exact A
mutual
def Fh (m:Int):Tree Df->Tree Df
 | .node l s=>if l.kind=10/\m<l.cap then .node ⟨9,0,nY,0⟩ []else .node l (Fe m s)
def Fe (m:Int):List (Tree Df)->List (Tree Df)
 | []=>[]
 | x::r=>Fh m x::Fe m r
end
theorem Mt (m:Int) (s:List Ex):Fe m s=s.map (Fh m):=by
 induction s with
 | nil=>rfl
 | cons a r A=>simp[Fe,A]
theorem Aet (m:Int) (t:Ex):(Fh m t).Ak.kind=t.Ak.kind\/(Fh m t).Ak.kind=9:=by
 obtain⟨l,s⟩:=t;simp only[Fh];split
 ·exact .inr rfl
 exact .inl rfl
theorem Aes (m:Int) (t:Ex):D0 9 t->D0 m (Fh m t):=by
 refine Tree.ind (P:=fun t=>D0 9 t->D0 m (Fh m t)) (fun l s M h=>?_) t;simp only[Fh];split
 ·exact D0.node (.var _ rfl rfl (Q0 (by simp[Cv])) rfl) (fun _=>by simp[Cv]) (fun h=>yX) yF
 rename_i G
 have J:∀x∈Fe m s,D0 m x:=by
  rw[Mt];intro x D;obtain⟨y,hy,rfl⟩:=Zfb.1 D;exact M y hy (h.sub y hy)
 refine D0.node ?_ (fun A=>h.names _ (Yg _) A) (fun A=>?_) J
 ·have F:=h.right
  cases F with
  | num a b c d e=>exact .num _ a b c d e
  | var a b c d=>exact .var _ a b c d
  | cap a b c d e=>exact .cap _ a b c d e
  | neg x a b c=>
   refine .neg _ _ a b ?_;rcases Aet m x with e | e<;>rw[e]
   ·exact c
   decide
  | two x y a b c=>exact .two _ _ _ a b c
 have:¬m<l.cap:=fun H=>G ⟨A,H⟩
 omega
theorem Aer (m:Int) (t:Ex):(Fh m t).size<=t.size:=by
 refine Tree.ind (P:=fun t=>(Fh m t).size<=t.size) (fun l s A=>?_) t;simp only[Fh];split
 ·simp[Tree.size,Tree.Bf]
 simp only[Tree.size];have:Tree.Bf (Fe m s)<=Tree.Bf s:=by
  rename_i D;clear D
  induction s with
  | nil=>simp[Fe]
  | cons a r F=>
   simp only[Fe,Tree.Bf];have h1:=A a yF;have h2:=F (fun x a1=>A x xP);omega
 omega
theorem D0.Apq {m:Int} {t:Ex} (h:D0 m t) {l:List Et} (D:∀x∈Cv,Fp l x=some true):∀x∈S6 t,Fp l x=some true:=by
 intro x A;simp only[S6,Zfb,Zez]at A;obtain⟨y,⟨hy,a7⟩,rfl⟩:=A;exact D _ (h.names y hy xZ)
end
section
open Tryz Go.RowKit Go.Shelf
theorem Jq (x:Nat) (w:zN):
  Calls prog 109 #[.float .f64 x] w fun e w'=>e=.returned (.agg #[.int .u8 8,.float .f64 x,zC,zE,zH])/\Below w w w':=by
 have A:=Ae w [.int .u8 8,.float .f64 x,zC,zE,zH] 118
 go_enter func109,ntmps109
 go_wp2_with fail
 exact Zho (Aq rfl _ _ _ _ _ rfl A yG yG) rfl ⟨rfl,Af _⟩
theorem Z8 (s:zS) (w:zN):
  Calls prog 110 #[s] w fun e w'=>e=.returned (.agg #[.int .u8 9,zD,s,zE,zH])/\Below w w w':=by
 have A:=Ae w [.int .u8 9,zD,s,zE,zH] 118
 go_enter func110,ntmps110
 go_wp2_with fail
 exact Zho (Aq rfl _ _ _ _ _ rfl A yG yG) rfl ⟨rfl,Af _⟩
theorem Yk (w:zN):
  Calls prog 22 #[] w fun e w'=>e=.returned (.slice (some ⟨w,0,none⟩) 4 4)/\w'=w.alloc (.cells #[.string ⟨#[97]⟩,.string ⟨#[98]⟩,.string ⟨#[99]⟩,.string ⟨#[100]⟩] 9):=by
 go_enter func22,ntmps22
 exact Z0G
theorem Vr (w:zN):
  Calls prog 111 #[] w fun e w'=>e=.returned (.slice (some ⟨w,0,none⟩) 4 4)/\w'=w.alloc (.cells #[nX,nY,nZ,nL] 9):=by
 go_enter func111,ntmps111
 exact Z0G
theorem Pr (w:zN):
  Calls prog 20 #[] w fun e w'=>e=.returned (.slice (some ⟨w,0,none⟩) 4 4)/\w'=w.alloc (.cells #[nX,nY,nZ,nL] 9):=by
 go_enter func20,ntmps20
 exact Z0G
theorem O0 (w:zN):
  Calls prog 21 #[] w fun e w'=>e=.returned (.slice (some ⟨w,0,none⟩) 2 2)/\w'=w.alloc (.cells #[.string ⟨#[115]⟩,.string ⟨#[116]⟩] 9):=by
 go_enter func21,ntmps21
 exact Z0G
theorem Hh (w:zN) (A D:zP) (F G:TypeId):
  ((w.alloc (.cells A.toArray F)).alloc (.cells D.toArray G)).rangeAt w 0 A/\((w.alloc (.cells A.toArray F)).alloc (.cells D.toArray G)).rangeAt (w+1) 0 D/\Below w w ((w.alloc (.cells A.toArray F)).alloc (.cells D.toArray G))/\((w.alloc (.cells A.toArray F)).alloc (.cells D.toArray G)).heap.size=w.heap.size+2:=by
 refine⟨?_,?_,(Af _).alloc yF _,yF⟩
 ·exact Aa (Ae w A F) (Af (w:=w.alloc (.cells A.toArray F)) (.cells D.toArray G)) yF
 have:=Ae (w.alloc (.cells A.toArray F)) D G
 exact Z1z
theorem Amf (t:Ex) (cs:zP) (w:zN) (S:zT) (au:∀b,S b->b<w.heap.size) (b8:Cz w S t cs):
  Calls prog 112 #[.agg cs.toArray] w fun e w'=>∃A,e=.returned (.agg A.toArray)/\Cz w' (fun b=>S b\/(w.heap.size<=b/\b<w'.heap.size)) (.node ⟨1,0,⟨#[]⟩,0⟩ [t]) A/\Below w w w':=by
 obtain⟨l,s⟩:=t
 obtain⟨a,c,rfl,J,H⟩:=b8.open
 obtain⟨k,num,name,cap⟩:=l
 simp only[Df.cells,Zas,Zau]at b8|-
 clear H
 have G:=Af (w:=w) (.cells #[k,.float .f64 num,name,cap,.slice a s c] 118)
 have h2:=Hh (w.alloc (.cells #[k,.float .f64 num,name,cap,.slice a s c] 118)) [.int .u8 1,zD,zC,zE,.slice (some ⟨w+1+1,0,none⟩) 1 1] [k,.float .f64 num,name,cap,.slice a s c] 118 118
 rw[Zaq]at h2
 have D:=Zaa h2
 clear h2
 go_enter func112,ntmps112
 go_wp2_with fail
 obtain⟨g1,g2,g3,g4⟩:=D.out
 generalize M:(World.alloc (World.alloc _ (Obj.cells (List.toArray [.int .u8 1,zD,zC,zE,.slice (some ⟨w+1+1,0,none⟩) 1 1]) _)) _)=F at g1 g2 g3 g4|-
 have c7:Below w w F:=G.trans (g3.mono yE)
 refine Zho (Aq rfl _ _ _ _ _ rfl g1 yG yG) rfl ⟨_,rfl,?_,c7⟩
 refine Tree.A6.shut (a:=some ⟨w+1+1,0,none⟩) (c:=1) yF (.inr ⟨_,0,rfl,.inr ⟨yE,yE⟩,fun i ae=>?_⟩)
 exact Z1l
theorem Aih (J:UInt8) (t u:Ex) (cs Y:zP) (w:zN) (S:zT) (V:∀b,S b->b<w.heap.size) (M:Cz w S t cs) (T:Cz w S u Y):
  Calls prog 113 #[J,.agg cs.toArray,.agg Y.toArray] w fun e w'=>∃W,e=.returned (.agg W.toArray)/\Cz w' (fun b=>S b\/(w.heap.size<=b/\b<w'.heap.size)) (.node ⟨J,0,⟨#[]⟩,0⟩ [t,u]) W/\Below w w w':=by
 obtain⟨l,s⟩:=t
 obtain⟨a,c,rfl,a7,a6⟩:=M.open
 obtain⟨k,num,name,cap⟩:=l
 obtain⟨l2,s2⟩:=u
 obtain⟨a2,G,rfl,a8,a5⟩:=T.open
 obtain⟨H,F,D,A⟩:=l2
 simp only[Df.cells,Zas,Zau]at M T|-
 clear a6 a5
 have a4:=Af (w:=w) (.cells #[k,.float .f64 num,name,cap,.slice a s c] 118)
 have a1:=a4.alloc yF (.cells #[H,.float .f64 F,D,A,.slice a2 s2 G] 118)
 have h2:=Hh ((w.alloc (.cells #[k,.float .f64 num,name,cap,.slice a s c] 118)).alloc (.cells #[H,.float .f64 F,D,A,.slice a2 s2 G] 118)) [J,zD,zC,zE,.slice (some ⟨w+1+1+1,0,none⟩) 2 2] [k,.float .f64 num,name,cap,.slice a s c,H,.float .f64 F,D,A,.slice a2 s2 G] 118 118
 rw[Zaq,Zaq]at h2
 have a0:=Zaa h2
 clear h2
 go_enter func113,ntmps113
 go_wp2_with fail
 obtain⟨g1,g2,g3,g4⟩:=a0.out
 generalize a9:(World.alloc (World.alloc _ (Obj.cells (List.toArray [J,zD,zC,zE,.slice (some ⟨w+1+1+1,0,none⟩) 2 2]) _)) _)=a3 at g1 g2 g3 g4|-
 have O:Below w w a3:=a1.trans (g3.mono yE)
 refine Zho (Aq rfl _ _ _ _ _ rfl g1 yG yG) rfl ⟨_,rfl,?_,O⟩
 refine Tree.A6.shut (a:=some ⟨w+1+1+1,0,none⟩) (c:=2) yF (.inr ⟨_,0,rfl,.inr ⟨yE,yE⟩,fun i ae=>?_⟩)
 have:i=0\/i=1:=vB
 rcases this with rfl | rfl
 ·exact⟨[k,.float .f64 num,name,cap,.slice a s c],fun j v h=>g2 j v (by rcases j with _ | _ | _ | _ | _ | j<;>simp at h<;>simpa using h),Tree.A6.mono (Tree.A6.below M O V) fun b U=>.inl U⟩
 exact⟨[H,.float .f64 F,D,A,.slice a2 s2 G],fun j v h=>by have:=g2 (5+j) v (by rcases j with _ | _ | _ | _ | _ | j<;>simp at h<;>simpa using h);rwa[show 0+1*5+j=0+(5+j)from yE],Tree.A6.mono (Tree.A6.below T O V) fun b U=>.inl U⟩
end
section
open Tryz Go.RowKit Go.Shelf
theorem Zn (s:List Rx) (i:Nat) (h:i<s):Be (s.take (i+1))=Be (s.take i)+s[i].B3:=by
 unfold Be Tree.B3;rw[Zay h];simp only[Tree.Ts,Tree.Dw,Zdk,Zdt,Zbj]
theorem Abo (t:Rx):t.B3<=t.size:=by
 unfold Tree.B3;rw[<-Tree.Dx];exact Zep _ _
theorem Rj (s:List Rx):Be s<=Tree.Bf s:=by
 unfold Be;rw[<-Tree.Pq];exact Zep _ _
theorem Ag7 (t:Rx):∀(cs:zP) (w:zN) (n:Nat),n<=w->t.size<=10000->Bo w n t cs->
  Calls prog 49 #[.agg cs.toArray] w fun e w'=>e=.returned (.int .i64 t.B3)/\Below w w w':=by
 refine Tree.ind (P:=fun t=>∀(cs:zP) (w:zN) (n:Nat),n<=w->t.size<=10000->Bo w n t cs->
  Calls prog 49 #[.agg cs.toArray] w fun e w'=>e=.returned (.int .i64 t.B3)/\Below w w w') (fun l s Y=>?_) t
 intro cs w n a9 bp M
 obtain⟨k,s0,s1,s2,s3,mn,mx⟩:=l
 obtain⟨a,c,rfl,ai,a1⟩:=M.open
 simp only[Cc.cells,Zas,Zau]
 have ac:=Af (w:=w) (.cells #[k,s0,s1,s2,s3,mn,mx,.slice a s c] 43)
 have ao:Tree.Bf s<=10000:=sH
 have hlen:s.length<=10000:=by have:=Tree.Co s;omega
 have ae:=Zaa (E0 ⟨k,s0,s1,s2,s3,mn,mx⟩ s)
 have ak:=Rj s
 obtain⟨z,H⟩:∃z:Nat,z=(if k=6 then 1 else 0):=⟨_,rfl⟩
 have an:z<=1:=by rw[H];split<;>omega
 have a6:=Zaa H
 have ad:=Zaa Y
 have af:=Zaa a1
 clear a1 Y M H
 have main:∀(b:Bool),((k.toNat:Int)==6)=b->(if b then 1 else 0)=(z:Int)->Calls prog 49 #[.agg #[k,s0,s1,s2,s3,mn,mx,.slice a s c]] w fun e w'=>e=.returned (.int .i64 (z+Be s:Nat))/\Below w w w':=by
  intro b U D;cases b<;>
  ·simp only[Zbd,Zhz,Zia]at D
   have ab:=Zaa D;clear D;go_enter func49,ntmps49
   go_wp2_with fail
   go_loopw [3,14] (fun u v wr=>∃i:Nat,i<=s/\v=.int .i64 i/\u=.int .i64 (z+Be (s.take i):Nat)/\Below w w wr) (fun _ v _=>s.length - (intOf v).toNat)
   case atStart=>exact⟨0,Zap _,rfl,by have D:=ab.out;simp[Be,Tree.Dw];omega,ac⟩
   case round=>
    obtain⟨i,ah,rfl,rfl,aa⟩:=hrel;by_cases A:i<s
    ·have au:(i:Int) <s.length:=by omega
     rcases af.out with e | ⟨b,o,rfl,ar,W⟩
     ·rw[e]at A;simp at A
     obtain⟨ap,h1,h2⟩:=W i A;have fm:=Aa h1 aa yE;have a4:=h2.below (aa.mono a9);obtain⟨z0,O,z2,z3,z4,z5,a0,T,V,z9,rfl⟩:=Bo.eight h2;have F:=aa.alloc aa.size (.cells #[z0,O,z2,z3,z4,z5,a0,.slice T V z9] 43);have a3:=Zn s i A;have hle:=Rj (s.take (i+1));have aj:=Tree.Rg s (i+1);have a7:=Abo s[i];have al:=Tree.D2 s s[i] (Zat A);have a2:=ad.out s[i] (Zat A) _ (wr.alloc (.cells #[z0,O,z2,z3,z4,z5,a0,.slice T V z9] 43)) n (by have:=F.size;omega) yE (a4.below (((Af _).mono xA)));have c3:=Zaa a2;have J:=Zaa a3;refine Z49 ?_;intro d0 d1 d2 d3 d4;have d5:=fm 5 _ rfl;have d6:=fm 6 _ rfl;have d7:=fm 7 _ rfl;simp only[Zaf]at d0;have a5:Be (s.take i)+s[i].B3<=10000:=yE;generalize s[i].B3=am at c3 J a5 a7;generalize Be (s.take i)=gs at J a5|-;clear a2 h1 h2 fm a4 W a3;go_wp2_with fail
     refine Z0P ?_;rintro e ag ⟨rfl,a8⟩;go_wp2_with fail
     go_roundw
     case rel=>exact⟨i+1,yE,yK,by rw[J.out];go_num,F.trans (a8.mono F.size)⟩
     case measure=>simp[intOf];omega
    obtain rfl:i=s:=by omega
    have aq:¬((s.length:Int) <s.length):=yE;rw[Zbk];exact Z0F
 rw[ae.out]
 by_cases h6:k=6
 ·subst h6
  have G:z=1:=by rw[a6.out];rfl
  subst G;exact main true rfl rfl
 have G:z=0:=by rw[a6.out,if_neg h6]
 subst G
 have:=main false (D4 h6) rfl
 rw[if_neg h6]
 exact this
end
section
open Tryz Go.RowKit Go.Shelf
theorem Al.rows {α:Type} {I:World->(Nat->Prop)->α->List Value->Prop} {K:Nat} {w:zN} {n:Nat} {l:List α} {v:Value} (h:Al I K w (fun b=>b<n) l v) (J:∀x cs,I w (fun b=>b<n) x cs->cs.length=K):
  ∃a c A,v=.slice a l c/\l.length<=c/\A.length=l.length/\Bs w n K a A/\∀i (h1:i<l.length) (h2:i<A.length),I w (fun b=>b<n) l[i] A[i]:=by
 obtain⟨a,c,rfl,D,h⟩:=h
 rcases h with rfl | ⟨b,o,rfl,U,h⟩
 ·exact⟨a,c,[],rfl,D,rfl,.inl rfl,fun i h=>yX⟩
 refine⟨some ⟨b,o,none⟩,c,List.ofFn fun i:Fin l.length=>(h i.1 i.2).choose,rfl,D,yF,.inr ⟨b,o,rfl,U,fun i G=>?_⟩,fun i h1 h2=>?_⟩
 ·have H:i<l.length:=by simpa using G
  have F:=(h i H).choose_spec;rw[Zel];exact⟨F.1,J _ _ F.2⟩
 rw[Zel]
 exact(h i h1).choose_spec.2
theorem Bs.take {w:zN} {n K:Nat} {a:zO} {A:List (List Value)} (h:Bs w n K a A) (i:Nat):Bs w n K a (A.take i):=by
 rcases h with rfl | ⟨b,o,e,U,h⟩
 ·exact .inl yF
 exact .inr ⟨b,o,e,U,fun j D=>by
  have F:j<A:=by simp at D;omega
  rw[Zen];exact h j F⟩
theorem Cf.len {w:zN} {S:zT} (x:Bc) (cs:zP) (h:Cf w S x cs):cs.length=2:=by obtain⟨v,rfl,_⟩:=h;rfl
theorem Dy.len {w:zN} {S:zT} (x:Et) (cs:zP) (h:Dy w S x cs):cs.length=4:=by rw[show cs=_ from h];rfl
theorem Cw {α:Type} {l:List α} {i:Nat} {x:α} (h:l[i]? =some x):∃A:i<l,l[i]=x:=Zeg.1 h
theorem any_false (n:Nat):(List.range n).any (fun _=>false)=false:=yF
end
end Go.Proofs.YtafmoofknjncpaaGreatDoor
