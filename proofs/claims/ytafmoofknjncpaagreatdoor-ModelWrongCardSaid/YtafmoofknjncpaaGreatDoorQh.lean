/- A part of the proof that ModelWrong holds: its theorems stand as they are typed. -/
import Derived.Lib.ConvBytes
import Derived.Test.YtafmoofknjncpaaGreatDoorQ
set_option linter.all false
set_option maxRecDepth 100000
set_option maxHeartbeats 8000000
namespace Go.Proofs.YtafmoofknjncpaaGreatDoor
open Tryz Go.RowKit Go.Shelf
def Y1 (c:UInt8):Ct:=if c=46 then⟨2,0⟩else if c=33 then⟨3,0⟩else⟨1,c⟩
def Nr (t:zS):List Ct:=t.data.toList.map Y1
theorem An5 (t:zS):(Nr t).length=t.size:=by simp[Nr]
theorem Wf (t:zS) (hlen:t.size<=60) (w:zN):
  Calls prog 17 #[t] w fun e w'=>∃a c,e=.returned (.slice a (Nr t).length c)/\(Nr t).length<=c/\Bs w' w' 2 a ((Nr t).map Ct.cells)/\Below w w w':=by
 have hu:prog.underlying 9=some .string:=yG
 have a4:prog.underlying 22=some (.slice 5):=yG
 have he:prog.underlying 5=some (.int .u8):=yG
 have q:=Lib.run_convert_string_bytes w 9 22 5 t hu a4 he
 have O:=Lib.bytesWorld_cell w 5 t
 have hold:=Lib.bytesWorld_at_old w 5 t
 have a3:=Lib.bytesWorld_size w 5 t
 have a0:Below w w (Lib.bytesWorld w 5 t):=⟨rfl,rfl,rfl,yE,fun k a9=>hold k a9⟩
 generalize Lib.bytesWorld w 5 t=A at q O hold a3 a0
 clear hu a4 he hold
 have af:=Au.nil Hw A A 55 2
 go_enter func17,ntmps17
 go_wp2_with fail
 have a5:A.rangeAt w 0 (t.data.toList.map fun x=>.int .u8 x.toNat):=fun j v a1=>by
  rw[Zbl]at a1;obtain⟨x,W,rfl⟩:=Zgp.1 a1;have a2:j<t.size:=by have:=(Zeg.1 W).1;simpa using this
  rw[Zac,O j a2,List.getD_eq_getElem?_getD,W];rfl
 have ad:=Zaa a5
 have H:=An5 t
 have ak:w.heap.size+1<=A:=yE
 clear a5 O q a3
 go_loopw [3,9] (fun ab v wr=>∃j:Nat,j<=t.size/\v=.int .i64 j/\Au Hw A 55 2 wr ((Nr t).take j) ab/\Below A A wr) (fun _ v _=>t.size - (intOf v).toNat)
 case atStart=>exact⟨0,Zap _,rfl,af,Zai _ _⟩
 case round=>
  obtain⟨j,a2,rfl,F,i5⟩:=hrel;obtain⟨a6,lc,rfl,a8⟩:=F.shape;have J:((Nr t).take j).length=j:=by rw[Zbo,H];omega
  have V:=i5.size;rcases Zga j t.size with ao | al
  ·have aj:(j:Int) <t.size:=by omega
   have a7:j<t.data.toList:=xX;have M:(Nr t).take (j+1)=(Nr t).take j++[Y1 t.data.toList[j]]:=by
    rw[Zay (by rw[H];exact ao)];simp[Nr]
   have Y:=Aa ad.out i5 yE j _ (by rw[Zbl,Zam a7];rfl);rw[Zac]at Y;generalize t.data.toList[j]=c at M Y;generalize(Nr t).take j=L at F J M a8|-;have zd:=Zaa J;have tc:=Zaa M;have U:=Zaa F;clear M F a7 J H;by_cases D:c=46
   ·have q1:((c.toNat:Int)==46)=true:=H4 D
    have bi0:=Zaa (show Y1 c=⟨2,0⟩by rw[Y1,if_pos D]);clear D;go_wp2_with (at_builtin;go_loud (refine Am Hw.Ab rfl _ _ 32 rfl A.heap.size 55 2 2 D5 Ed yH L _ rfl U.out (⟨2,0⟩:Ct) [.int .u8 2,zJ] rfl rfl rfl rfl yL sO (by rw[zd.out];omega) V ?_))
    exact Z1k
   have q1:((c.toNat:Int)==46)=false:=D4 D;by_cases G:c=33
   ·have ac:((c.toNat:Int)==33)=true:=H4 G
    have bi0:=Zaa (show Y1 c=⟨3,0⟩by rw[Y1,if_neg D,if_pos G]);clear D G;go_wp2_with (at_builtin;go_loud (refine Am Hw.Ab rfl _ _ 32 rfl A.heap.size 55 2 2 D5 Ed yH L _ rfl U.out (⟨3,0⟩:Ct) [.int .u8 3,zJ] rfl rfl rfl rfl yL sO (by rw[zd.out];omega) V ?_))
    exact Z1k
   have ac:((c.toNat:Int)==33)=false:=D4 G;have bi0:=Zaa (show Y1 c=⟨1,c⟩by rw[Y1,if_neg D,if_neg G]);clear D G;go_wp2_with (at_builtin;go_loud (refine Am Hw.Ab rfl _ _ 32 rfl A.heap.size 55 2 2 D5 Ed yH L _ rfl U.out (⟨1,c⟩:Ct) [.int .u8 1,.int .u8 c.toNat] rfl rfl rfl rfl yL sO (by rw[zd.out];omega) V ?_))
   exact Z1k
  obtain rfl:j=t.size:=by omega
  have ai:¬((t.size:Int) <t.size):=yE;have T:(Nr t).take t.size=Nr t:=by rw[<-H];exact Zbk
  rw[T]at F a8;rw[T];have ae:Bs wr wr 2 a6 ((Nr t).map Ct.cells):=by
   obtain⟨ag,ah,e,aa⟩:=Al.flat Ct.cells (F.list Hw.Ab) (fun x cs h=>h) (fun x=>rfl);cases e;have:=aa.2 (Nr t).length;rwa[Zbk]at this
  clear F T J;go_wp2_with fail
  go_ret;exact⟨a6,lc,rfl,yE,ae,a0.trans (i5.mono yE)⟩
end Go.Proofs.YtafmoofknjncpaaGreatDoor
