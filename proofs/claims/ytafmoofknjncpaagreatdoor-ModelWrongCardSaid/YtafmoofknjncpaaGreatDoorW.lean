/- A part of the proof that ModelWrong holds: its theorems stand as they are typed. -/
import Derived.Deep.DeepCutAuto
import Derived.Test.YtafmoofknjncpaaGreatDoorG
import Derived.Test.YtafmoofknjncpaaGreatDoorN
set_option linter.all false
set_option maxRecDepth 100000
set_option maxHeartbeats 8000000
namespace Go.Proofs.YtafmoofknjncpaaGreatDoor
open Tryz Go.RowKit Go.Shelf
theorem Ajk (w:zN):Calls prog 18 #[zH,zH] w fun e w'=>e=.returned (.bool true)/\Below w w w':=by
 go_enter func18,ntmps18
 go_wp2_with fail
 refine wp_loop_once ?_;exact Z1K
theorem Zp (f:Value) (w:zN):Calls prog 43 #[zH,zH,f] w fun e w'=>e=.returned (.bool true)/\Below w w w':=by
 go_enter func43,ntmps43
 go_wp2_with fail
 refine wp_loop_once ?_;exact Z1K
def G8:List Value:=[.slice none 0 0,.int .u8 0,.int .i64 0]
def Gf:List Value:=[.slice none 0 0,.int .u8 0,.int .i64 0,.string ⟨#[]⟩,.string ⟨#[]⟩,.int .i64 0,.int .i64 0,.slice none 0 0]
theorem L9 (w:zN):Calls prog 13 #[.agg G8.toArray,.agg G8.toArray] w fun e w'=>e=.returned (.bool true)/\Below w w w':=by
 obtain⟨J,A⟩:=zL ((w.alloc (.cells G8.toArray 60)).alloc (.cells G8.toArray 60));have h2:=Hh w G8 G8 60 60;rw[A]at h2;obtain⟨F,U,T,M⟩:=h2;have a0:=F 0 _ rfl;have H:=F 1 _ rfl;have a2:=F 2 _ rfl;have O:=U 0 _ rfl;have b1:=U 1 _ rfl;have b2:=U 2 _ rfl;simp only[Zac]at a0 H a2 O b1 b2;have G:=Zaa A;have W:w.heap.size+2<=J:=yE;clear A F U M;simp only[G8]at G|-;go_enter func13,ntmps13
 go_upto_region 1 with fail
 have A:=G.out;rw[A];clear A G;go_wp2_with fail
 refine(Ajk _).mono ?_;rintro e V ⟨rfl,D⟩;have Y:=(Zaw (a:=⟨w,1,none⟩) (D.block w yE)).trans H;have a1:=(Zaw (a:=⟨w,2,none⟩) (D.block w yE)).trans a2;have q1:=(Zaw (a:=⟨w+1,1,none⟩) (D.block (w+1) yE)).trans b1;have a3:=(Zaw (a:=⟨w+1,2,none⟩) (D.block (w+1) yE)).trans b2;go_wp2_with fail
 go_ret;exact⟨rfl,T.trans (D.mono yE)⟩
theorem P8 (w:zN):Calls prog 12 #[.agg Gf.toArray,.agg Gf.toArray] w fun e w'=>e=.returned (.bool true)/\Below w w w':=by
 obtain⟨G,D⟩:=zL ((w.alloc (.cells Gf.toArray 62)).alloc (.cells Gf.toArray 62));have h2:=Hh w Gf Gf 62 62;rw[D]at h2;obtain⟨A,U,a6,W⟩:=h2;have a0:=A 0 _ rfl;have aa:=A 1 _ rfl;have a2:=A 2 _ rfl;have Y:=U 0 _ rfl;have b1:=U 1 _ rfl;have b2:=U 2 _ rfl;simp only[Zac]at a0 aa a2 Y b1 b2;have ad:w.heap.size+2<=G:=yE;have F:=Zaa D;have M:=Zaa A;have J:=Zaa U;clear D A U W;simp only[Gf]at F M J|-;go_enter func12,ntmps12
 go_upto_region 2 with fail
 have D:=F.out;rw[D];clear D F;go_wp2_with fail
 have H:=L9 G;simp only[G8]at H;refine H.mono ?_;rintro e ac ⟨rfl,al⟩;have A:=Aa M.out al yE;have U:=Aa J.out al yE;have T:=A 3 _ rfl;have V:=A 4 _ rfl;have a7:=A 5 _ rfl;have a9:=A 6 _ rfl;have a8:=A 7 _ rfl;have a4:=U 3 _ rfl;have a5:=U 4 _ rfl;have a1:=U 5 _ rfl;have a3:=U 6 _ rfl;have ab:=U 7 _ rfl;simp only[Zac]at T V a7 a9 a8 a4 a5 a1 a3 ab;clear A U;go_wp2_with fail
 refine(Zp _ _).mono ?_;rintro e ae ⟨rfl,O⟩;go_wp2_with fail
 go_ret;exact⟨rfl,(a6.trans (al.mono yE)).trans (O.mono wW)⟩
end Go.Proofs.YtafmoofknjncpaaGreatDoor
