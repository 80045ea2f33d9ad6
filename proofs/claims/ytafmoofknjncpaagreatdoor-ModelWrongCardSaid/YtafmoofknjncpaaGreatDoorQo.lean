/- A part of the proof that ModelWrong holds: its theorems stand as they are typed. -/
import Derived.Test.YtafmoofknjncpaaGreatDoorRows
import Derived.JoinedOf
import Derived.Test.YtafmoofknjncpaaGreatDoorZm
set_option linter.all false
set_option maxRecDepth 100000
set_option maxHeartbeats 8000000
namespace Go.Proofs.YtafmoofknjncpaaGreatDoor
open Go.Proofs.Tryz Go
set_option maxRecDepth 100000
theorem Fj {a b:Bool} (h:a=true) (k:b=true):(a&&b)=true:=by rw[h,k];rfl
theorem Arj:(Rows.modelWrongRow.wf (OpenSpec.ofChange Rows.modelWrongSpec))=true:=by kernel_rfl
theorem Ari:(laidOutB prog)=true:=by kernel_rfl
theorem Arh:(mapsRowed prog)=true:=by kernel_rfl
theorem Arf:(f3.params.all (prog.readableRec ·))=true:=by kernel_rfl
theorem Are:(namedTie prog Rows.modelWrongRow.named Rows.modelWrongSpec.vars)=true:=by kernel_rfl
theorem Ard:((Rows.modelWrongRow.stops==[]))=true:=by kernel_rfl
theorem Arc:((prog.stops==[]))=true:=by kernel_rfl
theorem Arb:((Rows.modelWrongRow.knobs==[]))=true:=by kernel_rfl
theorem Ara:((prog.stopKnobs==[]))=true:=by kernel_rfl
theorem Api:((Rows.modelWrongRow.inPlace==prog.inPlace 3))=true:=by kernel_rfl
theorem Aph:((Rows.modelWrongRow.unfollowed==prog.unfollowed 3))=true:=by kernel_rfl
theorem Apg:((Rows.modelWrongRow.recurses==prog.recurses 3))=true:=by kernel_rfl
theorem Apf:((Rows.modelWrongRow.named==prog.varsNamed 3))=true:=by kernel_rfl
theorem Ape:((Rows.modelWrongRow.maps==(f3.params.toList++Rows.modelWrongSpec.plain.varTypes prog).any (prog.mapsRec ·)))=true:=by kernel_rfl
theorem Apd:((Rows.modelWrongRow.ifaces==(f3.params.toList++Rows.modelWrongSpec.plain.varTypes prog).any (prog.ifacesRec ·)))=true:=by kernel_rfl
theorem Apc:((Rows.modelWrongRow.mapsOut==prog.mapsAmong f3.resultTypes.toList))=true:=by kernel_rfl
theorem Apb:((Rows.modelWrongRow.loops==(f3.params.toList++Rows.modelWrongSpec.plain.varTypes prog).any (prog.loopsFrom ·)))=true:=by kernel_rfl
theorem Apa:((Rows.modelWrongRow.wideKeys==(f3.params.toList++Rows.modelWrongSpec.plain.varTypes prog++f3.resultTypes.toList).any (prog.wideKeysFrom ·)))=true:=by kernel_rfl
theorem Ao9:(Rows.modelWrongSpec.vars.all (prog.varReadable ·))=true:=by kernel_rfl
theorem Ao8:(f3.resultTypes.all (fun t=>prog.readableRec t&&decide (t<prog.types.size)))=true:=by kernel_rfl
theorem Ao7:((Rows.modelWrongRow.ifacesOut==f3.resultTypes.toList.any (prog.ifacesRec ·)))=true:=by kernel_rfl
theorem Ao6:((Rows.modelWrongRow.loopsOut==f3.resultTypes.toList.any (prog.loopsFrom ·)))=true:=by kernel_rfl
theorem Ao5:((Rows.modelWrongRow.plainKeys==prog.plainKeys))=true:=by kernel_rfl
theorem Ao4:(Rows.modelWrongRow.shortTexts.isNone)=true:=by kernel_rfl
theorem Ao3:(prog.stopsHeard)=true:=by kernel_rfl
theorem Ao2:(prog.mayEnter)=true:=by kernel_rfl
theorem Ao1:((Rows.modelWrongRow.lifted==prog.liftsFinal))=true:=by kernel_rfl
theorem Ao0:((prog.make==some Rows.modelWrongRow.make))=true:=by kernel_rfl
theorem Aoz:((Rows.modelWrongRow.kinds==(if Rows.modelWrongRow.domain.isEmpty then []else f3.params.toList.map fun t=>match prog.underlying t with | some (.int k)=>some k | _=>none)))=true:=by kernel_rfl
theorem Aoy:((Rows.modelWrongRow.pinned==Rows.modelWrongRow.pinnedBy))=true:=by kernel_rfl
theorem Aox:((Rows.modelWrongRow.veiled==(f3.params.toList++Rows.modelWrongSpec.plain.varTypes prog++f3.resultTypes.toList).any (prog.veiledRec ·)))=true:=by kernel_rfl
theorem Aow:(Rows.modelWrongRow.veiledFits prog f3.params.toList (f3.params.toList++Rows.modelWrongSpec.plain.varTypes prog++f3.resultTypes.toList))=true:=by kernel_rfl
theorem Af4:joinedFacts prog 3 f3 Rows.modelWrongSpec Rows.modelWrongRow=true:=
 Fj (Fj (Fj (Fj (Fj (Fj (Fj (Fj (Fj (Fj (Fj (Fj (Fj (Fj (Fj (Fj (Fj (Fj (Fj (Fj (Fj (Fj (Fj (Fj (Fj (Fj (Fj (Fj (Fj (Fj (Fj (Arj) Ari) Arh) Arf) Are) Ard) Arc) Arb) Ara) Api) Aph) Apg) Apf) Ape) Apd) Apc) Apb) Apa) Ao9) Ao8) Ao7) Ao6) Ao5) Ao4) Ao3) Ao2) Ao1) Ao0) Aoz) Aoy) Aox) Aow
end Go.Proofs.YtafmoofknjncpaaGreatDoor
