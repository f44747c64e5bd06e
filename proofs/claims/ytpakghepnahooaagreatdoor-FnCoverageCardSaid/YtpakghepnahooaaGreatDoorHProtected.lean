/- Contracts of the laws' helpers over the type Protected and slices of it. Conditions: bounded lengths. -/
import Derived.Test.YtpakghepnahooaaGreatDoorInfoR
import Derived.Test.YtpakghepnahooaaGreatDoorOver
set_option linter.unusedVariables false
set_option linter.unusedSimpArgs false
namespace Go.Proofs.YtpakghepnahooaaGreatDoor
open Go.RowKit
theorem Q48 {p:Prop} (h:p:=by decide):p:=h
theorem DTerrain.siz_tr (x:DTerrain):sizL x.tr=siz (zam x.heights)+siz (zam x.clutter):=by
 simp only[DTerrain.tr,sizL,siz,intT];omega
theorem DSite.siz_s (l:List DSite):siz (DSite.sT l)=l.length+sizL (l.flatMap DSite.tr):=siz_flat DSite.tr 4 Q48 DSite.tr_len l
theorem DSector.siz_s (l:List DSector):siz (DSector.sT l)=l.length+sizL (l.flatMap DSector.tr):=siz_flat DSector.tr 9 Q48 DSector.tr_len l
theorem DAntenna.siz_tr (x:DAntenna):sizL x.tr=x.name.size+siz (zam x.horizontal)+siz (zam x.vertical):=by
 simp only[DAntenna.tr,sizL,siz,intT,strT];omega
theorem DAntenna.siz_s (l:List DAntenna):siz (DAntenna.sT l)=l.length+sizL (l.flatMap DAntenna.tr):=siz_flat DAntenna.tr 4 Q48 DAntenna.tr_len l
theorem DMode.siz_s (l:List DMode):siz (DMode.sT l)=l.length+sizL (l.flatMap DMode.tr):=siz_flat DMode.tr 2 Q48 DMode.tr_len l
theorem DRadio.siz_tr (x:DRadio):sizL x.tr=x.name.size+siz (DMode.sT x.modes):=by
 simp only[DRadio.tr,sizL,siz,intT,strT];omega
theorem DRadio.siz_s (l:List DRadio):siz (DRadio.sT l)=l.length+sizL (l.flatMap DRadio.tr):=siz_flat DRadio.tr 6 Q48 DRadio.tr_len l
theorem DNetwork.siz_tr (x:DNetwork):sizL x.tr=siz (DSite.sT x.sites)+siz (DSector.sT x.sectors)+siz (DAntenna.sT x.antennas)+siz (DRadio.sT x.radios):=by
 simp only[DNetwork.tr,sizL];omega
end Go.Proofs.YtpakghepnahooaaGreatDoor
