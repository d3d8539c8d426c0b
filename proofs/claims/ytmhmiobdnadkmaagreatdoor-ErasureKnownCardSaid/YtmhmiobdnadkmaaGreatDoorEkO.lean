/- The run: its links joined. -/
import Derived.Test.YtmhmiobdnadkmaaGreatDoorEkK0
import Derived.Test.YtmhmiobdnadkmaaGreatDoorEkK1
import Derived.Test.YtmhmiobdnadkmaaGreatDoorEkK2
import Derived.Test.YtmhmiobdnadkmaaGreatDoorEkK3
import Derived.KernelRfl
namespace Go.Proofs.YtmhmiobdnadkmaaGreatDoor.Ek
open Go Go.RowKit Go.Proofs Go.Proofs.YtmhmiobdnadkmaaGreatDoor.X
theorem hu106 : TldsOk cx 106 u106 := (tlds_ok cx_ok cx_names cx_intr cx_mixed rfl (utbl := tu106) trivial ku106_0)
theorem hu63 : TldsOk cx 63 u63 := (tlds_ok cx_ok cx_names cx_intr cx_mixed rfl (utbl := tu63) trivial ku63_0)
theorem hu229 : TldsOk cx 229 u229 := (tlds_ok cx_ok cx_names cx_intr cx_mixed rfl (utbl := tu229) trivial ku229_0)
theorem hu105 : TldsOk cx 105 u105 := (tlds_ok cx_ok cx_names cx_intr cx_mixed rfl (utbl := tu105) trivial ku105_0)
theorem hu104 : TldsOk cx 104 u104 := (tlds_ok cx_ok cx_names cx_intr cx_mixed rfl (utbl := tu104) ⟨hu106, trivial⟩ ku104_0)
theorem hu14 : TldsOk cx 14 u14 := (tlds_ok cx_ok cx_names cx_intr cx_mixed rfl (utbl := tu14) ⟨hu63, trivial⟩ ku14_0)
theorem hu261 : TldsOk cx 261 u261 := (tlds_ok cx_ok cx_names cx_intr cx_mixed rfl (utbl := tu261) ⟨hu229, trivial⟩ ku261_0)
theorem hu27 : TldsOk cx 27 u27 := (tlds_ok cx_ok cx_names cx_intr cx_mixed rfl (utbl := tu27) trivial ku27_0)
theorem hu60 : TldsOk cx 60 u60 := (tlds_ok cx_ok cx_names cx_intr cx_mixed rfl (utbl := tu60) ⟨hu14, trivial⟩ ku60_0)
theorem hu48 : TldsOk cx 48 u48 := (tlds_ok cx_ok cx_names cx_intr cx_mixed rfl (utbl := tu48) ⟨hu104, ⟨hu105, ⟨hu106, trivial⟩⟩⟩ ku48_0)
theorem hu228 : TldsOk cx 228 u228 := (tlds_ok cx_ok cx_names cx_intr cx_mixed rfl (utbl := tu228) ⟨hu261, trivial⟩ ku228_0)
theorem hu79 : TldsOk cx 79 u79 := (tlds_ok cx_ok cx_names cx_intr cx_mixed rfl (utbl := tu79) trivial ku79_0)
theorem o11 : EntryOk cx 180 e11 := chain2 cx_ok cx_names cx_intr cx_mixed (utbl := v11) (tbl := t11) trivial trivial k11
theorem o15 : EntryOk cx 180 e15 := chain2 cx_ok cx_names cx_intr cx_mixed (utbl := v15) (tbl := t15) trivial trivial k15
theorem o21 : EntryOk cx 53 e21 := chain2 cx_ok cx_names cx_intr cx_mixed (utbl := v21) (tbl := t21) ⟨hu228, ⟨hu229, trivial⟩⟩ ⟨⟨o11, ⟨o15, trivial⟩⟩, trivial⟩ k21
theorem o25 : EntryOk cx 120 e25 := chain2 cx_ok cx_names cx_intr cx_mixed (utbl := v25) (tbl := t25) ⟨hu48, trivial⟩ trivial k25
theorem o34 : EntryOk cx 8 e34 := chain2 cx_ok cx_names cx_intr cx_mixed (utbl := v34) (tbl := t34) ⟨hu79, ⟨hu48, ⟨hu60, ⟨hu27, trivial⟩⟩⟩⟩ ⟨⟨o21, trivial⟩, ⟨⟨o25, trivial⟩, trivial⟩⟩ k34
theorem o40 : EntryOk cx 189 e40 := chain2 cx_ok cx_names cx_intr cx_mixed (utbl := v40) (tbl := t40) trivial trivial k40
theorem o48 : EntryOk cx 189 e48 := chain2 cx_ok cx_names cx_intr cx_mixed (utbl := v48) (tbl := t48) trivial trivial k48
theorem o56 : EntryOk cx 189 e56 := chain2 cx_ok cx_names cx_intr cx_mixed (utbl := v56) (tbl := t56) trivial trivial k56
theorem o65 : EntryOk cx 10 e65 := chain2 cx_ok cx_names cx_intr cx_mixed (utbl := v65) (tbl := t65) ⟨hu48, ⟨hu79, ⟨hu27, trivial⟩⟩⟩ ⟨⟨o40, ⟨o48, ⟨o56, trivial⟩⟩⟩, trivial⟩ k65
theorem o77 : EntryOk cx 189 e77 := chain2 cx_ok cx_names cx_intr cx_mixed (utbl := v77) (tbl := t77) trivial trivial k77
theorem o85 : EntryOk cx 189 e85 := chain2 cx_ok cx_names cx_intr cx_mixed (utbl := v85) (tbl := t85) trivial trivial k85
theorem o98 : EntryOk cx 180 e98 := chain2 cx_ok cx_names cx_intr cx_mixed (utbl := v98) (tbl := t98) trivial trivial k98
theorem o102 : EntryOk cx 180 e102 := chain2 cx_ok cx_names cx_intr cx_mixed (utbl := v102) (tbl := t102) trivial trivial k102
theorem o108 : EntryOk cx 53 e108 := chain2 cx_ok cx_names cx_intr cx_mixed (utbl := v108) (tbl := t108) ⟨hu228, trivial⟩ ⟨⟨o98, ⟨o102, trivial⟩⟩, trivial⟩ k108
theorem o112 : EntryOk cx 120 e112 := chain2 cx_ok cx_names cx_intr cx_mixed (utbl := v112) (tbl := t112) ⟨hu48, trivial⟩ trivial k112
theorem o121 : EntryOk cx 8 e121 := chain2 cx_ok cx_names cx_intr cx_mixed (utbl := v121) (tbl := t121) ⟨hu48, ⟨hu79, ⟨hu60, ⟨hu27, trivial⟩⟩⟩⟩ ⟨⟨o77, ⟨o85, trivial⟩⟩, ⟨⟨o108, trivial⟩, ⟨⟨o112, trivial⟩, trivial⟩⟩⟩ k121
theorem o127 : EntryOk cx 189 e127 := chain2 cx_ok cx_names cx_intr cx_mixed (utbl := v127) (tbl := t127) trivial trivial k127
theorem o135 : EntryOk cx 189 e135 := chain2 cx_ok cx_names cx_intr cx_mixed (utbl := v135) (tbl := t135) trivial trivial k135
theorem o150 : EntryOk cx 235 e150 := chain2 cx_ok cx_names cx_intr cx_mixed (utbl := v150) (tbl := t150) trivial trivial k150
theorem o163 : EntryOk cx 47 e163 := chain2 cx_ok cx_names cx_intr cx_mixed (utbl := v163) (tbl := t163) trivial trivial k163
theorem o165 : EntryOk cx 57 e165 := chain2 cx_ok cx_names cx_intr cx_mixed (utbl := v165) (tbl := t165) ⟨hu229, ⟨hu228, ⟨hu48, trivial⟩⟩⟩ ⟨⟨o150, trivial⟩, ⟨⟨o163, trivial⟩, trivial⟩⟩ k165
theorem o171 : EntryOk cx 235 e171 := chain2 cx_ok cx_names cx_intr cx_mixed (utbl := v171) (tbl := t171) trivial trivial k171
theorem o184 : EntryOk cx 47 e184 := chain2 cx_ok cx_names cx_intr cx_mixed (utbl := v184) (tbl := t184) trivial trivial k184
theorem o185 : EntryOk cx 124 e185 := chain2 cx_ok cx_names cx_intr cx_mixed (utbl := v185) (tbl := t185) ⟨hu229, ⟨hu228, trivial⟩⟩ ⟨⟨o171, trivial⟩, ⟨⟨o184, trivial⟩, trivial⟩⟩ k185
theorem o190 : EntryOk cx 180 e190 := chain2 cx_ok cx_names cx_intr cx_mixed (utbl := v190) (tbl := t190) trivial trivial k190
theorem o194 : EntryOk cx 180 e194 := chain2 cx_ok cx_names cx_intr cx_mixed (utbl := v194) (tbl := t194) trivial trivial k194
theorem o203 : EntryOk cx 10 e203 := chain2 cx_ok cx_names cx_intr cx_mixed (utbl := v203) (tbl := t203) ⟨hu228, ⟨hu48, ⟨hu60, ⟨hu229, ⟨hu79, ⟨hu27, trivial⟩⟩⟩⟩⟩⟩ ⟨⟨o127, ⟨o135, trivial⟩⟩, ⟨⟨o165, trivial⟩, ⟨⟨o185, trivial⟩, ⟨⟨o190, ⟨o194, trivial⟩⟩, trivial⟩⟩⟩⟩ k203
theorem o209 : EntryOk cx 189 e209 := chain2 cx_ok cx_names cx_intr cx_mixed (utbl := v209) (tbl := t209) trivial trivial k209
theorem o217 : EntryOk cx 189 e217 := chain2 cx_ok cx_names cx_intr cx_mixed (utbl := v217) (tbl := t217) trivial trivial k217
theorem o225 : EntryOk cx 189 e225 := chain2 cx_ok cx_names cx_intr cx_mixed (utbl := v225) (tbl := t225) trivial trivial k225
theorem o240 : EntryOk cx 235 e240 := chain2 cx_ok cx_names cx_intr cx_mixed (utbl := v240) (tbl := t240) trivial trivial k240
theorem o253 : EntryOk cx 47 e253 := chain2 cx_ok cx_names cx_intr cx_mixed (utbl := v253) (tbl := t253) trivial trivial k253
theorem o255 : EntryOk cx 57 e255 := chain2 cx_ok cx_names cx_intr cx_mixed (utbl := v255) (tbl := t255) ⟨hu228, ⟨hu229, ⟨hu48, trivial⟩⟩⟩ ⟨⟨o240, trivial⟩, ⟨⟨o253, trivial⟩, trivial⟩⟩ k255
theorem o261 : EntryOk cx 235 e261 := chain2 cx_ok cx_names cx_intr cx_mixed (utbl := v261) (tbl := t261) trivial trivial k261
theorem o274 : EntryOk cx 47 e274 := chain2 cx_ok cx_names cx_intr cx_mixed (utbl := v274) (tbl := t274) trivial trivial k274
theorem o275 : EntryOk cx 124 e275 := chain2 cx_ok cx_names cx_intr cx_mixed (utbl := v275) (tbl := t275) ⟨hu228, ⟨hu229, trivial⟩⟩ ⟨⟨o261, trivial⟩, ⟨⟨o274, trivial⟩, trivial⟩⟩ k275
theorem o280 : EntryOk cx 180 e280 := chain2 cx_ok cx_names cx_intr cx_mixed (utbl := v280) (tbl := t280) trivial trivial k280
theorem o284 : EntryOk cx 180 e284 := chain2 cx_ok cx_names cx_intr cx_mixed (utbl := v284) (tbl := t284) trivial trivial k284
theorem o293 : EntryOk cx 10 e293 := chain2 cx_ok cx_names cx_intr cx_mixed (utbl := v293) (tbl := t293) ⟨hu228, ⟨hu48, ⟨hu60, ⟨hu229, ⟨hu79, ⟨hu27, trivial⟩⟩⟩⟩⟩⟩ ⟨⟨o209, ⟨o217, ⟨o225, trivial⟩⟩⟩, ⟨⟨o255, trivial⟩, ⟨⟨o275, trivial⟩, ⟨⟨o280, ⟨o284, trivial⟩⟩, trivial⟩⟩⟩⟩ k293
theorem o299 : EntryOk cx 189 e299 := chain2 cx_ok cx_names cx_intr cx_mixed (utbl := v299) (tbl := t299) trivial trivial k299
theorem o307 : EntryOk cx 189 e307 := chain2 cx_ok cx_names cx_intr cx_mixed (utbl := v307) (tbl := t307) trivial trivial k307
theorem o315 : EntryOk cx 189 e315 := chain2 cx_ok cx_names cx_intr cx_mixed (utbl := v315) (tbl := t315) trivial trivial k315
theorem o330 : EntryOk cx 235 e330 := chain2 cx_ok cx_names cx_intr cx_mixed (utbl := v330) (tbl := t330) trivial trivial k330
theorem o343 : EntryOk cx 47 e343 := chain2 cx_ok cx_names cx_intr cx_mixed (utbl := v343) (tbl := t343) trivial trivial k343
theorem o344 : EntryOk cx 124 e344 := chain2 cx_ok cx_names cx_intr cx_mixed (utbl := v344) (tbl := t344) ⟨hu228, ⟨hu229, trivial⟩⟩ ⟨⟨o330, trivial⟩, ⟨⟨o343, trivial⟩, trivial⟩⟩ k344
theorem o349 : EntryOk cx 180 e349 := chain2 cx_ok cx_names cx_intr cx_mixed (utbl := v349) (tbl := t349) trivial trivial k349
theorem o353 : EntryOk cx 180 e353 := chain2 cx_ok cx_names cx_intr cx_mixed (utbl := v353) (tbl := t353) trivial trivial k353
theorem o360 : EntryOk cx 61 e360 := chain2 cx_ok cx_names cx_intr cx_mixed (utbl := v360) (tbl := t360) ⟨hu228, ⟨hu48, ⟨hu229, trivial⟩⟩⟩ ⟨⟨o344, trivial⟩, ⟨⟨o349, ⟨o353, trivial⟩⟩, trivial⟩⟩ k360
theorem o366 : EntryOk cx 189 e366 := chain2 cx_ok cx_names cx_intr cx_mixed (utbl := v366) (tbl := t366) trivial trivial k366
theorem o374 : EntryOk cx 189 e374 := chain2 cx_ok cx_names cx_intr cx_mixed (utbl := v374) (tbl := t374) trivial trivial k374
theorem o382 : EntryOk cx 189 e382 := chain2 cx_ok cx_names cx_intr cx_mixed (utbl := v382) (tbl := t382) trivial trivial k382
theorem o390 : EntryOk cx 12 e390 := chain2 cx_ok cx_names cx_intr cx_mixed (utbl := v390) (tbl := t390) ⟨hu48, ⟨hu60, ⟨hu79, ⟨hu27, trivial⟩⟩⟩⟩ ⟨⟨o299, ⟨o307, ⟨o315, ⟨o366, ⟨o374, ⟨o382, trivial⟩⟩⟩⟩⟩⟩, ⟨⟨o360, trivial⟩, trivial⟩⟩ k390
theorem o396 : EntryOk cx 189 e396 := chain2 cx_ok cx_names cx_intr cx_mixed (utbl := v396) (tbl := t396) trivial trivial k396
theorem o404 : EntryOk cx 189 e404 := chain2 cx_ok cx_names cx_intr cx_mixed (utbl := v404) (tbl := t404) trivial trivial k404
theorem o412 : EntryOk cx 189 e412 := chain2 cx_ok cx_names cx_intr cx_mixed (utbl := v412) (tbl := t412) trivial trivial k412
theorem o433 : EntryOk cx 235 e433 := chain2 cx_ok cx_names cx_intr cx_mixed (utbl := v433) (tbl := t433) trivial trivial k433
theorem o439 : EntryOk cx 235 e439 := chain2 cx_ok cx_names cx_intr cx_mixed (utbl := v439) (tbl := t439) trivial trivial k439
theorem o446 : EntryOk cx 47 e446 := chain2 cx_ok cx_names cx_intr cx_mixed (utbl := v446) (tbl := t446) trivial trivial k446
theorem o448 : EntryOk cx 57 e448 := chain2 cx_ok cx_names cx_intr cx_mixed (utbl := v448) (tbl := t448) ⟨hu229, ⟨hu228, ⟨hu48, trivial⟩⟩⟩ ⟨⟨o433, ⟨o439, trivial⟩⟩, ⟨⟨o446, trivial⟩, trivial⟩⟩ k448
theorem o460 : EntryOk cx 235 e460 := chain2 cx_ok cx_names cx_intr cx_mixed (utbl := v460) (tbl := t460) trivial trivial k460
theorem o466 : EntryOk cx 235 e466 := chain2 cx_ok cx_names cx_intr cx_mixed (utbl := v466) (tbl := t466) trivial trivial k466
theorem o473 : EntryOk cx 47 e473 := chain2 cx_ok cx_names cx_intr cx_mixed (utbl := v473) (tbl := t473) trivial trivial k473
theorem o474 : EntryOk cx 124 e474 := chain2 cx_ok cx_names cx_intr cx_mixed (utbl := v474) (tbl := t474) ⟨hu229, ⟨hu228, trivial⟩⟩ ⟨⟨o460, ⟨o466, trivial⟩⟩, ⟨⟨o473, trivial⟩, trivial⟩⟩ k474
theorem o479 : EntryOk cx 180 e479 := chain2 cx_ok cx_names cx_intr cx_mixed (utbl := v479) (tbl := t479) trivial trivial k479
theorem o483 : EntryOk cx 180 e483 := chain2 cx_ok cx_names cx_intr cx_mixed (utbl := v483) (tbl := t483) trivial trivial k483
theorem o496 : EntryOk cx 10 e496 := chain2 cx_ok cx_names cx_intr cx_mixed (utbl := v496) (tbl := t496) ⟨hu228, ⟨hu79, ⟨hu48, ⟨hu60, ⟨hu229, ⟨hu27, trivial⟩⟩⟩⟩⟩⟩ ⟨⟨o396, ⟨o404, ⟨o412, trivial⟩⟩⟩, ⟨⟨o448, trivial⟩, ⟨⟨o474, trivial⟩, ⟨⟨o479, ⟨o483, trivial⟩⟩, trivial⟩⟩⟩⟩ k496
theorem o502 : EntryOk cx 189 e502 := chain2 cx_ok cx_names cx_intr cx_mixed (utbl := v502) (tbl := t502) trivial trivial k502
theorem o510 : EntryOk cx 189 e510 := chain2 cx_ok cx_names cx_intr cx_mixed (utbl := v510) (tbl := t510) trivial trivial k510
theorem o518 : EntryOk cx 189 e518 := chain2 cx_ok cx_names cx_intr cx_mixed (utbl := v518) (tbl := t518) trivial trivial k518
theorem o535 : EntryOk cx 54 e535 := chain2 cx_ok cx_names cx_intr cx_mixed (utbl := v535) (tbl := t535) ⟨hu79, ⟨hu48, trivial⟩⟩ trivial k535
theorem o539 : EntryOk cx 8 e539 := chain2 cx_ok cx_names cx_intr cx_mixed (utbl := v539) (tbl := t539) ⟨hu48, ⟨hu60, ⟨hu79, ⟨hu27, trivial⟩⟩⟩⟩ ⟨⟨o502, ⟨o510, ⟨o518, trivial⟩⟩⟩, ⟨⟨o535, trivial⟩, trivial⟩⟩ k539
theorem o548 : EntryOk cx 134 e548 := chain2 cx_ok cx_names cx_intr cx_mixed (utbl := v548) (tbl := t548) ⟨hu48, trivial⟩ trivial k548
theorem o555 : EntryOk cx 134 e555 := chain2 cx_ok cx_names cx_intr cx_mixed (utbl := v555) (tbl := t555) ⟨hu48, trivial⟩ trivial k555
theorem o567 : EntryOk cx 10 e567 := chain2 cx_ok cx_names cx_intr cx_mixed (utbl := v567) (tbl := t567) ⟨hu48, ⟨hu79, ⟨hu27, trivial⟩⟩⟩ ⟨⟨o548, ⟨o555, trivial⟩⟩, trivial⟩ k567
theorem o576 : EntryOk cx 134 e576 := chain2 cx_ok cx_names cx_intr cx_mixed (utbl := v576) (tbl := t576) ⟨hu48, trivial⟩ trivial k576
theorem o583 : EntryOk cx 134 e583 := chain2 cx_ok cx_names cx_intr cx_mixed (utbl := v583) (tbl := t583) ⟨hu48, trivial⟩ trivial k583
theorem o603 : EntryOk cx 54 e603 := chain2 cx_ok cx_names cx_intr cx_mixed (utbl := v603) (tbl := t603) ⟨hu79, trivial⟩ trivial k603
theorem o604 : EntryOk cx 17 e604 := chain2 cx_ok cx_names cx_intr cx_mixed (utbl := v604) (tbl := t604) ⟨hu48, ⟨hu79, ⟨hu27, trivial⟩⟩⟩ ⟨⟨o576, ⟨o583, trivial⟩⟩, ⟨⟨o603, trivial⟩, trivial⟩⟩ k604
theorem o612 : EntryOk cx 134 e612 := chain2 cx_ok cx_names cx_intr cx_mixed (utbl := v612) (tbl := t612) trivial trivial k612
theorem o618 : EntryOk cx 134 e618 := chain2 cx_ok cx_names cx_intr cx_mixed (utbl := v618) (tbl := t618) trivial trivial k618
theorem o629 : EntryOk cx 10 e629 := chain2 cx_ok cx_names cx_intr cx_mixed (utbl := v629) (tbl := t629) ⟨hu79, ⟨hu27, trivial⟩⟩ ⟨⟨o612, ⟨o618, trivial⟩⟩, trivial⟩ k629
theorem o640 : EntryOk cx 134 e640 := chain2 cx_ok cx_names cx_intr cx_mixed (utbl := v640) (tbl := t640) trivial trivial k640
theorem o646 : EntryOk cx 134 e646 := chain2 cx_ok cx_names cx_intr cx_mixed (utbl := v646) (tbl := t646) trivial trivial k646
theorem o657 : EntryOk cx 18 e657 := chain2 cx_ok cx_names cx_intr cx_mixed (utbl := v657) (tbl := t657) ⟨hu79, ⟨hu27, trivial⟩⟩ ⟨⟨o640, ⟨o646, trivial⟩⟩, trivial⟩ k657
theorem o669 : EntryOk cx 180 e669 := chain2 cx_ok cx_names cx_intr cx_mixed (utbl := v669) (tbl := t669) trivial trivial k669
theorem o673 : EntryOk cx 180 e673 := chain2 cx_ok cx_names cx_intr cx_mixed (utbl := v673) (tbl := t673) trivial trivial k673
theorem o679 : EntryOk cx 53 e679 := chain2 cx_ok cx_names cx_intr cx_mixed (utbl := v679) (tbl := t679) ⟨hu228, ⟨hu229, trivial⟩⟩ ⟨⟨o669, ⟨o673, trivial⟩⟩, trivial⟩ k679
theorem o683 : EntryOk cx 120 e683 := chain2 cx_ok cx_names cx_intr cx_mixed (utbl := v683) (tbl := t683) ⟨hu48, trivial⟩ trivial k683
theorem o698 : EntryOk cx 189 e698 := chain2 cx_ok cx_names cx_intr cx_mixed (utbl := v698) (tbl := t698) trivial trivial k698
theorem o706 : EntryOk cx 189 e706 := chain2 cx_ok cx_names cx_intr cx_mixed (utbl := v706) (tbl := t706) trivial trivial k706
theorem o714 : EntryOk cx 189 e714 := chain2 cx_ok cx_names cx_intr cx_mixed (utbl := v714) (tbl := t714) trivial trivial k714
theorem o729 : EntryOk cx 235 e729 := chain2 cx_ok cx_names cx_intr cx_mixed (utbl := v729) (tbl := t729) trivial trivial k729
theorem o742 : EntryOk cx 47 e742 := chain2 cx_ok cx_names cx_intr cx_mixed (utbl := v742) (tbl := t742) trivial trivial k742
theorem o744 : EntryOk cx 57 e744 := chain2 cx_ok cx_names cx_intr cx_mixed (utbl := v744) (tbl := t744) ⟨hu228, ⟨hu229, ⟨hu48, trivial⟩⟩⟩ ⟨⟨o729, trivial⟩, ⟨⟨o742, trivial⟩, trivial⟩⟩ k744
theorem o750 : EntryOk cx 235 e750 := chain2 cx_ok cx_names cx_intr cx_mixed (utbl := v750) (tbl := t750) trivial trivial k750
theorem o763 : EntryOk cx 47 e763 := chain2 cx_ok cx_names cx_intr cx_mixed (utbl := v763) (tbl := t763) trivial trivial k763
theorem o764 : EntryOk cx 124 e764 := chain2 cx_ok cx_names cx_intr cx_mixed (utbl := v764) (tbl := t764) ⟨hu228, ⟨hu229, trivial⟩⟩ ⟨⟨o750, trivial⟩, ⟨⟨o763, trivial⟩, trivial⟩⟩ k764
theorem o769 : EntryOk cx 180 e769 := chain2 cx_ok cx_names cx_intr cx_mixed (utbl := v769) (tbl := t769) trivial trivial k769
theorem o773 : EntryOk cx 180 e773 := chain2 cx_ok cx_names cx_intr cx_mixed (utbl := v773) (tbl := t773) trivial trivial k773
theorem o782 : EntryOk cx 10 e782 := chain2 cx_ok cx_names cx_intr cx_mixed (utbl := v782) (tbl := t782) ⟨hu228, ⟨hu48, ⟨hu60, ⟨hu229, ⟨hu79, ⟨hu27, trivial⟩⟩⟩⟩⟩⟩ ⟨⟨o698, ⟨o706, ⟨o714, trivial⟩⟩⟩, ⟨⟨o744, trivial⟩, ⟨⟨o764, trivial⟩, ⟨⟨o769, ⟨o773, trivial⟩⟩, trivial⟩⟩⟩⟩ k782
theorem o788 : EntryOk cx 189 e788 := chain2 cx_ok cx_names cx_intr cx_mixed (utbl := v788) (tbl := t788) trivial trivial k788
theorem o796 : EntryOk cx 189 e796 := chain2 cx_ok cx_names cx_intr cx_mixed (utbl := v796) (tbl := t796) trivial trivial k796
theorem o811 : EntryOk cx 235 e811 := chain2 cx_ok cx_names cx_intr cx_mixed (utbl := v811) (tbl := t811) trivial trivial k811
theorem o824 : EntryOk cx 47 e824 := chain2 cx_ok cx_names cx_intr cx_mixed (utbl := v824) (tbl := t824) trivial trivial k824
theorem o826 : EntryOk cx 57 e826 := chain2 cx_ok cx_names cx_intr cx_mixed (utbl := v826) (tbl := t826) ⟨hu229, ⟨hu228, ⟨hu48, trivial⟩⟩⟩ ⟨⟨o811, trivial⟩, ⟨⟨o824, trivial⟩, trivial⟩⟩ k826
theorem o832 : EntryOk cx 235 e832 := chain2 cx_ok cx_names cx_intr cx_mixed (utbl := v832) (tbl := t832) trivial trivial k832
theorem o845 : EntryOk cx 47 e845 := chain2 cx_ok cx_names cx_intr cx_mixed (utbl := v845) (tbl := t845) trivial trivial k845
theorem o846 : EntryOk cx 124 e846 := chain2 cx_ok cx_names cx_intr cx_mixed (utbl := v846) (tbl := t846) ⟨hu229, ⟨hu228, trivial⟩⟩ ⟨⟨o832, trivial⟩, ⟨⟨o845, trivial⟩, trivial⟩⟩ k846
theorem o851 : EntryOk cx 180 e851 := chain2 cx_ok cx_names cx_intr cx_mixed (utbl := v851) (tbl := t851) trivial trivial k851
theorem o855 : EntryOk cx 180 e855 := chain2 cx_ok cx_names cx_intr cx_mixed (utbl := v855) (tbl := t855) trivial trivial k855
theorem o864 : EntryOk cx 10 e864 := chain2 cx_ok cx_names cx_intr cx_mixed (utbl := v864) (tbl := t864) ⟨hu228, ⟨hu48, ⟨hu60, ⟨hu229, ⟨hu79, ⟨hu27, trivial⟩⟩⟩⟩⟩⟩ ⟨⟨o788, ⟨o796, trivial⟩⟩, ⟨⟨o826, trivial⟩, ⟨⟨o846, trivial⟩, ⟨⟨o851, ⟨o855, trivial⟩⟩, trivial⟩⟩⟩⟩ k864
theorem o865 : EntryOk cx 20 e865 := chain2 cx_ok cx_names cx_intr cx_mixed (utbl := v865) (tbl := t865) ⟨hu79, ⟨hu48, ⟨hu60, ⟨hu27, trivial⟩⟩⟩⟩ ⟨⟨o679, trivial⟩, ⟨⟨o683, trivial⟩, ⟨⟨o782, ⟨o864, trivial⟩⟩, trivial⟩⟩⟩ k865
theorem o866 : EntryOk cx 3 e866 := chain2 cx_ok cx_names cx_intr cx_mixed (utbl := v866) (tbl := t866) ⟨hu14, ⟨hu79, ⟨hu27, trivial⟩⟩⟩ ⟨⟨o34, ⟨o121, ⟨o539, trivial⟩⟩⟩, ⟨⟨o65, ⟨o203, ⟨o293, ⟨o496, ⟨o567, ⟨o629, trivial⟩⟩⟩⟩⟩⟩, ⟨⟨o390, trivial⟩, ⟨⟨o604, trivial⟩, ⟨⟨o657, trivial⟩, ⟨⟨o865, trivial⟩, trivial⟩⟩⟩⟩⟩⟩ k866
theorem known (w : World) : Calls Tryz.prog 3 #[] w fun e w' => e = .returned (.bool true) ∧ Below w.heap.size w w' := chain_top (C := cx) rfl o866 rfl w
end Go.Proofs.YtmhmiobdnadkmaaGreatDoor.Ek
