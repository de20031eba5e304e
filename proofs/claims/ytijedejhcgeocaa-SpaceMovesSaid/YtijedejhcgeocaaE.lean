/-
  Texts of this seat: lemmas on the way to the statement.
-/
import Derived.Test.YtijedejhcgeocaaD
import Derived.Test.YtijedejhcgeocaaB
set_option linter.unusedVariables false
set_option linter.unusedSimpArgs false
namespace Go.Ab
open Go
set_option maxRecDepth 100000
theorem yrS:type_of% (Aa (Aa (Aa (Aa (Aa @yby (Aa @ydD @yeI)) (Aa (Aa @ydE @ydF) (Aa @ycR @ydG))) (Aa (Aa (Aa @yeJ @ydH) (Aa @ycS @ydI)) (Aa (Aa @yhZ @yju) (Aa @yh0 @ygo)))) (Aa (Aa (Aa @yh1 (Aa @ygp @ylj)) (Aa (Aa @yjv @ylk) (Aa @yjw @yjx))) (Aa (Aa (Aa @yh2 @ygq) (Aa @yfi @yjy)) (Aa (Aa @yjz @yjA) (Aa @alG.eq_1 @alG.eq_2))))) (Aa (Aa (Aa (Aa @alG.eq_3 (Aa @yjB @yjC)) (Aa (Aa @yjD @yfj) (Aa @yfk @ygr))) (Aa (Aa (Aa @ygs @ygt) (Aa @yfl @yjE)) (Aa (Aa @yh3 @ynf) (Aa @yll @yh4)))) (Aa (Aa (Aa @yh5 (Aa @yh6 @yh7)) (Aa (Aa @yjF @yh8) (Aa @yjG @yh9))) (Aa (Aa (Aa @yjH @yia) (Aa @ygu @HOp.temps.eq_1)) (Aa (Aa @HOp.opds.eq_1 @HOp.opds.eq_2) (Aa @HOp.opds.eq_3 @HOp.opds.eq_4)))))):=(Aa (Aa (Aa (Aa (Aa @yby (Aa @ydD @yeI)) (Aa (Aa @ydE @ydF) (Aa @ycR @ydG))) (Aa (Aa (Aa @yeJ @ydH) (Aa @ycS @ydI)) (Aa (Aa @yhZ @yju) (Aa @yh0 @ygo)))) (Aa (Aa (Aa @yh1 (Aa @ygp @ylj)) (Aa (Aa @yjv @ylk) (Aa @yjw @yjx))) (Aa (Aa (Aa @yh2 @ygq) (Aa @yfi @yjy)) (Aa (Aa @yjz @yjA) (Aa @alG.eq_1 @alG.eq_2))))) (Aa (Aa (Aa (Aa @alG.eq_3 (Aa @yjB @yjC)) (Aa (Aa @yjD @yfj) (Aa @yfk @ygr))) (Aa (Aa (Aa @ygs @ygt) (Aa @yfl @yjE)) (Aa (Aa @yh3 @ynf) (Aa @yll @yh4)))) (Aa (Aa (Aa @yh5 (Aa @yh6 @yh7)) (Aa (Aa @yjF @yh8) (Aa @yjG @yh9))) (Aa (Aa (Aa @yjH @yia) (Aa @ygu @HOp.temps.eq_1)) (Aa (Aa @HOp.opds.eq_1 @HOp.opds.eq_2) (Aa @HOp.opds.eq_3 @HOp.opds.eq_4))))))
theorem yrT:type_of% (Aa (Aa (Aa (Aa (Aa @HOp.opds.eq_5 (Aa @XOp.opds.eq_1 @XOp.opds.eq_2)) (Aa (Aa @XOp.opds.eq_3 @XOp.opds.eq_4) (Aa @XOp.opds.eq_5 @XOp.opds.eq_6))) (Aa (Aa (Aa @XOp.opds.eq_7 @XOp.opds.eq_8) (Aa @XOp.opds.eq_9 @XOp.opds.eq_10)) (Aa (Aa @XOp.opds.eq_11 @XOp.opds.eq_12) (Aa @XOp.opds.eq_13 @XOp.opds.eq_14)))) (Aa (Aa (Aa @XOp.opds.eq_15 (Aa @XOp.opds.eq_16 @XOp.opds.eq_17)) (Aa (Aa @XOp.opds.eq_18 @XOp.opds.eq_19) (Aa @XOp.opds.eq_20 @XOp.opds.eq_21))) (Aa (Aa (Aa @XOp.opds.eq_22 @XOp.opds.eq_23) (Aa @XOp.opds.eq_24 @XOp.opds.eq_25)) (Aa (Aa @XOp.opds.eq_26 @XOp.opds.eq_27) (Aa @XOp.opds.eq_28 @XOp.opds.eq_29))))) (Aa (Aa (Aa (Aa @XOp.opds.eq_30 (Aa @XOp.opds.eq_31 @XOp.opds.eq_32)) (Aa (Aa @XOp.opds.eq_33 @optO.eq_1) (Aa @optO.eq_2 @tempsO.eq_1))) (Aa (Aa (Aa @tempsO.eq_2 @tempsO.eq_3) (Aa @hland.eq_1 @hland.eq_2)) (Aa (Aa @land1.eq_1 @evHX.eq_1) (Aa @evHX.eq_2 @evHX.eq_3)))) (Aa (Aa (Aa @evHX.eq_4 (Aa @evHX.eq_5 @evHX.eq_6)) (Aa (Aa @evHX.eq_7 @evHX.eq_8) (Aa @evHX.eq_9 @evHX.eq_10))) (Aa (Aa (Aa @evHX.eq_11 @evHX.eq_12) (Aa @evHX.eq_13 @evHX.eq_14)) (Aa (Aa @evHX.eq_15 @evHV.eq_1) (Aa @evHV.eq_2 @evHV.eq_3)))))):=(Aa (Aa (Aa (Aa (Aa @HOp.opds.eq_5 (Aa @XOp.opds.eq_1 @XOp.opds.eq_2)) (Aa (Aa @XOp.opds.eq_3 @XOp.opds.eq_4) (Aa @XOp.opds.eq_5 @XOp.opds.eq_6))) (Aa (Aa (Aa @XOp.opds.eq_7 @XOp.opds.eq_8) (Aa @XOp.opds.eq_9 @XOp.opds.eq_10)) (Aa (Aa @XOp.opds.eq_11 @XOp.opds.eq_12) (Aa @XOp.opds.eq_13 @XOp.opds.eq_14)))) (Aa (Aa (Aa @XOp.opds.eq_15 (Aa @XOp.opds.eq_16 @XOp.opds.eq_17)) (Aa (Aa @XOp.opds.eq_18 @XOp.opds.eq_19) (Aa @XOp.opds.eq_20 @XOp.opds.eq_21))) (Aa (Aa (Aa @XOp.opds.eq_22 @XOp.opds.eq_23) (Aa @XOp.opds.eq_24 @XOp.opds.eq_25)) (Aa (Aa @XOp.opds.eq_26 @XOp.opds.eq_27) (Aa @XOp.opds.eq_28 @XOp.opds.eq_29))))) (Aa (Aa (Aa (Aa @XOp.opds.eq_30 (Aa @XOp.opds.eq_31 @XOp.opds.eq_32)) (Aa (Aa @XOp.opds.eq_33 @optO.eq_1) (Aa @optO.eq_2 @tempsO.eq_1))) (Aa (Aa (Aa @tempsO.eq_2 @tempsO.eq_3) (Aa @hland.eq_1 @hland.eq_2)) (Aa (Aa @land1.eq_1 @evHX.eq_1) (Aa @evHX.eq_2 @evHX.eq_3)))) (Aa (Aa (Aa @evHX.eq_4 (Aa @evHX.eq_5 @evHX.eq_6)) (Aa (Aa @evHX.eq_7 @evHX.eq_8) (Aa @evHX.eq_9 @evHX.eq_10))) (Aa (Aa (Aa @evHX.eq_11 @evHX.eq_12) (Aa @evHX.eq_13 @evHX.eq_14)) (Aa (Aa @evHX.eq_15 @evHV.eq_1) (Aa @evHV.eq_2 @evHV.eq_3))))))
theorem yrU:type_of% (Aa (Aa (Aa (Aa (Aa @evHV.eq_4 (Aa @evHV.eq_5 @evHN.eq_1)) (Aa (Aa @evHN.eq_2 @evHN.eq_3) (Aa @evP.eq_1 @evP.eq_2))) (Aa (Aa (Aa @evP.eq_3 @evP.eq_4) (Aa @evP.eq_5 @evP.eq_6)) (Aa (Aa @evP.eq_7 @evP.eq_8) (Aa @evP.eq_9 @evP.eq_10)))) (Aa (Aa (Aa @evP.eq_11 (Aa @evP.eq_12 @evP.eq_13)) (Aa (Aa @evP.eq_14 @evP.eq_15) (Aa @evP.eq_16 @evP.eq_17))) (Aa (Aa (Aa @evP.eq_18 @evP.eq_19) (Aa @evP.eq_20 @evP.eq_21)) (Aa (Aa @evP.eq_22 @evP.eq_23) (Aa @evP.eq_24 @evP.eq_25))))) (Aa (Aa (Aa (Aa @evP.eq_26 (Aa @evP.eq_27 @evP.eq_28)) (Aa (Aa @evP.eq_29 @evP.eq_30) (Aa @evP.eq_31 @evP.eq_32))) (Aa (Aa (Aa @evHS.eq_1 @evHS.eq_2) (Aa @evHS.eq_3 @evHS.eq_4)) (Aa (Aa @evHS.eq_5 @evHS.eq_6) (Aa @toP.eq_1 @toP.eq_2)))) (Aa (Aa (Aa @vis.eq_1 (Aa @vis.eq_2 @vis.eq_3)) (Aa (Aa @vis.eq_4 @PV.loose.eq_1) (Aa @noOwn.eq_1 @noOwn.eq_2))) (Aa (Aa (Aa @noOwn.eq_3 @noOwn.eq_4) (Aa @noOwn.eq_5 @noOwn.eq_6)) (Aa (Aa @noOwnL.eq_1 @noOwnL.eq_2) (Aa @refs.eq_1 @refs.eq_2)))))):=(Aa (Aa (Aa (Aa (Aa @evHV.eq_4 (Aa @evHV.eq_5 @evHN.eq_1)) (Aa (Aa @evHN.eq_2 @evHN.eq_3) (Aa @evP.eq_1 @evP.eq_2))) (Aa (Aa (Aa @evP.eq_3 @evP.eq_4) (Aa @evP.eq_5 @evP.eq_6)) (Aa (Aa @evP.eq_7 @evP.eq_8) (Aa @evP.eq_9 @evP.eq_10)))) (Aa (Aa (Aa @evP.eq_11 (Aa @evP.eq_12 @evP.eq_13)) (Aa (Aa @evP.eq_14 @evP.eq_15) (Aa @evP.eq_16 @evP.eq_17))) (Aa (Aa (Aa @evP.eq_18 @evP.eq_19) (Aa @evP.eq_20 @evP.eq_21)) (Aa (Aa @evP.eq_22 @evP.eq_23) (Aa @evP.eq_24 @evP.eq_25))))) (Aa (Aa (Aa (Aa @evP.eq_26 (Aa @evP.eq_27 @evP.eq_28)) (Aa (Aa @evP.eq_29 @evP.eq_30) (Aa @evP.eq_31 @evP.eq_32))) (Aa (Aa (Aa @evHS.eq_1 @evHS.eq_2) (Aa @evHS.eq_3 @evHS.eq_4)) (Aa (Aa @evHS.eq_5 @evHS.eq_6) (Aa @toP.eq_1 @toP.eq_2)))) (Aa (Aa (Aa @vis.eq_1 (Aa @vis.eq_2 @vis.eq_3)) (Aa (Aa @vis.eq_4 @PV.loose.eq_1) (Aa @noOwn.eq_1 @noOwn.eq_2))) (Aa (Aa (Aa @noOwn.eq_3 @noOwn.eq_4) (Aa @noOwn.eq_5 @noOwn.eq_6)) (Aa (Aa @noOwnL.eq_1 @noOwnL.eq_2) (Aa @refs.eq_1 @refs.eq_2))))))
theorem yrV:type_of% (Aa (Aa (Aa (Aa (Aa @refs.eq_3 (Aa @refs.eq_4 @refs.eq_5)) (Aa (Aa @refs.eq_6 @refsL.eq_1) (Aa @refsL.eq_2 @fresh.eq_1))) (Aa (Aa (Aa @fresh.eq_2 @fresh.eq_3) (Aa @al.eq_1 @al.eq_2)) (Aa (Aa @al.eq_3 @al.eq_4) (Aa @al.eq_5 @al.eq_6)))) (Aa (Aa (Aa @al.eq_7 (Aa @alL.eq_1 @alL.eq_2)) (Aa (Aa @yln @ylo) (Aa @yng @ynh))) (Aa (Aa (Aa @ylp @ylq) (Aa @ylr @ypl)) (Aa (Aa @ypm @yni) (Aa @yls @ynj))))) (Aa (Aa (Aa (Aa @ynk (Aa @ynl @ynm)) (Aa (Aa @ypn @setH.eq_1) (Aa @setH.eq_2 @pvBin.eq_1))) (Aa (Aa (Aa @pvBin.eq_2 @pvBin.eq_3) (Aa @intBin.eq_1 @intBin.eq_2)) (Aa (Aa @intBin.eq_3 @intBin.eq_4) (Aa @intBin.eq_5 @intBin.eq_6)))) (Aa (Aa (Aa @intBin.eq_7 (Aa @intBin.eq_8 @intBin.eq_9)) (Aa (Aa @intBin.eq_10 @intBin.eq_11) (Aa @intBin.eq_12 @intBin.eq_13))) (Aa (Aa (Aa @intBin.eq_14 @intBin.eq_15) (Aa @intBin.eq_16 @intBin.eq_17)) (Aa (Aa @intBin.eq_18 @fillH.eq_1) (Aa @fillH.eq_2 @fillP.eq_1)))))):=(Aa (Aa (Aa (Aa (Aa @refs.eq_3 (Aa @refs.eq_4 @refs.eq_5)) (Aa (Aa @refs.eq_6 @refsL.eq_1) (Aa @refsL.eq_2 @fresh.eq_1))) (Aa (Aa (Aa @fresh.eq_2 @fresh.eq_3) (Aa @al.eq_1 @al.eq_2)) (Aa (Aa @al.eq_3 @al.eq_4) (Aa @al.eq_5 @al.eq_6)))) (Aa (Aa (Aa @al.eq_7 (Aa @alL.eq_1 @alL.eq_2)) (Aa (Aa @yln @ylo) (Aa @yng @ynh))) (Aa (Aa (Aa @ylp @ylq) (Aa @ylr @ypl)) (Aa (Aa @ypm @yni) (Aa @yls @ynj))))) (Aa (Aa (Aa (Aa @ynk (Aa @ynl @ynm)) (Aa (Aa @ypn @setH.eq_1) (Aa @setH.eq_2 @pvBin.eq_1))) (Aa (Aa (Aa @pvBin.eq_2 @pvBin.eq_3) (Aa @intBin.eq_1 @intBin.eq_2)) (Aa (Aa @intBin.eq_3 @intBin.eq_4) (Aa @intBin.eq_5 @intBin.eq_6)))) (Aa (Aa (Aa @intBin.eq_7 (Aa @intBin.eq_8 @intBin.eq_9)) (Aa (Aa @intBin.eq_10 @intBin.eq_11) (Aa @intBin.eq_12 @intBin.eq_13))) (Aa (Aa (Aa @intBin.eq_14 @intBin.eq_15) (Aa @intBin.eq_16 @intBin.eq_17)) (Aa (Aa @intBin.eq_18 @fillH.eq_1) (Aa @fillH.eq_2 @fillP.eq_1))))))
theorem yrW:type_of% (Aa (Aa (Aa (Aa (Aa @fillP.eq_2 (Aa @PV.lok.eq_1 @PV.lok.eq_2)) (Aa (Aa @PV.lok.eq_3 @cellsH.eq_1) (Aa @cellsH.eq_2 @cellsH.eq_3))) (Aa (Aa (Aa @cells.eq_1 @cells.eq_2) (Aa @HV.one.eq_1 @HV.one.eq_2)) (Aa (Aa @HV.one.eq_3 @HV.one.eq_4) (Aa @HV.one.eq_5 @HV.one.eq_6)))) (Aa (Aa (Aa @HV.one.eq_7 (Aa @HV.one.eq_8 @partsO.eq_1)) (Aa (Aa @partsO.eq_2 @mkAgg.eq_1) (Aa @mkTup.eq_1 @allP.eq_1))) (Aa (Aa (Aa @allP.eq_2 @allP.eq_3) (Aa @setCellsH.eq_1 @setCellsH.eq_2)) (Aa (Aa @blkCells.eq_1 @partH.eq_1) (Aa @resHL.eq_1 @resHL.eq_2))))) (Aa (Aa (Aa (Aa @resH1.eq_1 (Aa @resH1.eq_2 @resT.eq_1)) (Aa (Aa @resT.eq_2 @tupHOf.eq_1) (Aa @tupHOf.eq_2 @slElems.eq_1))) (Aa (Aa (Aa @slElems.eq_2 @slElems.eq_3) (Aa @slElems.eq_4 @bnd.eq_1)) (Aa (Aa @bnd.eq_2 @idxOk.eq_1) (Aa @pvPeq.eq_1 @pvPeq.eq_2)))) (Aa (Aa (Aa @pvPeq.eq_3 (Aa @pvPeq.eq_4 @pvPeq.eq_5)) (Aa (Aa @pvPeq.eq_6 @pvBeq.eq_1) (Aa @pvBeq.eq_2 @pvUn.eq_1))) (Aa (Aa (Aa @pvUn.eq_2 @pvUn.eq_3) (Aa @pvUn.eq_4 @pvUn.eq_5)) (Aa (Aa @mkOwn.eq_1 @rep.eq_1) (Aa @rep.eq_2 @lendL.eq_1)))))):=(Aa (Aa (Aa (Aa (Aa @fillP.eq_2 (Aa @PV.lok.eq_1 @PV.lok.eq_2)) (Aa (Aa @PV.lok.eq_3 @cellsH.eq_1) (Aa @cellsH.eq_2 @cellsH.eq_3))) (Aa (Aa (Aa @cells.eq_1 @cells.eq_2) (Aa @HV.one.eq_1 @HV.one.eq_2)) (Aa (Aa @HV.one.eq_3 @HV.one.eq_4) (Aa @HV.one.eq_5 @HV.one.eq_6)))) (Aa (Aa (Aa @HV.one.eq_7 (Aa @HV.one.eq_8 @partsO.eq_1)) (Aa (Aa @partsO.eq_2 @mkAgg.eq_1) (Aa @mkTup.eq_1 @allP.eq_1))) (Aa (Aa (Aa @allP.eq_2 @allP.eq_3) (Aa @setCellsH.eq_1 @setCellsH.eq_2)) (Aa (Aa @blkCells.eq_1 @partH.eq_1) (Aa @resHL.eq_1 @resHL.eq_2))))) (Aa (Aa (Aa (Aa @resH1.eq_1 (Aa @resH1.eq_2 @resT.eq_1)) (Aa (Aa @resT.eq_2 @tupHOf.eq_1) (Aa @tupHOf.eq_2 @slElems.eq_1))) (Aa (Aa (Aa @slElems.eq_2 @slElems.eq_3) (Aa @slElems.eq_4 @bnd.eq_1)) (Aa (Aa @bnd.eq_2 @idxOk.eq_1) (Aa @pvPeq.eq_1 @pvPeq.eq_2)))) (Aa (Aa (Aa @pvPeq.eq_3 (Aa @pvPeq.eq_4 @pvPeq.eq_5)) (Aa (Aa @pvPeq.eq_6 @pvBeq.eq_1) (Aa @pvBeq.eq_2 @pvUn.eq_1))) (Aa (Aa (Aa @pvUn.eq_2 @pvUn.eq_3) (Aa @pvUn.eq_4 @pvUn.eq_5)) (Aa (Aa @mkOwn.eq_1 @rep.eq_1) (Aa @rep.eq_2 @lendL.eq_1))))))
theorem yrX:type_of% (Aa (Aa (Aa (Aa (Aa @lendL.eq_2 (Aa @ym @yy)) (Aa (Aa @yeK @yfn) (Aa @lim.eq_1 @part.eq_1))) (Aa (Aa (Aa @norm1.eq_1 @norm1.eq_2) (Aa @slCells.eq_1 @slCells.eq_2)) (Aa (Aa @slCells.eq_3 @slCells.eq_4) (Aa @lend.eq_1 @lend.eq_2)))) (Aa (Aa (Aa @lend.eq_3 (Aa @lend1.eq_1 @lend1.eq_2)) (Aa (Aa @lend1L.eq_1 @lend1L.eq_2) (Aa @PV.flat.eq_1 @PV.flat.eq_2))) (Aa (Aa (Aa @PV.flat.eq_3 @PV.flat1.eq_1) (Aa @PV.flat1.eq_2 @PV.flat1.eq_3)) (Aa (Aa @PV.flat1.eq_4 @lent.eq_1) (Aa @lent.eq_2 @lent.eq_3))))) (Aa (Aa (Aa (Aa @lent.eq_4 (Aa @PV.isView.eq_1 @PV.isView.eq_2)) (Aa (Aa @ylt @yjI) (Aa @yfm @yeq))) (Aa (Aa (Aa @yib @isFresh.eq_1) (Aa @isFresh.eq_2 @isFresh.eq_3)) (Aa (Aa @isFresh.eq_4 @stableAll.eq_1) (Aa @stableAll.eq_2 @stableOp.eq_1)))) (Aa (Aa (Aa @lastO.eq_1 (Aa @lastO.eq_2 @lastO.eq_3)) (Aa (Aa @eqHO.eq_1 @eqHO.eq_2) (Aa @eqHO.eq_3 @eqHV.eq_1))) (Aa (Aa (Aa @eqHV.eq_2 @eqHV.eq_3) (Aa @eqHV.eq_4 @eqHV.eq_5)) (Aa (Aa @eqHV.eq_6 @eqHV.eq_7) (Aa @eqHV.eq_8 @eqHV.eq_9)))))):=(Aa (Aa (Aa (Aa (Aa @lendL.eq_2 (Aa @ym @yy)) (Aa (Aa @yeK @yfn) (Aa @lim.eq_1 @part.eq_1))) (Aa (Aa (Aa @norm1.eq_1 @norm1.eq_2) (Aa @slCells.eq_1 @slCells.eq_2)) (Aa (Aa @slCells.eq_3 @slCells.eq_4) (Aa @lend.eq_1 @lend.eq_2)))) (Aa (Aa (Aa @lend.eq_3 (Aa @lend1.eq_1 @lend1.eq_2)) (Aa (Aa @lend1L.eq_1 @lend1L.eq_2) (Aa @PV.flat.eq_1 @PV.flat.eq_2))) (Aa (Aa (Aa @PV.flat.eq_3 @PV.flat1.eq_1) (Aa @PV.flat1.eq_2 @PV.flat1.eq_3)) (Aa (Aa @PV.flat1.eq_4 @lent.eq_1) (Aa @lent.eq_2 @lent.eq_3))))) (Aa (Aa (Aa (Aa @lent.eq_4 (Aa @PV.isView.eq_1 @PV.isView.eq_2)) (Aa (Aa @ylt @yjI) (Aa @yfm @yeq))) (Aa (Aa (Aa @yib @isFresh.eq_1) (Aa @isFresh.eq_2 @isFresh.eq_3)) (Aa (Aa @isFresh.eq_4 @stableAll.eq_1) (Aa @stableAll.eq_2 @stableOp.eq_1)))) (Aa (Aa (Aa @lastO.eq_1 (Aa @lastO.eq_2 @lastO.eq_3)) (Aa (Aa @eqHO.eq_1 @eqHO.eq_2) (Aa @eqHO.eq_3 @eqHV.eq_1))) (Aa (Aa (Aa @eqHV.eq_2 @eqHV.eq_3) (Aa @eqHV.eq_4 @eqHV.eq_5)) (Aa (Aa @eqHV.eq_6 @eqHV.eq_7) (Aa @eqHV.eq_8 @eqHV.eq_9))))))
theorem yrY:type_of% (Aa (Aa (Aa (Aa (Aa @eqHV.eq_10 @readAt.eq_1) (Aa @readAt.eq_2 @eqPV.eq_1)) (Aa (Aa @eqPV.eq_2 @eqPV.eq_3) (Aa @eqPV.eq_4 (Aa @eqPV.eq_5 @eqPV.eq_6)))) (Aa (Aa (Aa @eqPV.eq_7 @eqPV.eq_8) (Aa @eqPV.eq_9 @eqPV.eq_10)) (Aa (Aa @eqPV.eq_11 @eqPV.eq_12) (Aa @eqPV.eq_13 (Aa @eqPVL.eq_1 @eqPVL.eq_2))))) (Aa (Aa (Aa (Aa @eqPVL.eq_3 @eqHVL.eq_1) (Aa @eqHVL.eq_2 @eqHVL.eq_3)) (Aa (Aa @q1.eq_1 @q2.eq_1) (Aa @q3.eq_1 (Aa @q4.eq_1 @pvAeq.eq_1)))) (Aa (Aa (Aa @pvAeq.eq_2 @eqCells.eq_1) (Aa @eqCells.eq_2 (Aa @eqCells.eq_3 @eqCells.eq_4))) (Aa (Aa @eqCells.eq_5 @strBin.eq_1) (Aa @strBin.eq_2 (Aa @strBin.eq_3 @strBin.eq_4)))))):=(Aa (Aa (Aa (Aa (Aa @eqHV.eq_10 @readAt.eq_1) (Aa @readAt.eq_2 @eqPV.eq_1)) (Aa (Aa @eqPV.eq_2 @eqPV.eq_3) (Aa @eqPV.eq_4 (Aa @eqPV.eq_5 @eqPV.eq_6)))) (Aa (Aa (Aa @eqPV.eq_7 @eqPV.eq_8) (Aa @eqPV.eq_9 @eqPV.eq_10)) (Aa (Aa @eqPV.eq_11 @eqPV.eq_12) (Aa @eqPV.eq_13 (Aa @eqPVL.eq_1 @eqPVL.eq_2))))) (Aa (Aa (Aa (Aa @eqPVL.eq_3 @eqHVL.eq_1) (Aa @eqHVL.eq_2 @eqHVL.eq_3)) (Aa (Aa @q1.eq_1 @q2.eq_1) (Aa @q3.eq_1 (Aa @q4.eq_1 @pvAeq.eq_1)))) (Aa (Aa (Aa @pvAeq.eq_2 @eqCells.eq_1) (Aa @eqCells.eq_2 (Aa @eqCells.eq_3 @eqCells.eq_4))) (Aa (Aa @eqCells.eq_5 @strBin.eq_1) (Aa @strBin.eq_2 (Aa @strBin.eq_3 @strBin.eq_4))))))
theorem yl:type_of% (Aa (Aa yrS (Aa yrT yrU)) (Aa (Aa yrV yrW) (Aa yrX yrY))):=(Aa (Aa yrS (Aa yrT yrU)) (Aa (Aa yrV yrW) (Aa yrX yrY)))
theorem yg:type_of% (Aa (Aa (Aa @yby @ydD) (Aa @yeI (Aa @ydE @ydF))) (Aa (Aa @ycR (Aa @ydG @yeJ)) (Aa @ydH (Aa @ycS @ydI)))):=(Aa (Aa (Aa @yby @ydD) (Aa @yeI (Aa @ydE @ydF))) (Aa (Aa @ycR (Aa @ydG @yeJ)) (Aa @ydH (Aa @ycS @ydI))))
theorem yc:type_of% (Aa @yic @ygv):=(Aa @yic @ygv)
open Go
section
variable {C:Calls'} {E E1 E2 E3:Env} {ex:Ex} {k:List Nat}
theorem yh{a b:XC}{R:Option (Ex×Env)}(h:evX C a E=some (ex,E1))(h2:seqK (some (ex,E1)) (evX C b)=R):evX C (.seq a b) E=R:=by
 rw[yiI,h];exact h2
theorem yC{f:Env->Option (Ex×Env)}{R:Option (Ex×Env)}(h:f E=R):seqK (some (.norm,E)) f=R:=h
theorem yfr{f:Env->Option (Ex×Env)}{i:Nat}:seqK (some (.exit i,E)) f=some (.exit i,E):=rfl
theorem yck{f:Env->Option (Ex×Env)}:seqK (some (.ret,E)) f=some (.ret,E):=rfl
theorem yY:evX C .skip E=some (.norm,E):=ygQ
theorem yaz:evX C .ret E=some (.ret,E):=yiG
theorem ycz{i:Nat}(h:E.keep k=E1):evX C (.exit i k) E=some (.exit i,E1):=by rw[ygR,h]
theorem yr{ops:List XI}(h:steps C E ops=some E1)(h2:E1.keep k=E2):evX C (.reg ops false k) E=some (.norm,E2):=by
 rw[yiH,h];simp[h2]
theorem yn:steps C E []=some E:=rfl
theorem yb{o:XI}{r:List XI}(h:step C E o=some E1)(h2:steps C E1 r=some E2):steps C E (o::r)=some E2:=by
 simp only[steps,h];exact h2
theorem ycg{ops:List XI}{ds:List Nat}(h0:dstsOf ops=ds)(h1:(E.all fun x=>noRefs ds x.2 && !ds.contains x.1)=true)(h:stepsD C E.sub ds E ops=some E1)(h2:E1.keep k=E2):evX C (.reg ops true k) E=some (.norm,E2):=by
 subst h0
 rw[ygS]
 simp only[regD]
 rw[if_pos h1,h];simp[h2]
theorem yf{S:Subs}{ds:List Nat}{o:XI}{r:List XI}{d:Nat}{v:PV}(hb:o.bar=false)(h:stepD C S ds E o=some (d,v))(hg:E.get d = .none)(hs:E.set d v=E1)(h2:stepsD C S ds E1 r=some E2):stepsD C S ds E (o::r)=some E2:=by
 simp only[stepsD,hb,Al,if_false,h,hg,hs];exact h2
theorem ych{S:Subs}{ds:List Nat}{o:XI}{r:List XI}(hb:o.bar=true)(ha:r.all (·.bar)=true)(h:steps C E (o::r)=some E2):stepsD C S ds E (o::r)=some E2:=by
 simp only[stepsD,hb,if_true,ha];exact h
theorem yO{c:XO}{a b:XC}{R:Option (Ex×Env)}(h:look E c = .bool true)(h1:evX C a E=some (ex,E1))(h2:fgt k (some (ex,E1))=R):evX C (.cond c a b k) E=R:=by
 rw[yeH,h,condK,h1];exact h2
theorem yS{c:XO}{a b:XC}{R:Option (Ex×Env)}(h:look E c = .bool false)(h1:evX C b E=some (ex,E1))(h2:fgt k (some (ex,E1))=R):evX C (.cond c a b k) E=R:=by
 rw[yeH,h,condK,h1];exact h2
theorem yM{b:XC}{i:Nat}{R:Option (Ex×Env)}(h1:evX C b E=some (ex,E1))(h2:fgt k (blockK i (some (ex,E1)))=R):evX C (.block i b k) E=R:=by
 rw[ye3,h1];exact h2
theorem yaR{b:XC}{R:Option (Ex×Env)}(h1:evX C b E=some (ex,E1))(h2:fgt k (some (ex,E1))=R):fgt k (evX C b E)=R:=by
 rw[h1];exact h2
theorem ycU{x:XF}{ws:List PV}{c:XC}{r:Option (PV×List PV)}(hc:x.body=c)(hp:params 0 (argsIn x.nk ws)=E)(h:evX C c E=some (ex,E1))(h2:retK x ws (some (ex,E1))=r):retK x ws (evX C x.body (params 0 (argsIn x.nk ws)))=r:=by
 rw[hc,hp,h];exact h2
end
open Go
set_option maxRecDepth 100000
set_option maxHeartbeats 4000000
theorem yev(p0:Int)(out1:Int)(i2:Int):Sim (r03_power_l1_b p0 out1 i2) fun x=>fgt [0,3,4] (evX (evI T) x75_1 [(0,.int .i64 p0),(3,.int .i64 out1),(4,.int .i64 i2)])=some (stpK (fun s=>(.norm,[(0,.int .i64 p0),(3,.int .i64 s.1),(4,.int .i64 s.2)])) (fun r=>(.exit 0,[(3,.int .i64 r)])) x):=by
 unfold r03_power_l1_b
 refine y7 (fun h1=>?_) (fun h1=>?_)
 ·refine yq ?_
  refine' (yaR (yh (yh (yr (yb ?_ (yb ?_ (yb ?_ yn))) ?_) (yC (yO ?_ yY ?_))) (yC (yh (yM (yr (yb ?_ (yb ?_ (yb ?_ yn))) ?_) ?_) (yC (yr (yb ?_ (yb ?_ (yb ?_ yn))) ?_))))) ?_)
  all_goals (first | (simp only[nz,rn,h1,Int.reduceLT,Int.reduceEq,Ao,Ap,An,Aq,reduceIte,reduceCtorEq,Nat.reduceEqDiff,Nat.reduceLT,Nat.reduceBEq,Nat.reduceAdd,Nat.reduceMul,Nat.reduceLeDiff,Nat.reduceSub,Al];try rfl) | skip)
 ·refine yq ?_
  refine' (yaR (yh (yh (yr (yb ?_ (yb ?_ (yb ?_ yn))) ?_) (yC (yS ?_ (ycz ?_) ?_))) yfr) ?_)
  all_goals (first | (simp only[nz,rn,h1,Int.reduceLT,Int.reduceEq,Ao,Ap,An,Aq,reduceIte,reduceCtorEq,Nat.reduceEqDiff,Nat.reduceLT,Nat.reduceBEq,Nat.reduceAdd,Nat.reduceMul,Nat.reduceLeDiff,Nat.reduceSub,Al];try rfl) | skip)
theorem yfs(p0:Int)(s:Int×Int):Sim (r03_power_l1 p0 s) fun r=>evX (evI T) (.loop x75_1 [0,3,4]) [(0,.int .i64 p0),(3,.int .i64 s.1),(4,.int .i64 s.2)]=some (.exit 0,[(3,.int .i64 r)]):=by
 unfold r03_power_l1
 exact yat (C:=evI T) (b:=x75_1) (ks:=[0,3,4]) (σ:=Int×Int) (ρ:=Int) (body:=fun s=>r03_power_l1_b p0 s.1 s.2) (E:=fun s=>[(0,.int .i64 p0),(3,.int .i64 s.1),(4,.int .i64 s.2)]) (R:=fun r=>(.exit 0,[(3,.int .i64 r)])) (fun r h=>nomatch h) (fun s=>yev p0 s.1 s.2) s
theorem yie(p0:Int):Sim (r03_power p0) fun r=>evI T 75 [.int .i64 p0]=some (.int .i64 r,[.none]):=by
 unfold r03_power
 refine yE (fun out3 h2=>?_)
 have f3:=yfs p0 (1,0) _ h2
 dsimp only at f3
 refine yq ?_
 refine yP (x:=x75) rfl rfl rfl ?_
 try simp only[nz] at f3
 all_goals
  refine' (ycU rfl rfl (yh (yr (yb ?_ yn) ?_) (yC (yh (yr (yb ?_ yn) ?_) (yC (yh (yh (yr (yb ?_ yn) ?_) (yC (yM f3 ?_))) (yC (yh (yr (yb ?_ (yb ?_ yn)) ?_) (yC yaz)))))))) ?_)
  all_goals (first | (simp only[x75,nz,rn,Int.reduceLT,Int.reduceEq,Ao,Ap,An,Aq,reduceIte,reduceCtorEq,Nat.reduceEqDiff,Nat.reduceLT,Nat.reduceBEq,Nat.reduceAdd,Nat.reduceMul,Nat.reduceLeDiff,Nat.reduceSub,Al];try rfl) | skip)
theorem yg3(p0:Int):Sim (r03_power p0) fun r=>∀ws,ws.map normA=[.int .i64 p0]->evI T 75 ws=some (.int .i64 r,[.none]):=fun r h=>ydW (x:=x75) rfl rfl rfl (yie p0 r h)
open Go
set_option maxRecDepth 100000
set_option maxHeartbeats 4000000
theorem yd2(p0:Shape)(p1:Int):evX (evI T) x23_1 [(1,.int .i64 p1),(2,.box [.int .i64 p0.Slots,.int .i64 p0.Mask])]=some (.norm,[(1,.int .i64 p1),(2,.box [.int .i64 p0.Slots,.int .i64 p0.Mask]),(12,.bool (((decide (p1<0))||(decide (p0.Slots<=p1)))))]):=by
 rcases B9 (decide (p1<0)) with h1|h1
 ·refine' (yr (yb ?_ (yb ?_ (yb ?_ (yb ?_ (yb ?_ (yb ?_ (yb ?_ (yb ?_ yn)))))))) ?_)
  all_goals (first | (simp only[nz,rn,yR,h1,Int.reduceLT,Int.reduceEq,Ao,Ap,An,Aq,reduceIte,reduceCtorEq,Nat.reduceEqDiff,Nat.reduceLT,Nat.reduceBEq,Nat.reduceAdd,Nat.reduceMul,Nat.reduceLeDiff,Nat.reduceSub,Al];try rfl) | skip)
 ·refine' (yr (yb ?_ (yb ?_ (yb ?_ (yb ?_ (yb ?_ (yb ?_ (yb ?_ (yb ?_ yn)))))))) ?_)
  all_goals (first | (simp only[nz,rn,yR,h1,Int.reduceLT,Int.reduceEq,Ao,Ap,An,Aq,reduceIte,reduceCtorEq,Nat.reduceEqDiff,Nat.reduceLT,Nat.reduceBEq,Nat.reduceAdd,Nat.reduceMul,Nat.reduceLeDiff,Nat.reduceSub,Al];try rfl) | skip)
theorem yfM(p0:Shape)(p1:Int):Sim (r03_Pointer p0 p1) fun r=>evI T 23 [.agg [.int .i64 p0.Slots,.int .i64 p0.Mask],.int .i64 p1]=some (.bool r,[.none,.none]):=by
 unfold r03_Pointer
 have f3:=yd2 p0 p1
 refine y7 (fun h4=>?_) (fun h4=>?_)
 ·refine yq ?_
  refine yP (x:=x23) rfl rfl rfl ?_
  try simp only[nz,yR] at f3
  all_goals
   refine' (ycU rfl rfl (yh (yr (yb ?_ (yb ?_ yn)) ?_) (yC (yh (yh f3 (yC (yO ?_ (yh (yr (yb ?_ yn) ?_) (yC yaz)) ?_))) yck))) ?_)
   all_goals (first | (simp only[x23,nz,rn,yR,h4,Int.reduceLT,Int.reduceEq,Ao,Ap,An,Aq,reduceIte,reduceCtorEq,Nat.reduceEqDiff,Nat.reduceLT,Nat.reduceBEq,Nat.reduceAdd,Nat.reduceMul,Nat.reduceLeDiff,Nat.reduceSub,Al];try rfl) | skip)
 ·refine yE (fun r2 h5=>?_)
  have f6:=yg3 p1 _ h5
  dsimp only at f6
  refine y7 (fun h7=>?_) (fun h7=>?_)
  ·exact ygT
  ·refine yq ?_
   refine yP (x:=x23) rfl rfl rfl ?_
   try simp only[nz,yR] at f3
   try simp only[nz,yR] at f6
   all_goals
    refine' (ycU rfl rfl (yh (yr (yb ?_ (yb ?_ yn)) ?_) (yC (yh (yh f3 (yC (yS ?_ yY ?_))) (yC (yh (ycg ?_ ?_ (yf rfl ?_ ?_ ?_ (yf rfl ?_ ?_ ?_ (yf rfl ?_ ?_ ?_ (yf rfl ?_ ?_ ?_ (ych rfl rfl (yb ?_ (yb ?_ (yb ?_ (yb ?_ yn))))))))) ?_) (yC yaz)))))) ?_)
    all_goals (first | (simp only[x23,nz,rn,yR,h4,f6,Cg h7,h7,Int.reduceLT,Int.reduceEq,Ao,Ap,An,Aq,reduceIte,reduceCtorEq,Nat.reduceEqDiff,Nat.reduceLT,Nat.reduceBEq,Nat.reduceAdd,Nat.reduceMul,Nat.reduceLeDiff,Nat.reduceSub,Al];try rfl) | skip)
open Go
set_option maxRecDepth 100000
set_option maxHeartbeats 4000000
theorem yft(p0:List Int)(p1:List Int)(i1:Int):Sim (r05_Ints_l1_b p0 p1 i1) fun x=>fgt [0,1,5] (evX (evI T) x29_1 [(0,.sl p0.length (p0.flatMap (cint .i64))),(1,.sl p1.length (p1.flatMap (cint .i64))),(5,.int .i64 i1)])=some (stpK (fun s=>(.norm,[(0,.sl p0.length (p0.flatMap (cint .i64))),(1,.sl p1.length (p1.flatMap (cint .i64))),(5,.int .i64 s)])) (fun r=>(stpK (fun t0=>(.exit 0,[])) (fun u0=>(.ret,[(4,.bool false)])) r)) x):=by
 unfold r05_Ints_l1_b
 refine y7 (fun h2=>?_) (fun h2=>?_)
 ·refine yE (fun x_2 h3=>?_)
  have f4:=ydX h3
  have f4o:=yaY h3
  have f5:=yay (ybl .i64) h3
  simp only[nz] at f5
  refine yE (fun x_3 h6=>?_)
  have f7:=ydX h6
  have f7o:=yaY h6
  have f8:=yay (ybl .i64) h6
  simp only[nz] at f8
  refine y7 (fun h9=>?_) (fun h9=>?_)
  ·refine yq ?_
   refine' (yaR (yh (yh (yr (yb ?_ (yb ?_ (yb ?_ (yb ?_ yn)))) ?_) (yC (yO ?_ yY ?_))) (yC (yh (yM (yh (ycg ?_ ?_ (yf rfl ?_ ?_ ?_ (yf rfl ?_ ?_ ?_ (yf rfl ?_ ?_ ?_ (yf rfl ?_ ?_ ?_ (yf rfl ?_ ?_ ?_ (yf rfl ?_ ?_ ?_ (yf rfl ?_ ?_ ?_ (yf rfl ?_ ?_ ?_ (ych rfl rfl (yb ?_ yn)))))))))) ?_) (yC (yO ?_ (yh (yr (yb ?_ yn) ?_) (yC yaz)) ?_))) ?_) yck))) ?_)
   all_goals (first | (simp only[nz,rn,h2,f4,f4o,f5,f7,f7o,f8,h9,Int.reduceLT,Int.reduceEq,Ao,Ap,An,Aq,reduceIte,reduceCtorEq,Nat.reduceEqDiff,Nat.reduceLT,Nat.reduceBEq,Nat.reduceAdd,Nat.reduceMul,Nat.reduceLeDiff,Nat.reduceSub,Al];try rfl) | skip)
  ·refine yq ?_
   refine' (yaR (yh (yh (yr (yb ?_ (yb ?_ (yb ?_ (yb ?_ yn)))) ?_) (yC (yO ?_ yY ?_))) (yC (yh (yM (yh (ycg ?_ ?_ (yf rfl ?_ ?_ ?_ (yf rfl ?_ ?_ ?_ (yf rfl ?_ ?_ ?_ (yf rfl ?_ ?_ ?_ (yf rfl ?_ ?_ ?_ (yf rfl ?_ ?_ ?_ (yf rfl ?_ ?_ ?_ (yf rfl ?_ ?_ ?_ (ych rfl rfl (yb ?_ yn)))))))))) ?_) (yC (yS ?_ yY ?_))) ?_) (yC (yr (yb ?_ (yb ?_ (yb ?_ yn))) ?_))))) ?_)
   all_goals (first | (simp only[nz,rn,h2,f4,f4o,f5,f7,f7o,f8,h9,Int.reduceLT,Int.reduceEq,Ao,Ap,An,Aq,reduceIte,reduceCtorEq,Nat.reduceEqDiff,Nat.reduceLT,Nat.reduceBEq,Nat.reduceAdd,Nat.reduceMul,Nat.reduceLeDiff,Nat.reduceSub,Al];try rfl) | skip)
 ·refine yq ?_
  refine' (yaR (yh (yh (yr (yb ?_ (yb ?_ (yb ?_ (yb ?_ yn)))) ?_) (yC (yS ?_ (ycz ?_) ?_))) yfr) ?_)
  all_goals (first | (simp only[nz,rn,h2,Int.reduceLT,Int.reduceEq,Ao,Ap,An,Aq,reduceIte,reduceCtorEq,Nat.reduceEqDiff,Nat.reduceLT,Nat.reduceBEq,Nat.reduceAdd,Nat.reduceMul,Nat.reduceLeDiff,Nat.reduceSub,Al];try rfl) | skip)
theorem yc2(p0:List Int)(p1:List Int)(s:Int):Sim (r05_Ints_l1 p0 p1 s) fun r=>evX (evI T) (.loop x29_1 [0,1,5]) [(0,.sl p0.length (p0.flatMap (cint .i64))),(1,.sl p1.length (p1.flatMap (cint .i64))),(5,.int .i64 s)]=some (stpK (fun t0=>(.exit 0,[])) (fun u0=>(.ret,[(4,.bool false)])) r):=by
 unfold r05_Ints_l1
 exact yat (C:=evI T) (b:=x29_1) (ks:=[0,1,5]) (σ:=Int) (ρ:=Stp Unit Unit) (body:=fun s=>r05_Ints_l1_b p0 p1 s) (E:=fun s=>[(0,.sl p0.length (p0.flatMap (cint .i64))),(1,.sl p1.length (p1.flatMap (cint .i64))),(5,.int .i64 s)]) (R:=fun r=>(stpK (fun t0=>(.exit 0,[])) (fun u0=>(.ret,[(4,.bool false)])) r)) (fun r h=>by rcases r with _|_ <;> cases h) (fun s=>yft p0 p1 s) s
theorem yiV(p0:List Int)(p1:List Int):Sim (r05_Ints p0 p1) fun r=>evI T 29 [.sl p0.length (p0.flatMap (cint .i64)),.sl p1.length (p1.flatMap (cint .i64))]=some (.bool r,[.none,.none]):=by
 unfold r05_Ints
 refine y7 (fun h1=>?_) (fun h1=>?_)
 ·refine yq ?_
  refine yP (x:=x29) rfl rfl rfl ?_
  refine' (ycU rfl rfl (yh (yr (yb ?_ yn) ?_) (yC (yh (yh (yr (yb ?_ (yb ?_ (yb ?_ (yb ?_ (yb ?_ yn))))) ?_) (yC (yO ?_ (yh (yr (yb ?_ yn) ?_) (yC yaz)) ?_))) yck))) ?_)
  all_goals (first | (simp only[x29,nz,rn,h1,Int.reduceLT,Int.reduceEq,Ao,Ap,An,Aq,reduceIte,reduceCtorEq,Nat.reduceEqDiff,Nat.reduceLT,Nat.reduceBEq,Nat.reduceAdd,Nat.reduceMul,Nat.reduceLeDiff,Nat.reduceSub,Al];try rfl) | skip)
 ·refine yE (fun qh10 h10=>?_)
  rcases qh10 with⟨_⟩|⟨_⟩
  ·dsimp only
   have f11:=yc2 p0 p1 0 _ h10
   dsimp only at f11
   refine yq ?_
   refine yP (x:=x29) rfl rfl rfl ?_
   try simp only[nz] at f11
   all_goals
    refine' (ycU rfl rfl (yh (yr (yb ?_ yn) ?_) (yC (yh (yh (yr (yb ?_ (yb ?_ (yb ?_ (yb ?_ (yb ?_ yn))))) ?_) (yC (yS ?_ yY ?_))) (yC (yh (yh (yr (yb ?_ yn) ?_) (yC (yM f11 ?_))) (yC (yh (yr (yb ?_ yn) ?_) (yC yaz)))))))) ?_)
    all_goals (first | (simp only[x29,nz,rn,h1,Int.reduceLT,Int.reduceEq,Ao,Ap,An,Aq,reduceIte,reduceCtorEq,Nat.reduceEqDiff,Nat.reduceLT,Nat.reduceBEq,Nat.reduceAdd,Nat.reduceMul,Nat.reduceLeDiff,Nat.reduceSub,Al];try rfl) | skip)
  ·dsimp only
   have f11:=yc2 p0 p1 0 _ h10
   dsimp only at f11
   refine yq ?_
   refine yP (x:=x29) rfl rfl rfl ?_
   try simp only[nz] at f11
   all_goals
    refine' (ycU rfl rfl (yh (yr (yb ?_ yn) ?_) (yC (yh (yh (yr (yb ?_ (yb ?_ (yb ?_ (yb ?_ (yb ?_ yn))))) ?_) (yC (yS ?_ yY ?_))) (yC (yh (yh (yr (yb ?_ yn) ?_) (yC (yM f11 ?_))) yck))))) ?_)
    all_goals (first | (simp only[x29,nz,rn,h1,Int.reduceLT,Int.reduceEq,Ao,Ap,An,Aq,reduceIte,reduceCtorEq,Nat.reduceEqDiff,Nat.reduceLT,Nat.reduceBEq,Nat.reduceAdd,Nat.reduceMul,Nat.reduceLeDiff,Nat.reduceSub,Al];try rfl) | skip)
open Go
set_option maxRecDepth 100000
set_option maxHeartbeats 4000000
theorem yfu(p0:Int)(m1:Int)(i2:Int)(h2:decide ((IntKind.wrap .i64 (i2-1))<0)=false):evX (evI T) x35_1 [(4,.box [.int .i64 0,.int .i64 0]),(5,.int .i64 (IntKind.wrap .i64 (Int.tmod (IntKind.wrap .u64 p0) 17))),(6,.int .i64 m1),(7,.int .i64 i2),(23,.bool (decide ((IntKind.wrap .i64 (1*2 ^ (min (IntKind.wrap .i64 (i2-1)).toNat 64)))<=m1)))]=some (.norm,[(4,.box [.int .i64 0,.int .i64 0]),(5,.int .i64 (IntKind.wrap .i64 (Int.tmod (IntKind.wrap .u64 p0) 17))),(6,.int .i64 ((if decide ((IntKind.wrap .i64 (1*2 ^ (min (IntKind.wrap .i64 (i2-1)).toNat 64)))<=m1) then IntKind.wrap .i64 (m1-(IntKind.wrap .i64 (1*2 ^ (min (IntKind.wrap .i64 (i2-1)).toNat 64)))) else m1))),(7,.int .i64 i2)]):=by
 rcases B9 (decide ((IntKind.wrap .i64 (1*2 ^ (min (IntKind.wrap .i64 (i2-1)).toNat 64)))<=m1)) with h3|h3
 ·refine' (yO ?_ (yr (yb ?_ (yb ?_ (yb ?_ (yb ?_ (yb ?_ (yb ?_ yn)))))) ?_) ?_)
  all_goals (first | (simp only[nz,rn,h3,h2,Cg h2,Int.reduceLT,Int.reduceEq,Ao,Ap,An,Aq,reduceIte,reduceCtorEq,Nat.reduceEqDiff,Nat.reduceLT,Nat.reduceBEq,Nat.reduceAdd,Nat.reduceMul,Nat.reduceLeDiff,Nat.reduceSub,Al];try rfl) | skip)
 ·refine' (yS ?_ yY ?_)
  all_goals (first | (simp only[nz,rn,h3,h2,Cg h2,Int.reduceLT,Int.reduceEq,Ao,Ap,An,Aq,reduceIte,reduceCtorEq,Nat.reduceEqDiff,Nat.reduceLT,Nat.reduceBEq,Nat.reduceAdd,Nat.reduceMul,Nat.reduceLeDiff,Nat.reduceSub,Al];try rfl) | skip)
theorem yew(p0:Int)(m1:Int)(i2:Int):Sim (l12_Shape_l5_b p0 m1 i2) fun x=>fgt [4,5,6,7] (evX (evI T) x35_2 [(4,.box [.int .i64 0,.int .i64 0]),(5,.int .i64 (IntKind.wrap .i64 (Int.tmod (IntKind.wrap .u64 p0) 17))),(6,.int .i64 m1),(7,.int .i64 i2)])=some (stpK (fun s=>(.norm,[(4,.box [.int .i64 0,.int .i64 0]),(5,.int .i64 (IntKind.wrap .i64 (Int.tmod (IntKind.wrap .u64 p0) 17))),(6,.int .i64 s.1),(7,.int .i64 s.2)])) (fun r=>(.exit 0,[(4,.box [.int .i64 0,.int .i64 0]),(5,.int .i64 (IntKind.wrap .i64 (Int.tmod (IntKind.wrap .u64 p0) 17))),(6,.int .i64 r)])) x):=by
 unfold l12_Shape_l5_b
 refine y7 (fun h1=>?_) (fun h1=>?_)
 ·refine y7 (fun h2=>?_) (fun h2=>?_)
  ·exact ygT
  ·have f5:=yfu p0 m1 i2 h2
   refine yq ?_
   try simp only[nz] at f5
   all_goals
    refine' (yaR (yh (yh (yr (yb ?_ (yb ?_ (yb ?_ yn))) ?_) (yC (yO ?_ yY ?_))) (yC (yh (yM (yh (yr (yb ?_ (yb ?_ (yb ?_ (yb ?_ (yb ?_ yn))))) ?_) (yC f5)) ?_) (yC (yr (yb ?_ (yb ?_ (yb ?_ yn))) ?_))))) ?_)
    all_goals (first | (simp only[nz,rn,h1,Cg h2,h2,Int.reduceLT,Int.reduceEq,Ao,Ap,An,Aq,reduceIte,reduceCtorEq,Nat.reduceEqDiff,Nat.reduceLT,Nat.reduceBEq,Nat.reduceAdd,Nat.reduceMul,Nat.reduceLeDiff,Nat.reduceSub,Al];try rfl) | skip)
 ·refine yq ?_
  refine' (yaR (yh (yh (yr (yb ?_ (yb ?_ (yb ?_ yn))) ?_) (yC (yS ?_ (ycz ?_) ?_))) yfr) ?_)
  all_goals (first | (simp only[nz,rn,h1,Int.reduceLT,Int.reduceEq,Ao,Ap,An,Aq,reduceIte,reduceCtorEq,Nat.reduceEqDiff,Nat.reduceLT,Nat.reduceBEq,Nat.reduceAdd,Nat.reduceMul,Nat.reduceLeDiff,Nat.reduceSub,Al];try rfl) | skip)
theorem yfv(p0:Int)(s:Int×Int):Sim (l12_Shape_l5 p0 s) fun r=>evX (evI T) (.loop x35_2 [4,5,6,7]) [(4,.box [.int .i64 0,.int .i64 0]),(5,.int .i64 (IntKind.wrap .i64 (Int.tmod (IntKind.wrap .u64 p0) 17))),(6,.int .i64 s.1),(7,.int .i64 s.2)]=some (.exit 0,[(4,.box [.int .i64 0,.int .i64 0]),(5,.int .i64 (IntKind.wrap .i64 (Int.tmod (IntKind.wrap .u64 p0) 17))),(6,.int .i64 r)]):=by
 unfold l12_Shape_l5
 exact yat (C:=evI T) (b:=x35_2) (ks:=[4,5,6,7]) (σ:=Int×Int) (ρ:=Int) (body:=fun s=>l12_Shape_l5_b p0 s.1 s.2) (E:=fun s=>[(4,.box [.int .i64 0,.int .i64 0]),(5,.int .i64 (IntKind.wrap .i64 (Int.tmod (IntKind.wrap .u64 p0) 17))),(6,.int .i64 s.1),(7,.int .i64 s.2)]) (R:=fun r=>(.exit 0,[(4,.box [.int .i64 0,.int .i64 0]),(5,.int .i64 (IntKind.wrap .i64 (Int.tmod (IntKind.wrap .u64 p0) 17))),(6,.int .i64 r)])) (fun r h=>nomatch h) (fun s=>yew p0 s.1 s.2) s
theorem yif(p0:Int)(p1:Int):Sim (l12_Shape p0 p1) fun r=>evI T 35 [.int .i64 p0,.int .u16 p1]=some (.agg [.int .i64 r.Slots,.int .i64 r.Mask],[.none,.none]):=by
 unfold l12_Shape
 refine yE (fun m4 h6=>?_)
 have f7:=yfv p0 (IntKind.wrap .i64 p1,16) _ h6
 dsimp only at f7
 refine yq ?_
 refine yP (x:=x35) rfl rfl rfl ?_
 try simp only[nz] at f7
 all_goals
  refine' (ycU rfl rfl (yh (yr (yb ?_ yn) ?_) (yC (yh (yr (yb ?_ (yb ?_ (yb ?_ (yb ?_ (yb ?_ yn))))) ?_) (yC (yh (yr (yb ?_ (yb ?_ (yb ?_ yn))) ?_) (yC (yh (yh (yr (yb ?_ yn) ?_) (yC (yM f7 ?_))) (yC (yh (yr (yb ?_ (yb ?_ (yb ?_ (yb ?_ yn)))) ?_) (yC yaz)))))))))) ?_)
  all_goals (first | (simp only[x35,nz,rn,Int.reduceLT,Int.reduceEq,Ao,Ap,An,Aq,reduceIte,reduceCtorEq,Nat.reduceEqDiff,Nat.reduceLT,Nat.reduceBEq,Nat.reduceAdd,Nat.reduceMul,Nat.reduceLeDiff,Nat.reduceSub,Al];try rfl) | skip)
open Go
set_option maxRecDepth 100000
set_option maxHeartbeats 4000000
theorem yd3(p0:Shape):evX (evI T) x97_1 [(1,.box [.int .i64 p0.Slots,.int .i64 p0.Mask])]=some (.norm,[(23,.bool (((decide (p0.Slots<0))||(((decide (16<p0.Slots))||(((decide (p0.Mask<0))||(decide ((IntKind.wrap .i64 (1*2 ^ (min p0.Slots.toNat 64)))<=p0.Mask)))))))))]):=by
 rcases B9 (decide (p0.Slots<0)) with h1|h1
 ·refine' (ycg ?_ ?_ (yf rfl ?_ ?_ ?_ (yf rfl ?_ ?_ ?_ (yf rfl ?_ ?_ ?_ (yf rfl ?_ ?_ ?_ (yf rfl ?_ ?_ ?_ (yf rfl ?_ ?_ ?_ (yf rfl ?_ ?_ ?_ (yf rfl ?_ ?_ ?_ (yf rfl ?_ ?_ ?_ (yf rfl ?_ ?_ ?_ (yf rfl ?_ ?_ ?_ (yf rfl ?_ ?_ ?_ (yf rfl ?_ ?_ ?_ (yf rfl ?_ ?_ ?_ (yf rfl ?_ ?_ ?_ (yf rfl ?_ ?_ ?_ (yf rfl ?_ ?_ ?_ (yf rfl ?_ ?_ ?_ (yf rfl ?_ ?_ ?_ (ych rfl rfl (yb ?_ (yb ?_ yn)))))))))))))))))))))) ?_)
  all_goals (first | (simp only[nz,rn,yR,h1,Int.reduceLT,Int.reduceEq,Ao,Ap,An,Aq,reduceIte,reduceCtorEq,Nat.reduceEqDiff,Nat.reduceLT,Nat.reduceBEq,Nat.reduceAdd,Nat.reduceMul,Nat.reduceLeDiff,Nat.reduceSub,Al];try rfl) | skip)
 ·rcases B9 (decide (16<p0.Slots)) with h2|h2
  ·refine' (ycg ?_ ?_ (yf rfl ?_ ?_ ?_ (yf rfl ?_ ?_ ?_ (yf rfl ?_ ?_ ?_ (yf rfl ?_ ?_ ?_ (yf rfl ?_ ?_ ?_ (yf rfl ?_ ?_ ?_ (yf rfl ?_ ?_ ?_ (yf rfl ?_ ?_ ?_ (yf rfl ?_ ?_ ?_ (yf rfl ?_ ?_ ?_ (yf rfl ?_ ?_ ?_ (yf rfl ?_ ?_ ?_ (yf rfl ?_ ?_ ?_ (yf rfl ?_ ?_ ?_ (yf rfl ?_ ?_ ?_ (yf rfl ?_ ?_ ?_ (yf rfl ?_ ?_ ?_ (yf rfl ?_ ?_ ?_ (yf rfl ?_ ?_ ?_ (ych rfl rfl (yb ?_ (yb ?_ yn)))))))))))))))))))))) ?_)
   all_goals (first | (simp only[nz,rn,yR,h1,h2,Int.reduceLT,Int.reduceEq,Ao,Ap,An,Aq,reduceIte,reduceCtorEq,Nat.reduceEqDiff,Nat.reduceLT,Nat.reduceBEq,Nat.reduceAdd,Nat.reduceMul,Nat.reduceLeDiff,Nat.reduceSub,Al];try rfl) | skip)
  ·rcases B9 (decide (p0.Mask<0)) with h3|h3
   ·refine' (ycg ?_ ?_ (yf rfl ?_ ?_ ?_ (yf rfl ?_ ?_ ?_ (yf rfl ?_ ?_ ?_ (yf rfl ?_ ?_ ?_ (yf rfl ?_ ?_ ?_ (yf rfl ?_ ?_ ?_ (yf rfl ?_ ?_ ?_ (yf rfl ?_ ?_ ?_ (yf rfl ?_ ?_ ?_ (yf rfl ?_ ?_ ?_ (yf rfl ?_ ?_ ?_ (yf rfl ?_ ?_ ?_ (yf rfl ?_ ?_ ?_ (yf rfl ?_ ?_ ?_ (yf rfl ?_ ?_ ?_ (yf rfl ?_ ?_ ?_ (yf rfl ?_ ?_ ?_ (yf rfl ?_ ?_ ?_ (yf rfl ?_ ?_ ?_ (ych rfl rfl (yb ?_ (yb ?_ yn)))))))))))))))))))))) ?_)
    all_goals (first | (simp only[nz,rn,yR,h1,h2,h3,Int.reduceLT,Int.reduceEq,Ao,Ap,An,Aq,reduceIte,reduceCtorEq,Nat.reduceEqDiff,Nat.reduceLT,Nat.reduceBEq,Nat.reduceAdd,Nat.reduceMul,Nat.reduceLeDiff,Nat.reduceSub,Al];try rfl) | skip)
   ·refine' (ycg ?_ ?_ (yf rfl ?_ ?_ ?_ (yf rfl ?_ ?_ ?_ (yf rfl ?_ ?_ ?_ (yf rfl ?_ ?_ ?_ (yf rfl ?_ ?_ ?_ (yf rfl ?_ ?_ ?_ (yf rfl ?_ ?_ ?_ (yf rfl ?_ ?_ ?_ (yf rfl ?_ ?_ ?_ (yf rfl ?_ ?_ ?_ (yf rfl ?_ ?_ ?_ (yf rfl ?_ ?_ ?_ (yf rfl ?_ ?_ ?_ (yf rfl ?_ ?_ ?_ (yf rfl ?_ ?_ ?_ (yf rfl ?_ ?_ ?_ (yf rfl ?_ ?_ ?_ (yf rfl ?_ ?_ ?_ (yf rfl ?_ ?_ ?_ (ych rfl rfl (yb ?_ (yb ?_ yn)))))))))))))))))))))) ?_)
    all_goals (first | (simp only[nz,rn,yR,h1,h2,h3,Cg h1,Int.reduceLT,Int.reduceEq,Ao,Ap,An,Aq,reduceIte,reduceCtorEq,Nat.reduceEqDiff,Nat.reduceLT,Nat.reduceBEq,Nat.reduceAdd,Nat.reduceMul,Nat.reduceLeDiff,Nat.reduceSub,Al];try rfl) | skip)
theorem yfN(p0:Shape):Sim (shape_Check p0) fun r=>evI T 97 [.agg [.int .i64 p0.Slots,.int .i64 p0.Mask]]=some (.int .i64 r,[.none]):=by
 unfold shape_Check
 have f5:=yd3 p0
 refine y7 (fun h6=>?_) (fun h6=>?_)
 ·refine yq ?_
  refine yP (x:=x97) rfl rfl rfl ?_
  try simp only[nz,yR] at f5
  all_goals
   refine' (ycU rfl rfl (yh (yr (yb ?_ (yb ?_ yn)) ?_) (yC (yh (yh f5 (yC (yO ?_ (yh (yr (yb ?_ yn) ?_) (yC yaz)) ?_))) yck))) ?_)
   all_goals (first | (simp only[x97,nz,rn,yR,h6,Int.reduceLT,Int.reduceEq,Ao,Ap,An,Aq,reduceIte,reduceCtorEq,Nat.reduceEqDiff,Nat.reduceLT,Nat.reduceBEq,Nat.reduceAdd,Nat.reduceMul,Nat.reduceLeDiff,Nat.reduceSub,Al];try rfl) | skip)
 ·refine yq ?_
  refine yP (x:=x97) rfl rfl rfl ?_
  try simp only[nz,yR] at f5
  all_goals
   refine' (ycU rfl rfl (yh (yr (yb ?_ (yb ?_ yn)) ?_) (yC (yh (yh f5 (yC (yS ?_ yY ?_))) (yC (yh (yr (yb ?_ yn) ?_) (yC yaz)))))) ?_)
   all_goals (first | (simp only[x97,nz,rn,yR,h6,Int.reduceLT,Int.reduceEq,Ao,Ap,An,Aq,reduceIte,reduceCtorEq,Nat.reduceEqDiff,Nat.reduceLT,Nat.reduceBEq,Nat.reduceAdd,Nat.reduceMul,Nat.reduceLeDiff,Nat.reduceSub,Al];try rfl) | skip)
theorem yfw(p0:Shape):Sim (shape_Check p0) fun r=>∀ws,ws.map normA=[.agg [.int .i64 p0.Slots,.int .i64 p0.Mask]]->evI T 97 ws=some (.int .i64 r,[.none]):=fun r h=>ydW (x:=x97) rfl rfl rfl (yfN p0 r h)
open Go
set_option maxRecDepth 100000
set_option maxHeartbeats 4000000
theorem yfO(p0:Int):evX (evI T) x74_1 [(0,.int .i64 p0),(2,.box [.int .i64 0,.int .i64 0])]=some (.norm,[(0,.int .i64 p0),(2,.box [.int .i64 0,.int .i64 0]),(11,.bool (((decide (p0<0))||(decide (2097152<=p0)))))]):=by
 rcases B9 (decide (p0<0)) with h1|h1
 ·refine' (yr (yb ?_ (yb ?_ (yb ?_ (yb ?_ (yb ?_ (yb ?_ yn)))))) ?_)
  all_goals (first | (simp only[nz,rn,h1,Int.reduceLT,Int.reduceEq,Ao,Ap,An,Aq,reduceIte,reduceCtorEq,Nat.reduceEqDiff,Nat.reduceLT,Nat.reduceBEq,Nat.reduceAdd,Nat.reduceMul,Nat.reduceLeDiff,Nat.reduceSub,Al];try rfl) | skip)
 ·refine' (yr (yb ?_ (yb ?_ (yb ?_ (yb ?_ (yb ?_ (yb ?_ yn)))))) ?_)
  all_goals (first | (simp only[nz,rn,h1,Int.reduceLT,Int.reduceEq,Ao,Ap,An,Aq,reduceIte,reduceCtorEq,Nat.reduceEqDiff,Nat.reduceLT,Nat.reduceBEq,Nat.reduceAdd,Nat.reduceMul,Nat.reduceLeDiff,Nat.reduceSub,Al];try rfl) | skip)
theorem yiW(p0:Int):Sim (shape_Of p0) fun r=>evI T 74 [.int .i64 p0]=some (.tup [.agg [.int .i64 r.1.Slots,.int .i64 r.1.Mask],.int .i64 r.2],[.none]):=by
 unfold shape_Of
 have f3:=yfO p0
 refine y7 (fun h4=>?_) (fun h4=>?_)
 ·refine yq ?_
  refine yP (x:=x74) rfl rfl rfl ?_
  try simp only[nz,yR] at f3
  all_goals
   refine' (ycU rfl rfl (yh (yr (yb ?_ (yb ?_ yn)) ?_) (yC (yh (yh f3 (yC (yO ?_ (yh (yr (yb ?_ (yb ?_ (yb ?_ yn))) ?_) (yC yaz)) ?_))) yck))) ?_)
   all_goals (first | (simp only[x74,nz,rn,yR,h4,Int.reduceLT,Int.reduceEq,Ao,Ap,An,Aq,reduceIte,reduceCtorEq,Nat.reduceEqDiff,Nat.reduceLT,Nat.reduceBEq,Nat.reduceAdd,Nat.reduceMul,Nat.reduceLeDiff,Nat.reduceSub,Al];try rfl) | skip)
 ·refine yE (fun r2 h5=>?_)
  have f6:=yfw ((⟨bAnd .i64 p0 31,Int.fdiv p0 (2 ^ (min (5:Int).toNat 64))⟩:Shape)) _ h5
  dsimp only at f6
  refine y7 (fun h7=>?_) (fun h7=>?_)
  ·refine yq ?_
   refine yP (x:=x74) rfl rfl rfl ?_
   try simp only[nz,yR] at f3
   try simp only[nz,yR] at f6
   all_goals
    refine' (ycU rfl rfl (yh (yr (yb ?_ (yb ?_ yn)) ?_) (yC (yh (yh f3 (yC (yS ?_ yY ?_))) (yC (yh (yr (yb ?_ (yb ?_ (yb ?_ (yb ?_ (yb ?_ (yb ?_ (yb ?_ yn))))))) ?_) (yC (yh (yh (yr (yb ?_ (yb ?_ (yb ?_ yn))) ?_) (yC (yh (yr (yb ?_ (yb ?_ yn)) ?_) (yC (yO ?_ (yh (yr (yb ?_ (yb ?_ (yb ?_ (yb ?_ yn)))) ?_) (yC yaz)) ?_))))) yck))))))) ?_)
    all_goals (first | (simp only[x74,nz,rn,yR,h4,f6,h7,Int.reduceLT,Int.reduceEq,Ao,Ap,An,Aq,reduceIte,reduceCtorEq,Nat.reduceEqDiff,Nat.reduceLT,Nat.reduceBEq,Nat.reduceAdd,Nat.reduceMul,Nat.reduceLeDiff,Nat.reduceSub,Al];try rfl) | skip)
  ·refine yq ?_
   refine yP (x:=x74) rfl rfl rfl ?_
   try simp only[nz,yR] at f3
   try simp only[nz,yR] at f6
   all_goals
    refine' (ycU rfl rfl (yh (yr (yb ?_ (yb ?_ yn)) ?_) (yC (yh (yh f3 (yC (yS ?_ yY ?_))) (yC (yh (yr (yb ?_ (yb ?_ (yb ?_ (yb ?_ (yb ?_ (yb ?_ (yb ?_ yn))))))) ?_) (yC (yh (yh (yr (yb ?_ (yb ?_ (yb ?_ yn))) ?_) (yC (yh (yr (yb ?_ (yb ?_ yn)) ?_) (yC (yS ?_ yY ?_))))) (yC (yh (yr (yb ?_ (yb ?_ (yb ?_ yn))) ?_) (yC yaz)))))))))) ?_)
    all_goals (first | (simp only[x74,nz,rn,yR,h4,f6,h7,Int.reduceLT,Int.reduceEq,Ao,Ap,An,Aq,reduceIte,reduceCtorEq,Nat.reduceEqDiff,Nat.reduceLT,Nat.reduceBEq,Nat.reduceAdd,Nat.reduceMul,Nat.reduceLeDiff,Nat.reduceSub,Al];try rfl) | skip)
open Go
set_option maxRecDepth 100000
set_option maxHeartbeats 4000000
theorem yg4(p0:Shape):Sim (shape_Head p0) fun r=>evI T 113 [.agg [.int .i64 p0.Slots,.int .i64 p0.Mask]]=some (.int .i64 r,[.none]):=by
 unfold shape_Head
 refine yq ?_
 refine yP (x:=x113) rfl rfl rfl ?_
 refine' (ycU rfl rfl (yh (yr (yb ?_ (yb ?_ yn)) ?_) (yC (yh (yr (yb ?_ (yb ?_ (yb ?_ (yb ?_ (yb ?_ (yb ?_ (yb ?_ yn))))))) ?_) (yC yaz)))) ?_)
 all_goals (first | (simp only[x113,nz,rn,yR,Int.reduceLT,Int.reduceEq,Ao,Ap,An,Aq,reduceIte,reduceCtorEq,Nat.reduceEqDiff,Nat.reduceLT,Nat.reduceBEq,Nat.reduceAdd,Nat.reduceMul,Nat.reduceLeDiff,Nat.reduceSub,Al];try rfl) | skip)
open Go
set_option maxRecDepth 100000
set_option maxHeartbeats 4000000
theorem yg5:Sim (shape_bits) fun r=>evI T 120 []=some (.agg (r.flatMap (cint .i64)),[]):=by
 unfold shape_bits
 refine yq ?_
 refine yP (x:=x120) rfl rfl rfl ?_
 refine' (ycU rfl rfl (yh (yr (yb ?_ yn) ?_) (yC (yh (yr (yb ?_ (yb ?_ yn)) ?_) (yC yaz)))) ?_)
 all_goals (first | (simp only[x120,nz,rn,Int.reduceLT,Int.reduceEq,Ao,Ap,An,Aq,reduceIte,reduceCtorEq,Nat.reduceEqDiff,Nat.reduceLT,Nat.reduceBEq,Nat.reduceAdd,Nat.reduceMul,Nat.reduceLeDiff,Nat.reduceSub,Al];try rfl) | skip)
theorem yfP:Sim (shape_bits) fun r=>∀ws,ws.map normA=[]->evI T 120 ws=some (.agg (r.flatMap (cint .i64)),[]):=fun r h=>ydW (x:=x120) rfl rfl rfl (yg5 r h)
open Go
set_option maxRecDepth 100000
set_option maxHeartbeats 4000000
theorem ydi(p0:Shape)(p1:Int):Sim (shape_Pointer_j1 p0 p1) fun r=>evX (evI T) x98_1 [(1,.int .i64 p1),(2,.box [.int .i64 p0.Slots,.int .i64 p0.Mask])]=some (.norm,[(4,.bool r)]):=by
 unfold shape_Pointer_j1
 refine y7 (fun h1=>?_) (fun h1=>?_)
 ·refine y7 (fun h2=>?_) (fun h2=>?_)
  ·refine yE (fun r1 h3=>?_)
   have f4:=yfP _ h3
   dsimp only at f4
   refine yE (fun x_2 h5=>?_)
   have f6:=ypf h5
   have f6a:=ynU (kd:=.i64) h5
   have f6b:=ypg h5
   refine yq ?_
   try simp only[nz,yR] at f4
   all_goals
    refine' (ycg ?_ ?_ (yf rfl ?_ ?_ ?_ (yf rfl ?_ ?_ ?_ (yf rfl ?_ ?_ ?_ (yf rfl ?_ ?_ ?_ (yf rfl ?_ ?_ ?_ (yf rfl ?_ ?_ ?_ (yf rfl ?_ ?_ ?_ (yf rfl ?_ ?_ ?_ (yf rfl ?_ ?_ ?_ (yf rfl ?_ ?_ ?_ (yf rfl ?_ ?_ ?_ (yf rfl ?_ ?_ ?_ (yf rfl ?_ ?_ ?_ (yf rfl ?_ ?_ ?_ (ych rfl rfl (yb ?_ (yb ?_ (yb ?_ (yb ?_ yn))))))))))))))))))) ?_)
    all_goals (first | (simp only[nz,rn,yR,h1,h2,f4,f6,f6a,f6b,Int.reduceLT,Int.reduceEq,Ao,Ap,An,Aq,reduceIte,reduceCtorEq,Nat.reduceEqDiff,Nat.reduceLT,Nat.reduceBEq,Nat.reduceAdd,Nat.reduceMul,Nat.reduceLeDiff,Nat.reduceSub,Al];try rfl) | skip)
  ·refine yq ?_
   refine' (ycg ?_ ?_ (yf rfl ?_ ?_ ?_ (yf rfl ?_ ?_ ?_ (yf rfl ?_ ?_ ?_ (yf rfl ?_ ?_ ?_ (yf rfl ?_ ?_ ?_ (yf rfl ?_ ?_ ?_ (yf rfl ?_ ?_ ?_ (yf rfl ?_ ?_ ?_ (yf rfl ?_ ?_ ?_ (yf rfl ?_ ?_ ?_ (yf rfl ?_ ?_ ?_ (yf rfl ?_ ?_ ?_ (yf rfl ?_ ?_ ?_ (yf rfl ?_ ?_ ?_ (ych rfl rfl (yb ?_ (yb ?_ (yb ?_ (yb ?_ yn))))))))))))))))))) ?_)
   all_goals (first | (simp only[nz,rn,yR,h1,h2,Int.reduceLT,Int.reduceEq,Ao,Ap,An,Aq,reduceIte,reduceCtorEq,Nat.reduceEqDiff,Nat.reduceLT,Nat.reduceBEq,Nat.reduceAdd,Nat.reduceMul,Nat.reduceLeDiff,Nat.reduceSub,Al];try rfl) | skip)
 ·refine yq ?_
  refine' (ycg ?_ ?_ (yf rfl ?_ ?_ ?_ (yf rfl ?_ ?_ ?_ (yf rfl ?_ ?_ ?_ (yf rfl ?_ ?_ ?_ (yf rfl ?_ ?_ ?_ (yf rfl ?_ ?_ ?_ (yf rfl ?_ ?_ ?_ (yf rfl ?_ ?_ ?_ (yf rfl ?_ ?_ ?_ (yf rfl ?_ ?_ ?_ (yf rfl ?_ ?_ ?_ (yf rfl ?_ ?_ ?_ (yf rfl ?_ ?_ ?_ (yf rfl ?_ ?_ ?_ (ych rfl rfl (yb ?_ (yb ?_ (yb ?_ (yb ?_ yn))))))))))))))))))) ?_)
  all_goals (first | (simp only[nz,rn,yR,h1,Int.reduceLT,Int.reduceEq,Ao,Ap,An,Aq,reduceIte,reduceCtorEq,Nat.reduceEqDiff,Nat.reduceLT,Nat.reduceBEq,Nat.reduceAdd,Nat.reduceMul,Nat.reduceLeDiff,Nat.reduceSub,Al];try rfl) | skip)
theorem yex(p0:Shape)(p1:Int):Sim (shape_Pointer p0 p1) fun r=>evI T 98 [.agg [.int .i64 p0.Slots,.int .i64 p0.Mask],.int .i64 p1]=some (.bool r,[.none,.none]):=by
 unfold shape_Pointer
 refine yE (fun v3 h7=>?_)
 have f8:=ydi p0 p1 _ h7
 dsimp only at f8
 refine yq ?_
 refine yP (x:=x98) rfl rfl rfl ?_
 try simp only[nz,yR] at f8
 all_goals
  refine' (ycU rfl rfl (yh (yr (yb ?_ (yb ?_ yn)) ?_) (yC (yh f8 (yC yaz)))) ?_)
  all_goals (first | (simp only[x98,nz,rn,yR,Int.reduceLT,Int.reduceEq,Ao,Ap,An,Aq,reduceIte,reduceCtorEq,Nat.reduceEqDiff,Nat.reduceLT,Nat.reduceBEq,Nat.reduceAdd,Nat.reduceMul,Nat.reduceLeDiff,Nat.reduceSub,Al];try rfl) | skip)
open Go
set_option maxRecDepth 100000
set_option maxHeartbeats 4000000
theorem yfx(p0:List r26_Object)(p1:Int)(i1:Int):Sim (r26_Find_l1_b p0 p1 i1) fun x=>fgt [0,1,5] (evX (evI T) x21_1 [(0,.sl p0.length (p0.flatMap cr26_Object)),(1,.int .i64 p1),(5,.int .i64 i1)])=some (stpK (fun s=>(.norm,[(0,.sl p0.length (p0.flatMap cr26_Object)),(1,.int .i64 p1),(5,.int .i64 s)])) (fun r=>(stpK (fun t0=>(.exit 0,[])) (fun u0=>(.ret,[(4,.int .i64 u0)])) r)) x):=by
 unfold r26_Find_l1_b
 refine y7 (fun h1=>?_) (fun h1=>?_)
 ·refine yE (fun x_2 h2=>?_)
  have f3:=ydX h2
  have f3o:=yaY h2
  have f4:=yay yH h2
  simp only[nz,yo] at f4
  refine y7 (fun h5=>?_) (fun h5=>?_)
  ·refine yq ?_
   refine' (yaR (yh (yh (yr (yb ?_ (yb ?_ yn)) ?_) (yC (yO ?_ yY ?_))) (yC (yh (yM (yh (yr (yb ?_ (yb ?_ (yb ?_ (yb ?_ (yb ?_ (yb ?_ (yb ?_ yn))))))) ?_) (yC (yO ?_ (yh (yr (yb ?_ (yb ?_ yn)) ?_) (yC yaz)) ?_))) ?_) yck))) ?_)
   all_goals (first | (simp only[nz,rn,yo,h1,f3,f3o,f4,h5,Int.reduceLT,Int.reduceEq,Ao,Ap,An,Aq,reduceIte,reduceCtorEq,Nat.reduceEqDiff,Nat.reduceLT,Nat.reduceBEq,Nat.reduceAdd,Nat.reduceMul,Nat.reduceLeDiff,Nat.reduceSub,Al];try rfl) | skip)
  ·refine yq ?_
   refine' (yaR (yh (yh (yr (yb ?_ (yb ?_ yn)) ?_) (yC (yO ?_ yY ?_))) (yC (yh (yM (yh (yr (yb ?_ (yb ?_ (yb ?_ (yb ?_ (yb ?_ (yb ?_ (yb ?_ yn))))))) ?_) (yC (yS ?_ yY ?_))) ?_) (yC (yr (yb ?_ (yb ?_ (yb ?_ yn))) ?_))))) ?_)
   all_goals (first | (simp only[nz,rn,yo,h1,f3,f3o,f4,h5,Int.reduceLT,Int.reduceEq,Ao,Ap,An,Aq,reduceIte,reduceCtorEq,Nat.reduceEqDiff,Nat.reduceLT,Nat.reduceBEq,Nat.reduceAdd,Nat.reduceMul,Nat.reduceLeDiff,Nat.reduceSub,Al];try rfl) | skip)
 ·refine yq ?_
  refine' (yaR (yh (yh (yr (yb ?_ (yb ?_ yn)) ?_) (yC (yS ?_ (ycz ?_) ?_))) yfr) ?_)
  all_goals (first | (simp only[nz,rn,yo,h1,Int.reduceLT,Int.reduceEq,Ao,Ap,An,Aq,reduceIte,reduceCtorEq,Nat.reduceEqDiff,Nat.reduceLT,Nat.reduceBEq,Nat.reduceAdd,Nat.reduceMul,Nat.reduceLeDiff,Nat.reduceSub,Al];try rfl) | skip)
theorem yc3(p0:List r26_Object)(p1:Int)(s:Int):Sim (r26_Find_l1 p0 p1 s) fun r=>evX (evI T) (.loop x21_1 [0,1,5]) [(0,.sl p0.length (p0.flatMap cr26_Object)),(1,.int .i64 p1),(5,.int .i64 s)]=some (stpK (fun t0=>(.exit 0,[])) (fun u0=>(.ret,[(4,.int .i64 u0)])) r):=by
 unfold r26_Find_l1
 exact yat (C:=evI T) (b:=x21_1) (ks:=[0,1,5]) (σ:=Int) (ρ:=Stp Unit Int) (body:=fun s=>r26_Find_l1_b p0 p1 s) (E:=fun s=>[(0,.sl p0.length (p0.flatMap cr26_Object)),(1,.int .i64 p1),(5,.int .i64 s)]) (R:=fun r=>(stpK (fun t0=>(.exit 0,[])) (fun u0=>(.ret,[(4,.int .i64 u0)])) r)) (fun r h=>by rcases r with _|_ <;> cases h) (fun s=>yfx p0 p1 s) s
theorem yfy(p0:List r26_Object)(p1:Int):Sim (r26_Find p0 p1) fun r=>evI T 21 [.sl p0.length (p0.flatMap cr26_Object),.int .i64 p1]=some (.int .i64 r,[.none,.none]):=by
 unfold r26_Find
 refine yE (fun qh6 h6=>?_)
 rcases qh6 with⟨_⟩|⟨v3⟩
 ·dsimp only
  have f7:=yc3 p0 p1 (IntKind.wrap .i64 (((p0.length:Int))-1)) _ h6
  dsimp only at f7
  refine yq ?_
  refine yP (x:=x21) rfl rfl rfl ?_
  try simp only[nz,yo] at f7
  all_goals
   refine' (ycU rfl rfl (yh (yr (yb ?_ yn) ?_) (yC (yh (yh (yr (yb ?_ (yb ?_ (yb ?_ (yb ?_ yn)))) ?_) (yC (yM f7 ?_))) (yC (yh (yr (yb ?_ yn) ?_) (yC yaz)))))) ?_)
   all_goals (first | (simp only[x21,nz,rn,yo,Int.reduceLT,Int.reduceEq,Ao,Ap,An,Aq,reduceIte,reduceCtorEq,Nat.reduceEqDiff,Nat.reduceLT,Nat.reduceBEq,Nat.reduceAdd,Nat.reduceMul,Nat.reduceLeDiff,Nat.reduceSub,Al];try rfl) | skip)
 ·dsimp only
  have f7:=yc3 p0 p1 (IntKind.wrap .i64 (((p0.length:Int))-1)) _ h6
  dsimp only at f7
  refine yq ?_
  refine yP (x:=x21) rfl rfl rfl ?_
  try simp only[nz,yo] at f7
  all_goals
   refine' (ycU rfl rfl (yh (yr (yb ?_ yn) ?_) (yC (yh (yh (yr (yb ?_ (yb ?_ (yb ?_ (yb ?_ yn)))) ?_) (yC (yM f7 ?_))) yck))) ?_)
   all_goals (first | (simp only[x21,nz,rn,yo,Int.reduceLT,Int.reduceEq,Ao,Ap,An,Aq,reduceIte,reduceCtorEq,Nat.reduceEqDiff,Nat.reduceLT,Nat.reduceBEq,Nat.reduceAdd,Nat.reduceMul,Nat.reduceLeDiff,Nat.reduceSub,Al];try rfl) | skip)
theorem yer(p0:List r26_Object)(p1:Int):Sim (r26_Find p0 p1) fun r=>∀ws,ws.map normA=[.sl p0.length (p0.flatMap cr26_Object),.int .i64 p1]->evI T 21 ws=some (.int .i64 r,[.none,.none]):=fun r h=>ydW (x:=x21) rfl rfl rfl (yfy p0 p1 r h)
open Go
set_option maxRecDepth 100000
set_option maxHeartbeats 4000000
theorem yey(p0:List r26_Object)(p1:Area)(out1:List Int)(v2:Int)(r3:Int):Sim (r26_Starts_j4 p0 p1 out1 v2 r3) fun r=>evX (evI T) x26_1 [(0,.sl p0.length (p0.flatMap cr26_Object)),(3,.box [.int .i64 p1.Lo,.int .i64 p1.Hi,.int .i64 p1.Next]),(5,mkOwn 1 out1.length (out1.flatMap (cint .i64))),(6,.int .i64 v2),(18,.bool (decide (0<=r3)))]=some (.norm,[(0,.sl p0.length (p0.flatMap cr26_Object)),(3,.box [.int .i64 p1.Lo,.int .i64 p1.Hi,.int .i64 p1.Next]),(5,mkOwn 1 r.length (r.flatMap (cint .i64))),(6,.int .i64 v2)]):=by
 unfold r26_Starts_j4
 refine y7 (fun h4=>?_) (fun h4=>?_)
 ·refine yE (fun l_4 h5=>?_)
  have f6:=ye7 h5
  try simp only[nz,Nat.reduceLeDiff,Nat.reduceAdd,Nat.reduceMul,Nat.reduceSub] at f6
  have f6a:PV.own 1 (out1.length+1) (out1.flatMap (cint .i64)++[.int .i64 v2]) = .own 1 l_4.length (l_4.flatMap (cint .i64)):=ygU h5 (cint .i64) 1
  have f6o:=ye8 h5
  refine yq ?_
  rcases ybT out1 with rfl|o_out1
  ·obtain rfl:=yhN h5
   refine' (yO ?_ (yr (yb ?_ (yb ?_ (yb ?_ (yb ?_ (yb ?_ yn))))) ?_) ?_)
   all_goals (first | (simp only[nz,rn,yo,yac,h4,Int.reduceLT,Int.reduceEq,Ao,Ap,An,Aq,reduceIte,reduceCtorEq,Nat.reduceEqDiff,Nat.reduceLT,Nat.reduceBEq,Nat.reduceAdd,Nat.reduceMul,Nat.reduceLeDiff,Nat.reduceSub,Al];try rfl) | skip)
  ·refine' (yO ?_ (yr (yb ?_ (yb ?_ (yb ?_ (yb ?_ (yb ?_ yn))))) ?_) ?_)
   all_goals (first | (simp only[nz,rn,yo,yac,h4,f6,f6a,f6o,o_out1,Int.reduceLT,Int.reduceEq,Ao,Ap,An,Aq,reduceIte,reduceCtorEq,Nat.reduceEqDiff,Nat.reduceLT,Nat.reduceBEq,Nat.reduceAdd,Nat.reduceMul,Nat.reduceLeDiff,Nat.reduceSub,Al];try rfl) | skip)
 ·refine yq ?_
  refine' (yS ?_ yY ?_)
  all_goals (first | (simp only[nz,rn,yo,yac,h4,Int.reduceLT,Int.reduceEq,Ao,Ap,An,Aq,reduceIte,reduceCtorEq,Nat.reduceEqDiff,Nat.reduceLT,Nat.reduceBEq,Nat.reduceAdd,Nat.reduceMul,Nat.reduceLeDiff,Nat.reduceSub,Al];try rfl) | skip)
theorem yd4(p0:List r26_Object)(p1:Area)(out1:List Int)(v2:Int):Sim (r26_Starts_l5_b p0 p1 out1 v2) fun x=>fgt [0,3,5,6] (evX (evI T) x26_2 [(0,.sl p0.length (p0.flatMap cr26_Object)),(3,.box [.int .i64 p1.Lo,.int .i64 p1.Hi,.int .i64 p1.Next]),(5,mkOwn 1 out1.length (out1.flatMap (cint .i64))),(6,.int .i64 v2)])=some (stpK (fun s=>(.norm,[(0,.sl p0.length (p0.flatMap cr26_Object)),(3,.box [.int .i64 p1.Lo,.int .i64 p1.Hi,.int .i64 p1.Next]),(5,mkOwn 1 s.1.length (s.1.flatMap (cint .i64))),(6,.int .i64 s.2)])) (fun r=>(.exit 0,[(5,mkOwn 1 r.length (r.flatMap (cint .i64)))])) x):=by
 unfold r26_Starts_l5_b
 refine y7 (fun h1=>?_) (fun h1=>?_)
 ·refine yE (fun r3 h2=>?_)
  have f3:=yer p0 v2 _ h2
  dsimp only at f3
  refine yE (fun out5 h7=>?_)
  have f8:=yey p0 p1 out1 v2 r3 _ h7
  dsimp only at f8
  refine yq ?_
  try simp only[nz,yo,yac] at f3
  try simp only[nz,yo,yac] at f8
  all_goals
   refine' (yaR (yh (yh (yr (yb ?_ (yb ?_ (yb ?_ (yb ?_ yn)))) ?_) (yC (yO ?_ yY ?_))) (yC (yh (yM (yh (yr (yb ?_ (yb ?_ (yb ?_ (yb ?_ yn)))) ?_) (yC f8)) ?_) (yC (yr (yb ?_ (yb ?_ (yb ?_ yn))) ?_))))) ?_)
   all_goals (first | (simp only[nz,rn,yo,yac,h1,f3,Int.reduceLT,Int.reduceEq,Ao,Ap,An,Aq,reduceIte,reduceCtorEq,Nat.reduceEqDiff,Nat.reduceLT,Nat.reduceBEq,Nat.reduceAdd,Nat.reduceMul,Nat.reduceLeDiff,Nat.reduceSub,Al];try rfl) | skip)
 ·refine yq ?_
  refine' (yaR (yh (yh (yr (yb ?_ (yb ?_ (yb ?_ (yb ?_ yn)))) ?_) (yC (yS ?_ (ycz ?_) ?_))) yfr) ?_)
  all_goals (first | (simp only[nz,rn,yo,yac,h1,Int.reduceLT,Int.reduceEq,Ao,Ap,An,Aq,reduceIte,reduceCtorEq,Nat.reduceEqDiff,Nat.reduceLT,Nat.reduceBEq,Nat.reduceAdd,Nat.reduceMul,Nat.reduceLeDiff,Nat.reduceSub,Al];try rfl) | skip)
theorem yez(p0:List r26_Object)(p1:Area)(s:List Int×Int):Sim (r26_Starts_l5 p0 p1 s) fun r=>evX (evI T) (.loop x26_2 [0,3,5,6]) [(0,.sl p0.length (p0.flatMap cr26_Object)),(3,.box [.int .i64 p1.Lo,.int .i64 p1.Hi,.int .i64 p1.Next]),(5,mkOwn 1 s.1.length (s.1.flatMap (cint .i64))),(6,.int .i64 s.2)]=some (.exit 0,[(5,mkOwn 1 r.length (r.flatMap (cint .i64)))]):=by
 unfold r26_Starts_l5
 exact yat (C:=evI T) (b:=x26_2) (ks:=[0,3,5,6]) (σ:=List Int×Int) (ρ:=List Int) (body:=fun s=>r26_Starts_l5_b p0 p1 s.1 s.2) (E:=fun s=>[(0,.sl p0.length (p0.flatMap cr26_Object)),(3,.box [.int .i64 p1.Lo,.int .i64 p1.Hi,.int .i64 p1.Next]),(5,mkOwn 1 s.1.length (s.1.flatMap (cint .i64))),(6,.int .i64 s.2)]) (R:=fun r=>(.exit 0,[(5,mkOwn 1 r.length (r.flatMap (cint .i64)))])) (fun r h=>nomatch h) (fun s=>yd4 p0 p1 s.1 s.2) s
theorem yg6(p0:List r26_Object)(p1:Area):Sim (r26_Starts p0 p1) fun r=>evI T 26 [.sl p0.length (p0.flatMap cr26_Object),.agg [.int .i64 p1.Lo,.int .i64 p1.Hi,.int .i64 p1.Next]]=some (.sl r.length (r.flatMap (cint .i64)),[.none,.none]):=by
 unfold r26_Starts
 refine yE (fun out6 h9=>?_)
 have f10:=yez p0 p1 ([],p1.Lo) _ h9
 dsimp only at f10
 refine yq ?_
 refine yP (x:=x26) rfl rfl rfl ?_
 rcases ybT out6 with rfl|o_out6
 ·try simp only[nz,yo,yac] at f10
  all_goals
   refine' (ycU rfl rfl (yh (yr (yb ?_ (yb ?_ yn)) ?_) (yC (yh (yr (yb ?_ yn) ?_) (yC (yh (yh (yr (yb ?_ (yb ?_ (yb ?_ yn))) ?_) (yC (yM f10 ?_))) (yC (yh (yr (yb ?_ (yb ?_ yn)) ?_) (yC yaz)))))))) ?_)
   all_goals (first | (simp only[x26,nz,rn,yo,yac,Int.reduceLT,Int.reduceEq,Ao,Ap,An,Aq,reduceIte,reduceCtorEq,Nat.reduceEqDiff,Nat.reduceLT,Nat.reduceBEq,Nat.reduceAdd,Nat.reduceMul,Nat.reduceLeDiff,Nat.reduceSub,Al];try rfl) | skip)
 ·try simp only[nz,yo,yac,o_out6] at f10
  all_goals
   refine' (ycU rfl rfl (yh (yr (yb ?_ (yb ?_ yn)) ?_) (yC (yh (yr (yb ?_ yn) ?_) (yC (yh (yh (yr (yb ?_ (yb ?_ (yb ?_ yn))) ?_) (yC (yM f10 ?_))) (yC (yh (yr (yb ?_ (yb ?_ yn)) ?_) (yC yaz)))))))) ?_)
   all_goals (first | (simp only[x26,nz,rn,yo,yac,o_out6,Int.reduceLT,Int.reduceEq,Ao,Ap,An,Aq,reduceIte,reduceCtorEq,Nat.reduceEqDiff,Nat.reduceLT,Nat.reduceBEq,Nat.reduceAdd,Nat.reduceMul,Nat.reduceLeDiff,Nat.reduceSub,Al];try rfl) | skip)
open Go
set_option maxRecDepth 100000
set_option maxHeartbeats 4000000
theorem yeA(p0:List r26_Object)(p1:List Int)(n1:Int)(i2:Int):Sim (r26_Words_l1_b p0 p1 n1 i2) fun x=>fgt [0,1,5,6] (evX (evI T) x30_1 [(0,.sl p0.length (p0.flatMap cr26_Object)),(1,.sl p1.length (p1.flatMap (cint .i64))),(5,.int .i64 n1),(6,.int .i64 i2)])=some (stpK (fun s=>(.norm,[(0,.sl p0.length (p0.flatMap cr26_Object)),(1,.sl p1.length (p1.flatMap (cint .i64))),(5,.int .i64 s.1),(6,.int .i64 s.2)])) (fun r=>(.exit 0,[(5,.int .i64 r)])) x):=by
 unfold r26_Words_l1_b
 refine y7 (fun h1=>?_) (fun h1=>?_)
 ·refine yE (fun x_3 h2=>?_)
  have f3:=ydX h2
  have f3o:=yaY h2
  have f4:=yay (ybl .i64) h2
  simp only[nz,yo] at f4
  refine yE (fun r4 h5=>?_)
  have f6:=yer p0 x_3 _ h5
  dsimp only at f6
  refine yE (fun x_5 h7=>?_)
  have f8:=ydX h7
  have f8o:=yaY h7
  have f9:=yay yH h7
  simp only[nz,yo] at f9
  refine yq ?_
  try simp only[nz,yo,f3o,f8o] at f6
  all_goals
   refine' (yaR (yh (yh (yr (yb ?_ (yb ?_ (yb ?_ (yb ?_ yn)))) ?_) (yC (yO ?_ yY ?_))) (yC (yh (yM (yr (yb ?_ (yb ?_ (yb ?_ (yb ?_ (yb ?_ (yb ?_ (yb ?_ (yb ?_ (yb ?_ (yb ?_ (yb ?_ (yb ?_ (yb ?_ (yb ?_ (yb ?_ yn))))))))))))))) ?_) ?_) (yC (yr (yb ?_ (yb ?_ (yb ?_ yn))) ?_))))) ?_)
   all_goals (first | (simp only[nz,rn,yo,h1,f3,f3o,f4,f6,f8,f8o,f9,Int.reduceLT,Int.reduceEq,Ao,Ap,An,Aq,reduceIte,reduceCtorEq,Nat.reduceEqDiff,Nat.reduceLT,Nat.reduceBEq,Nat.reduceAdd,Nat.reduceMul,Nat.reduceLeDiff,Nat.reduceSub,Al];try rfl) | skip)
 ·refine yq ?_
  refine' (yaR (yh (yh (yr (yb ?_ (yb ?_ (yb ?_ (yb ?_ yn)))) ?_) (yC (yS ?_ (ycz ?_) ?_))) yfr) ?_)
  all_goals (first | (simp only[nz,rn,yo,h1,Int.reduceLT,Int.reduceEq,Ao,Ap,An,Aq,reduceIte,reduceCtorEq,Nat.reduceEqDiff,Nat.reduceLT,Nat.reduceBEq,Nat.reduceAdd,Nat.reduceMul,Nat.reduceLeDiff,Nat.reduceSub,Al];try rfl) | skip)
theorem yfz(p0:List r26_Object)(p1:List Int)(s:Int×Int):Sim (r26_Words_l1 p0 p1 s) fun r=>evX (evI T) (.loop x30_1 [0,1,5,6]) [(0,.sl p0.length (p0.flatMap cr26_Object)),(1,.sl p1.length (p1.flatMap (cint .i64))),(5,.int .i64 s.1),(6,.int .i64 s.2)]=some (.exit 0,[(5,.int .i64 r)]):=by
 unfold r26_Words_l1
 exact yat (C:=evI T) (b:=x30_1) (ks:=[0,1,5,6]) (σ:=Int×Int) (ρ:=Int) (body:=fun s=>r26_Words_l1_b p0 p1 s.1 s.2) (E:=fun s=>[(0,.sl p0.length (p0.flatMap cr26_Object)),(1,.sl p1.length (p1.flatMap (cint .i64))),(5,.int .i64 s.1),(6,.int .i64 s.2)]) (R:=fun r=>(.exit 0,[(5,.int .i64 r)])) (fun r h=>nomatch h) (fun s=>yeA p0 p1 s.1 s.2) s
theorem yig(p0:List r26_Object)(p1:List Int):Sim (r26_Words p0 p1) fun r=>evI T 30 [.sl p0.length (p0.flatMap cr26_Object),.sl p1.length (p1.flatMap (cint .i64))]=some (.int .i64 r,[.none,.none]):=by
 unfold r26_Words
 refine yE (fun n6 h10=>?_)
 have f11:=yfz p0 p1 (0,0) _ h10
 dsimp only at f11
 refine yq ?_
 refine yP (x:=x30) rfl rfl rfl ?_
 try simp only[nz,yo] at f11
 all_goals
  refine' (ycU rfl rfl (yh (yr (yb ?_ yn) ?_) (yC (yh (yr (yb ?_ yn) ?_) (yC (yh (yh (yr (yb ?_ yn) ?_) (yC (yM f11 ?_))) (yC (yh (yr (yb ?_ (yb ?_ yn)) ?_) (yC yaz)))))))) ?_)
  all_goals (first | (simp only[x30,nz,rn,yo,Int.reduceLT,Int.reduceEq,Ao,Ap,An,Aq,reduceIte,reduceCtorEq,Nat.reduceEqDiff,Nat.reduceLT,Nat.reduceBEq,Nat.reduceAdd,Nat.reduceMul,Nat.reduceLeDiff,Nat.reduceSub,Al];try rfl) | skip)
open Go
set_option maxRecDepth 100000
set_option maxHeartbeats 4000000
theorem yih(p0:Area)(p1:Int):evX (evI T) x117_1 [(1,.int .i64 p1),(2,.box [.int .i64 p0.Lo,.int .i64 p0.Hi,.int .i64 p0.Next])]=some (.norm,[(4,.bool (((decide (p0.Lo<=p1))&&(decide (p1<p0.Next)))))]):=by
 rcases B9 (decide (p0.Lo<=p1)) with h1|h1
 ·refine' (yr (yb ?_ (yb ?_ (yb ?_ (yb ?_ (yb ?_ (yb ?_ (yb ?_ (yb ?_ (yb ?_ (yb ?_ (yb ?_ yn))))))))))) ?_)
  all_goals (first | (simp only[nz,rn,yac,h1,Int.reduceLT,Int.reduceEq,Ao,Ap,An,Aq,reduceIte,reduceCtorEq,Nat.reduceEqDiff,Nat.reduceLT,Nat.reduceBEq,Nat.reduceAdd,Nat.reduceMul,Nat.reduceLeDiff,Nat.reduceSub,Al];try rfl) | skip)
 ·refine' (yr (yb ?_ (yb ?_ (yb ?_ (yb ?_ (yb ?_ (yb ?_ (yb ?_ (yb ?_ (yb ?_ (yb ?_ (yb ?_ yn))))))))))) ?_)
  all_goals (first | (simp only[nz,rn,yac,h1,Int.reduceLT,Int.reduceEq,Ao,Ap,An,Aq,reduceIte,reduceCtorEq,Nat.reduceEqDiff,Nat.reduceLT,Nat.reduceBEq,Nat.reduceAdd,Nat.reduceMul,Nat.reduceLeDiff,Nat.reduceSub,Al];try rfl) | skip)
theorem yly(p0:Area)(p1:Int):Sim (r26_In p0 p1) fun r=>evI T 117 [.agg [.int .i64 p0.Lo,.int .i64 p0.Hi,.int .i64 p0.Next],.int .i64 p1]=some (.bool r,[.none,.none]):=by
 unfold r26_In
 have f3:=yih p0 p1
 refine yq ?_
 refine yP (x:=x117) rfl rfl rfl ?_
 try simp only[nz,yac] at f3
 all_goals
  refine' (ycU rfl rfl (yh (yr (yb ?_ (yb ?_ yn)) ?_) (yC (yh f3 (yC yaz)))) ?_)
  all_goals (first | (simp only[x117,nz,rn,yac,Int.reduceLT,Int.reduceEq,Ao,Ap,An,Aq,reduceIte,reduceCtorEq,Nat.reduceEqDiff,Nat.reduceLT,Nat.reduceBEq,Nat.reduceAdd,Nat.reduceMul,Nat.reduceLeDiff,Nat.reduceSub,Al];try rfl) | skip)
theorem ykq(p0:Area)(p1:Int):Sim (r26_In p0 p1) fun r=>∀ws,ws.map normA=[.agg [.int .i64 p0.Lo,.int .i64 p0.Hi,.int .i64 p0.Next],.int .i64 p1]->evI T 117 ws=some (.bool r,[.none,.none]):=fun r h=>ydW (x:=x117) rfl rfl rfl (yly p0 p1 r h)
open Go
set_option maxRecDepth 100000
set_option maxHeartbeats 4000000
theorem yd5(p0:List Area)(p1:Int)(i1:Int):Sim (r26_within_l1_b p0 p1 i1) fun x=>fgt [0,1,5] (evX (evI T) x82_1 [(0,.sl p0.length (p0.flatMap cArea)),(1,.int .i64 p1),(5,.int .i64 i1)])=some (stpK (fun s=>(.norm,[(0,.sl p0.length (p0.flatMap cArea)),(1,.int .i64 p1),(5,.int .i64 s)])) (fun r=>(stpK (fun t0=>(.exit 0,[])) (fun u0=>(.ret,[(4,.bool true)])) r)) x):=by
 unfold r26_within_l1_b
 refine y7 (fun h1=>?_) (fun h1=>?_)
 ·refine yE (fun x_2 h2=>?_)
  have f3:=ydX h2
  have f3o:=yaY h2
  have f4:=yay yc1 h2
  simp only[nz,yac] at f4
  refine yE (fun r3 h5=>?_)
  have f6:=ykq x_2 p1 _ h5
  dsimp only at f6
  refine y7 (fun h7=>?_) (fun h7=>?_)
  ·refine yq ?_
   try simp only[nz,yac,f3o] at f6
   all_goals
    refine' (yaR (yh (yh (yr (yb ?_ (yb ?_ (yb ?_ (yb ?_ yn)))) ?_) (yC (yO ?_ yY ?_))) (yC (yh (yM (yh (yr (yb ?_ (yb ?_ (yb ?_ (yb ?_ (yb ?_ (yb ?_ yn)))))) ?_) (yC (yO ?_ (yh (yr (yb ?_ yn) ?_) (yC yaz)) ?_))) ?_) yck))) ?_)
    all_goals (first | (simp only[nz,rn,yac,h1,f3,f3o,f4,f6,h7,Int.reduceLT,Int.reduceEq,Ao,Ap,An,Aq,reduceIte,reduceCtorEq,Nat.reduceEqDiff,Nat.reduceLT,Nat.reduceBEq,Nat.reduceAdd,Nat.reduceMul,Nat.reduceLeDiff,Nat.reduceSub,Al];try rfl) | skip)
  ·refine yq ?_
   try simp only[nz,yac,f3o] at f6
   all_goals
    refine' (yaR (yh (yh (yr (yb ?_ (yb ?_ (yb ?_ (yb ?_ yn)))) ?_) (yC (yO ?_ yY ?_))) (yC (yh (yM (yh (yr (yb ?_ (yb ?_ (yb ?_ (yb ?_ (yb ?_ (yb ?_ yn)))))) ?_) (yC (yS ?_ yY ?_))) ?_) (yC (yr (yb ?_ (yb ?_ (yb ?_ yn))) ?_))))) ?_)
    all_goals (first | (simp only[nz,rn,yac,h1,f3,f3o,f4,f6,h7,Int.reduceLT,Int.reduceEq,Ao,Ap,An,Aq,reduceIte,reduceCtorEq,Nat.reduceEqDiff,Nat.reduceLT,Nat.reduceBEq,Nat.reduceAdd,Nat.reduceMul,Nat.reduceLeDiff,Nat.reduceSub,Al];try rfl) | skip)
 ·refine yq ?_
  refine' (yaR (yh (yh (yr (yb ?_ (yb ?_ (yb ?_ (yb ?_ yn)))) ?_) (yC (yS ?_ (ycz ?_) ?_))) yfr) ?_)
  all_goals (first | (simp only[nz,rn,yac,h1,Int.reduceLT,Int.reduceEq,Ao,Ap,An,Aq,reduceIte,reduceCtorEq,Nat.reduceEqDiff,Nat.reduceLT,Nat.reduceBEq,Nat.reduceAdd,Nat.reduceMul,Nat.reduceLeDiff,Nat.reduceSub,Al];try rfl) | skip)
theorem yci(p0:List Area)(p1:Int)(s:Int):Sim (r26_within_l1 p0 p1 s) fun r=>evX (evI T) (.loop x82_1 [0,1,5]) [(0,.sl p0.length (p0.flatMap cArea)),(1,.int .i64 p1),(5,.int .i64 s)]=some (stpK (fun t0=>(.exit 0,[])) (fun u0=>(.ret,[(4,.bool true)])) r):=by
 unfold r26_within_l1
 exact yat (C:=evI T) (b:=x82_1) (ks:=[0,1,5]) (σ:=Int) (ρ:=Stp Unit Unit) (body:=fun s=>r26_within_l1_b p0 p1 s) (E:=fun s=>[(0,.sl p0.length (p0.flatMap cArea)),(1,.int .i64 p1),(5,.int .i64 s)]) (R:=fun r=>(stpK (fun t0=>(.exit 0,[])) (fun u0=>(.ret,[(4,.bool true)])) r)) (fun r h=>by rcases r with _|_ <;> cases h) (fun s=>yd5 p0 p1 s) s
theorem yg7(p0:List Area)(p1:Int):Sim (r26_within p0 p1) fun r=>evI T 82 [.sl p0.length (p0.flatMap cArea),.int .i64 p1]=some (.bool r,[.none,.none]):=by
 unfold r26_within
 refine yE (fun qh8 h8=>?_)
 rcases qh8 with⟨_⟩|⟨_⟩
 ·dsimp only
  have f9:=yci p0 p1 0 _ h8
  dsimp only at f9
  refine yq ?_
  refine yP (x:=x82) rfl rfl rfl ?_
  try simp only[nz,yac] at f9
  all_goals
   refine' (ycU rfl rfl (yh (yr (yb ?_ yn) ?_) (yC (yh (yh (yr (yb ?_ yn) ?_) (yC (yM f9 ?_))) (yC (yh (yr (yb ?_ yn) ?_) (yC yaz)))))) ?_)
   all_goals (first | (simp only[x82,nz,rn,yac,Int.reduceLT,Int.reduceEq,Ao,Ap,An,Aq,reduceIte,reduceCtorEq,Nat.reduceEqDiff,Nat.reduceLT,Nat.reduceBEq,Nat.reduceAdd,Nat.reduceMul,Nat.reduceLeDiff,Nat.reduceSub,Al];try rfl) | skip)
 ·dsimp only
  have f9:=yci p0 p1 0 _ h8
  dsimp only at f9
  refine yq ?_
  refine yP (x:=x82) rfl rfl rfl ?_
  try simp only[nz,yac] at f9
  all_goals
   refine' (ycU rfl rfl (yh (yr (yb ?_ yn) ?_) (yC (yh (yh (yr (yb ?_ yn) ?_) (yC (yM f9 ?_))) yck))) ?_)
   all_goals (first | (simp only[x82,nz,rn,yac,Int.reduceLT,Int.reduceEq,Ao,Ap,An,Aq,reduceIte,reduceCtorEq,Nat.reduceEqDiff,Nat.reduceLT,Nat.reduceBEq,Nat.reduceAdd,Nat.reduceMul,Nat.reduceLeDiff,Nat.reduceSub,Al];try rfl) | skip)
open Go
set_option maxRecDepth 100000
set_option maxHeartbeats 4000000
theorem yeB(p0:List Int)(p1:List Int)(p2:Int)(i1:Int):Sim (r26_moved_l1_b p0 p1 p2 i1) fun x=>fgt [0,1,2,7] (evX (evI T) x85_1 [(0,.sl p0.length (p0.flatMap (cint .i64))),(1,.sl p1.length (p1.flatMap (cint .i64))),(2,.int .i64 p2),(7,.int .i64 i1)])=some (stpK (fun s=>(.norm,[(0,.sl p0.length (p0.flatMap (cint .i64))),(1,.sl p1.length (p1.flatMap (cint .i64))),(2,.int .i64 p2),(7,.int .i64 s)])) (fun r=>(stpK (fun t0=>(.exit 0,[(2,.int .i64 p2)])) (fun u0=>(.ret,[(6,.int .i64 u0)])) r)) x):=by
 unfold r26_moved_l1_b
 refine y7 (fun h1=>?_) (fun h1=>?_)
 ·refine yE (fun x_2 h2=>?_)
  have f3:=ydX h2
  have f3o:=yaY h2
  have f4:=yay (ybl .i64) h2
  simp only[nz] at f4
  refine y7 (fun h5=>?_) (fun h5=>?_)
  ·refine yE (fun x_3 h6=>?_)
   have f7:=ydX h6
   have f7o:=yaY h6
   have f8:=yay (ybl .i64) h6
   simp only[nz] at f8
   refine yq ?_
   refine' (yaR (yh (yh (yr (yb ?_ (yb ?_ (yb ?_ (yb ?_ yn)))) ?_) (yC (yO ?_ yY ?_))) (yC (yh (yM (yh (yr (yb ?_ (yb ?_ (yb ?_ (yb ?_ (yb ?_ (yb ?_ yn)))))) ?_) (yC (yO ?_ (yh (yr (yb ?_ (yb ?_ (yb ?_ (yb ?_ (yb ?_ yn))))) ?_) (yC yaz)) ?_))) ?_) yck))) ?_)
   all_goals (first | (simp only[nz,rn,h1,f3,f3o,f4,h5,f7,f7o,f8,Int.reduceLT,Int.reduceEq,Ao,Ap,An,Aq,reduceIte,reduceCtorEq,Nat.reduceEqDiff,Nat.reduceLT,Nat.reduceBEq,Nat.reduceAdd,Nat.reduceMul,Nat.reduceLeDiff,Nat.reduceSub,Al];try rfl) | skip)
  ·refine yq ?_
   refine' (yaR (yh (yh (yr (yb ?_ (yb ?_ (yb ?_ (yb ?_ yn)))) ?_) (yC (yO ?_ yY ?_))) (yC (yh (yM (yh (yr (yb ?_ (yb ?_ (yb ?_ (yb ?_ (yb ?_ (yb ?_ yn)))))) ?_) (yC (yS ?_ yY ?_))) ?_) (yC (yr (yb ?_ (yb ?_ (yb ?_ yn))) ?_))))) ?_)
   all_goals (first | (simp only[nz,rn,h1,f3,f3o,f4,h5,Int.reduceLT,Int.reduceEq,Ao,Ap,An,Aq,reduceIte,reduceCtorEq,Nat.reduceEqDiff,Nat.reduceLT,Nat.reduceBEq,Nat.reduceAdd,Nat.reduceMul,Nat.reduceLeDiff,Nat.reduceSub,Al];try rfl) | skip)
 ·refine yq ?_
  refine' (yaR (yh (yh (yr (yb ?_ (yb ?_ (yb ?_ (yb ?_ yn)))) ?_) (yC (yS ?_ (ycz ?_) ?_))) yfr) ?_)
  all_goals (first | (simp only[nz,rn,h1,Int.reduceLT,Int.reduceEq,Ao,Ap,An,Aq,reduceIte,reduceCtorEq,Nat.reduceEqDiff,Nat.reduceLT,Nat.reduceBEq,Nat.reduceAdd,Nat.reduceMul,Nat.reduceLeDiff,Nat.reduceSub,Al];try rfl) | skip)
theorem ycA(p0:List Int)(p1:List Int)(p2:Int)(s:Int):Sim (r26_moved_l1 p0 p1 p2 s) fun r=>evX (evI T) (.loop x85_1 [0,1,2,7]) [(0,.sl p0.length (p0.flatMap (cint .i64))),(1,.sl p1.length (p1.flatMap (cint .i64))),(2,.int .i64 p2),(7,.int .i64 s)]=some (stpK (fun t0=>(.exit 0,[(2,.int .i64 p2)])) (fun u0=>(.ret,[(6,.int .i64 u0)])) r):=by
 unfold r26_moved_l1
 exact yat (C:=evI T) (b:=x85_1) (ks:=[0,1,2,7]) (σ:=Int) (ρ:=Stp Unit Int) (body:=fun s=>r26_moved_l1_b p0 p1 p2 s) (E:=fun s=>[(0,.sl p0.length (p0.flatMap (cint .i64))),(1,.sl p1.length (p1.flatMap (cint .i64))),(2,.int .i64 p2),(7,.int .i64 s)]) (R:=fun r=>(stpK (fun t0=>(.exit 0,[(2,.int .i64 p2)])) (fun u0=>(.ret,[(6,.int .i64 u0)])) r)) (fun r h=>by rcases r with _|_ <;> cases h) (fun s=>yeB p0 p1 p2 s) s
theorem yii(p0:List Int)(p1:List Int)(p2:Int):Sim (r26_moved p0 p1 p2) fun r=>evI T 85 [.sl p0.length (p0.flatMap (cint .i64)),.sl p1.length (p1.flatMap (cint .i64)),.int .i64 p2]=some (.int .i64 r,[.none,.none,.none]):=by
 unfold r26_moved
 refine yE (fun qh9 h9=>?_)
 rcases qh9 with⟨_⟩|⟨v4⟩
 ·dsimp only
  have f10:=ycA p0 p1 p2 0 _ h9
  dsimp only at f10
  refine yq ?_
  refine yP (x:=x85) rfl rfl rfl ?_
  try simp only[nz] at f10
  all_goals
   refine' (ycU rfl rfl (yh (yr (yb ?_ yn) ?_) (yC (yh (yh (yr (yb ?_ yn) ?_) (yC (yM f10 ?_))) (yC (yh (yr (yb ?_ (yb ?_ yn)) ?_) (yC yaz)))))) ?_)
   all_goals (first | (simp only[x85,nz,rn,Int.reduceLT,Int.reduceEq,Ao,Ap,An,Aq,reduceIte,reduceCtorEq,Nat.reduceEqDiff,Nat.reduceLT,Nat.reduceBEq,Nat.reduceAdd,Nat.reduceMul,Nat.reduceLeDiff,Nat.reduceSub,Al];try rfl) | skip)
 ·dsimp only
  have f10:=ycA p0 p1 p2 0 _ h9
  dsimp only at f10
  refine yq ?_
  refine yP (x:=x85) rfl rfl rfl ?_
  try simp only[nz] at f10
  all_goals
   refine' (ycU rfl rfl (yh (yr (yb ?_ yn) ?_) (yC (yh (yh (yr (yb ?_ yn) ?_) (yC (yM f10 ?_))) yck))) ?_)
   all_goals (first | (simp only[x85,nz,rn,Int.reduceLT,Int.reduceEq,Ao,Ap,An,Aq,reduceIte,reduceCtorEq,Nat.reduceEqDiff,Nat.reduceLT,Nat.reduceBEq,Nat.reduceAdd,Nat.reduceMul,Nat.reduceLeDiff,Nat.reduceSub,Al];try rfl) | skip)
open Go
set_option maxRecDepth 100000
set_option maxHeartbeats 4000000
theorem yfQ(p0:List Int)(p1:Int)(i1:Int):Sim (r08_Has_l1_b p0 p1 i1) fun x=>fgt [0,1,5] (evX (evI T) x19_1 [(0,.sl p0.length (p0.flatMap (cint .i64))),(1,.int .i64 p1),(5,.int .i64 i1)])=some (stpK (fun s=>(.norm,[(0,.sl p0.length (p0.flatMap (cint .i64))),(1,.int .i64 p1),(5,.int .i64 s)])) (fun r=>(stpK (fun t0=>(.exit 0,[])) (fun u0=>(.ret,[(4,.bool true)])) r)) x):=by
 unfold r08_Has_l1_b
 refine y7 (fun h1=>?_) (fun h1=>?_)
 ·refine yE (fun x_2 h2=>?_)
  have f3:=ydX h2
  have f3o:=yaY h2
  have f4:=yay (ybl .i64) h2
  simp only[nz] at f4
  refine y7 (fun h5=>?_) (fun h5=>?_)
  ·refine yq ?_
   refine' (yaR (yh (yh (yr (yb ?_ (yb ?_ (yb ?_ (yb ?_ yn)))) ?_) (yC (yO ?_ yY ?_))) (yC (yh (yM (yh (yr (yb ?_ (yb ?_ (yb ?_ (yb ?_ (yb ?_ (yb ?_ yn)))))) ?_) (yC (yO ?_ (yh (yr (yb ?_ yn) ?_) (yC yaz)) ?_))) ?_) yck))) ?_)
   all_goals (first | (simp only[nz,rn,h1,f3,f3o,f4,h5,Int.reduceLT,Int.reduceEq,Ao,Ap,An,Aq,reduceIte,reduceCtorEq,Nat.reduceEqDiff,Nat.reduceLT,Nat.reduceBEq,Nat.reduceAdd,Nat.reduceMul,Nat.reduceLeDiff,Nat.reduceSub,Al];try rfl) | skip)
  ·refine yq ?_
   refine' (yaR (yh (yh (yr (yb ?_ (yb ?_ (yb ?_ (yb ?_ yn)))) ?_) (yC (yO ?_ yY ?_))) (yC (yh (yM (yh (yr (yb ?_ (yb ?_ (yb ?_ (yb ?_ (yb ?_ (yb ?_ yn)))))) ?_) (yC (yS ?_ yY ?_))) ?_) (yC (yr (yb ?_ (yb ?_ (yb ?_ yn))) ?_))))) ?_)
   all_goals (first | (simp only[nz,rn,h1,f3,f3o,f4,h5,Int.reduceLT,Int.reduceEq,Ao,Ap,An,Aq,reduceIte,reduceCtorEq,Nat.reduceEqDiff,Nat.reduceLT,Nat.reduceBEq,Nat.reduceAdd,Nat.reduceMul,Nat.reduceLeDiff,Nat.reduceSub,Al];try rfl) | skip)
 ·refine yq ?_
  refine' (yaR (yh (yh (yr (yb ?_ (yb ?_ (yb ?_ (yb ?_ yn)))) ?_) (yC (yS ?_ (ycz ?_) ?_))) yfr) ?_)
  all_goals (first | (simp only[nz,rn,h1,Int.reduceLT,Int.reduceEq,Ao,Ap,An,Aq,reduceIte,reduceCtorEq,Nat.reduceEqDiff,Nat.reduceLT,Nat.reduceBEq,Nat.reduceAdd,Nat.reduceMul,Nat.reduceLeDiff,Nat.reduceSub,Al];try rfl) | skip)
theorem ydK(p0:List Int)(p1:Int)(s:Int):Sim (r08_Has_l1 p0 p1 s) fun r=>evX (evI T) (.loop x19_1 [0,1,5]) [(0,.sl p0.length (p0.flatMap (cint .i64))),(1,.int .i64 p1),(5,.int .i64 s)]=some (stpK (fun t0=>(.exit 0,[])) (fun u0=>(.ret,[(4,.bool true)])) r):=by
 unfold r08_Has_l1
 exact yat (C:=evI T) (b:=x19_1) (ks:=[0,1,5]) (σ:=Int) (ρ:=Stp Unit Unit) (body:=fun s=>r08_Has_l1_b p0 p1 s) (E:=fun s=>[(0,.sl p0.length (p0.flatMap (cint .i64))),(1,.int .i64 p1),(5,.int .i64 s)]) (R:=fun r=>(stpK (fun t0=>(.exit 0,[])) (fun u0=>(.ret,[(4,.bool true)])) r)) (fun r h=>by rcases r with _|_ <;> cases h) (fun s=>yfQ p0 p1 s) s
theorem ygx(p0:List Int)(p1:Int):Sim (r08_Has p0 p1) fun r=>evI T 19 [.sl p0.length (p0.flatMap (cint .i64)),.int .i64 p1]=some (.bool r,[.none,.none]):=by
 unfold r08_Has
 refine yE (fun qh6 h6=>?_)
 rcases qh6 with⟨_⟩|⟨_⟩
 ·dsimp only
  have f7:=ydK p0 p1 0 _ h6
  dsimp only at f7
  refine yq ?_
  refine yP (x:=x19) rfl rfl rfl ?_
  try simp only[nz] at f7
  all_goals
   refine' (ycU rfl rfl (yh (yr (yb ?_ yn) ?_) (yC (yh (yh (yr (yb ?_ yn) ?_) (yC (yM f7 ?_))) (yC (yh (yr (yb ?_ yn) ?_) (yC yaz)))))) ?_)
   all_goals (first | (simp only[x19,nz,rn,Int.reduceLT,Int.reduceEq,Ao,Ap,An,Aq,reduceIte,reduceCtorEq,Nat.reduceEqDiff,Nat.reduceLT,Nat.reduceBEq,Nat.reduceAdd,Nat.reduceMul,Nat.reduceLeDiff,Nat.reduceSub,Al];try rfl) | skip)
 ·dsimp only
  have f7:=ydK p0 p1 0 _ h6
  dsimp only at f7
  refine yq ?_
  refine yP (x:=x19) rfl rfl rfl ?_
  try simp only[nz] at f7
  all_goals
   refine' (ycU rfl rfl (yh (yr (yb ?_ yn) ?_) (yC (yh (yh (yr (yb ?_ yn) ?_) (yC (yM f7 ?_))) yck))) ?_)
   all_goals (first | (simp only[x19,nz,rn,Int.reduceLT,Int.reduceEq,Ao,Ap,An,Aq,reduceIte,reduceCtorEq,Nat.reduceEqDiff,Nat.reduceLT,Nat.reduceBEq,Nat.reduceAdd,Nat.reduceMul,Nat.reduceLeDiff,Nat.reduceSub,Al];try rfl) | skip)
open Go
set_option maxRecDepth 100000
set_option maxHeartbeats 4000000
theorem yd6(p0:List Int)(p1:List Int)(i1:Int):Sim (r13_Begins_l1_b p0 p1 i1) fun x=>fgt [0,1,5] (evX (evI T) x86_1 [(0,.sl p0.length (p0.flatMap (cint .i64))),(1,.sl p1.length (p1.flatMap (cint .i64))),(5,.int .i64 i1)])=some (stpK (fun s=>(.norm,[(0,.sl p0.length (p0.flatMap (cint .i64))),(1,.sl p1.length (p1.flatMap (cint .i64))),(5,.int .i64 s)])) (fun r=>(stpK (fun t0=>(.exit 0,[])) (fun u0=>(.ret,[(4,.bool false)])) r)) x):=by
 unfold r13_Begins_l1_b
 refine y7 (fun h2=>?_) (fun h2=>?_)
 ·refine yE (fun x_2 h3=>?_)
  have f4:=ydX h3
  have f4o:=yaY h3
  have f5:=yay (ybl .i64) h3
  simp only[nz] at f5
  refine yE (fun x_3 h6=>?_)
  have f7:=ydX h6
  have f7o:=yaY h6
  have f8:=yay (ybl .i64) h6
  simp only[nz] at f8
  refine y7 (fun h9=>?_) (fun h9=>?_)
  ·refine yq ?_
   refine' (yaR (yh (yh (yr (yb ?_ (yb ?_ (yb ?_ (yb ?_ yn)))) ?_) (yC (yO ?_ yY ?_))) (yC (yh (yM (yh (ycg ?_ ?_ (yf rfl ?_ ?_ ?_ (yf rfl ?_ ?_ ?_ (yf rfl ?_ ?_ ?_ (yf rfl ?_ ?_ ?_ (yf rfl ?_ ?_ ?_ (yf rfl ?_ ?_ ?_ (yf rfl ?_ ?_ ?_ (yf rfl ?_ ?_ ?_ (ych rfl rfl (yb ?_ yn)))))))))) ?_) (yC (yO ?_ (yh (yr (yb ?_ yn) ?_) (yC yaz)) ?_))) ?_) yck))) ?_)
   all_goals (first | (simp only[nz,rn,h2,f4,f4o,f5,f7,f7o,f8,h9,Int.reduceLT,Int.reduceEq,Ao,Ap,An,Aq,reduceIte,reduceCtorEq,Nat.reduceEqDiff,Nat.reduceLT,Nat.reduceBEq,Nat.reduceAdd,Nat.reduceMul,Nat.reduceLeDiff,Nat.reduceSub,Al];try rfl) | skip)
  ·refine yq ?_
   refine' (yaR (yh (yh (yr (yb ?_ (yb ?_ (yb ?_ (yb ?_ yn)))) ?_) (yC (yO ?_ yY ?_))) (yC (yh (yM (yh (ycg ?_ ?_ (yf rfl ?_ ?_ ?_ (yf rfl ?_ ?_ ?_ (yf rfl ?_ ?_ ?_ (yf rfl ?_ ?_ ?_ (yf rfl ?_ ?_ ?_ (yf rfl ?_ ?_ ?_ (yf rfl ?_ ?_ ?_ (yf rfl ?_ ?_ ?_ (ych rfl rfl (yb ?_ yn)))))))))) ?_) (yC (yS ?_ yY ?_))) ?_) (yC (yr (yb ?_ (yb ?_ (yb ?_ yn))) ?_))))) ?_)
   all_goals (first | (simp only[nz,rn,h2,f4,f4o,f5,f7,f7o,f8,h9,Int.reduceLT,Int.reduceEq,Ao,Ap,An,Aq,reduceIte,reduceCtorEq,Nat.reduceEqDiff,Nat.reduceLT,Nat.reduceBEq,Nat.reduceAdd,Nat.reduceMul,Nat.reduceLeDiff,Nat.reduceSub,Al];try rfl) | skip)
 ·refine yq ?_
  refine' (yaR (yh (yh (yr (yb ?_ (yb ?_ (yb ?_ (yb ?_ yn)))) ?_) (yC (yS ?_ (ycz ?_) ?_))) yfr) ?_)
  all_goals (first | (simp only[nz,rn,h2,Int.reduceLT,Int.reduceEq,Ao,Ap,An,Aq,reduceIte,reduceCtorEq,Nat.reduceEqDiff,Nat.reduceLT,Nat.reduceBEq,Nat.reduceAdd,Nat.reduceMul,Nat.reduceLeDiff,Nat.reduceSub,Al];try rfl) | skip)
theorem ycj(p0:List Int)(p1:List Int)(s:Int):Sim (r13_Begins_l1 p0 p1 s) fun r=>evX (evI T) (.loop x86_1 [0,1,5]) [(0,.sl p0.length (p0.flatMap (cint .i64))),(1,.sl p1.length (p1.flatMap (cint .i64))),(5,.int .i64 s)]=some (stpK (fun t0=>(.exit 0,[])) (fun u0=>(.ret,[(4,.bool false)])) r):=by
 unfold r13_Begins_l1
 exact yat (C:=evI T) (b:=x86_1) (ks:=[0,1,5]) (σ:=Int) (ρ:=Stp Unit Unit) (body:=fun s=>r13_Begins_l1_b p0 p1 s) (E:=fun s=>[(0,.sl p0.length (p0.flatMap (cint .i64))),(1,.sl p1.length (p1.flatMap (cint .i64))),(5,.int .i64 s)]) (R:=fun r=>(stpK (fun t0=>(.exit 0,[])) (fun u0=>(.ret,[(4,.bool false)])) r)) (fun r h=>by rcases r with _|_ <;> cases h) (fun s=>yd6 p0 p1 s) s
theorem yg8(p0:List Int)(p1:List Int):Sim (r13_Begins p0 p1) fun r=>evI T 86 [.sl p0.length (p0.flatMap (cint .i64)),.sl p1.length (p1.flatMap (cint .i64))]=some (.bool r,[.none,.none]):=by
 unfold r13_Begins
 refine y7 (fun h1=>?_) (fun h1=>?_)
 ·refine yq ?_
  refine yP (x:=x86) rfl rfl rfl ?_
  refine' (ycU rfl rfl (yh (yr (yb ?_ yn) ?_) (yC (yh (yh (yr (yb ?_ (yb ?_ (yb ?_ (yb ?_ (yb ?_ yn))))) ?_) (yC (yO ?_ (yh (yr (yb ?_ yn) ?_) (yC yaz)) ?_))) yck))) ?_)
  all_goals (first | (simp only[x86,nz,rn,h1,Int.reduceLT,Int.reduceEq,Ao,Ap,An,Aq,reduceIte,reduceCtorEq,Nat.reduceEqDiff,Nat.reduceLT,Nat.reduceBEq,Nat.reduceAdd,Nat.reduceMul,Nat.reduceLeDiff,Nat.reduceSub,Al];try rfl) | skip)
 ·refine yE (fun qh10 h10=>?_)
  rcases qh10 with⟨_⟩|⟨_⟩
  ·dsimp only
   have f11:=ycj p0 p1 0 _ h10
   dsimp only at f11
   refine yq ?_
   refine yP (x:=x86) rfl rfl rfl ?_
   try simp only[nz] at f11
   all_goals
    refine' (ycU rfl rfl (yh (yr (yb ?_ yn) ?_) (yC (yh (yh (yr (yb ?_ (yb ?_ (yb ?_ (yb ?_ (yb ?_ yn))))) ?_) (yC (yS ?_ yY ?_))) (yC (yh (yh (yr (yb ?_ yn) ?_) (yC (yM f11 ?_))) (yC (yh (yr (yb ?_ yn) ?_) (yC yaz)))))))) ?_)
    all_goals (first | (simp only[x86,nz,rn,h1,Int.reduceLT,Int.reduceEq,Ao,Ap,An,Aq,reduceIte,reduceCtorEq,Nat.reduceEqDiff,Nat.reduceLT,Nat.reduceBEq,Nat.reduceAdd,Nat.reduceMul,Nat.reduceLeDiff,Nat.reduceSub,Al];try rfl) | skip)
  ·dsimp only
   have f11:=ycj p0 p1 0 _ h10
   dsimp only at f11
   refine yq ?_
   refine yP (x:=x86) rfl rfl rfl ?_
   try simp only[nz] at f11
   all_goals
    refine' (ycU rfl rfl (yh (yr (yb ?_ yn) ?_) (yC (yh (yh (yr (yb ?_ (yb ?_ (yb ?_ (yb ?_ (yb ?_ yn))))) ?_) (yC (yS ?_ yY ?_))) (yC (yh (yh (yr (yb ?_ yn) ?_) (yC (yM f11 ?_))) yck))))) ?_)
    all_goals (first | (simp only[x86,nz,rn,h1,Int.reduceLT,Int.reduceEq,Ao,Ap,An,Aq,reduceIte,reduceCtorEq,Nat.reduceEqDiff,Nat.reduceLT,Nat.reduceBEq,Nat.reduceAdd,Nat.reduceMul,Nat.reduceLeDiff,Nat.reduceSub,Al];try rfl) | skip)
theorem yfR(p0:List Int)(p1:List Int):Sim (r13_Begins p0 p1) fun r=>∀ws,ws.map normA=[.sl p0.length (p0.flatMap (cint .i64)),.sl p1.length (p1.flatMap (cint .i64))]->evI T 86 ws=some (.bool r,[.none,.none]):=fun r h=>ydW (x:=x86) rfl rfl rfl (yg8 p0 p1 r h)
open Go
set_option maxRecDepth 100000
set_option maxHeartbeats 4000000
theorem yfS(p0:List Int)(p1:List Int):Sim (r13_Nums_j1 p0 p1) fun r=>evX (evI T) x32_1 [(0,.sl p0.length (p0.flatMap (cint .i64))),(1,.sl p1.length (p1.flatMap (cint .i64)))]=some (.norm,[(4,.bool r)]):=by
 unfold r13_Nums_j1
 refine y7 (fun h1=>?_) (fun h1=>?_)
 ·refine yE (fun r1 h2=>?_)
  have f3:=yfR p0 p1 _ h2
  dsimp only at f3
  refine yq ?_
  try simp only[nz] at f3
  all_goals
   refine' (yr (yb ?_ (yb ?_ (yb ?_ (yb ?_ (yb ?_ (yb ?_ (yb ?_ (yb ?_ (yb ?_ (yb ?_ (yb ?_ yn))))))))))) ?_)
   all_goals (first | (simp only[nz,rn,h1,f3,Int.reduceLT,Int.reduceEq,Ao,Ap,An,Aq,reduceIte,reduceCtorEq,Nat.reduceEqDiff,Nat.reduceLT,Nat.reduceBEq,Nat.reduceAdd,Nat.reduceMul,Nat.reduceLeDiff,Nat.reduceSub,Al];try rfl) | skip)
 ·refine yq ?_
  refine' (yr (yb ?_ (yb ?_ (yb ?_ (yb ?_ (yb ?_ (yb ?_ (yb ?_ (yb ?_ (yb ?_ (yb ?_ (yb ?_ yn))))))))))) ?_)
  all_goals (first | (simp only[nz,rn,h1,Int.reduceLT,Int.reduceEq,Ao,Ap,An,Aq,reduceIte,reduceCtorEq,Nat.reduceEqDiff,Nat.reduceLT,Nat.reduceBEq,Nat.reduceAdd,Nat.reduceMul,Nat.reduceLeDiff,Nat.reduceSub,Al];try rfl) | skip)
theorem yiX(p0:List Int)(p1:List Int):Sim (r13_Nums p0 p1) fun r=>evI T 32 [.sl p0.length (p0.flatMap (cint .i64)),.sl p1.length (p1.flatMap (cint .i64))]=some (.bool r,[.none,.none]):=by
 unfold r13_Nums
 refine yE (fun v2 h4=>?_)
 have f5:=yfS p0 p1 _ h4
 dsimp only at f5
 refine yq ?_
 refine yP (x:=x32) rfl rfl rfl ?_
 try simp only[nz] at f5
 all_goals
  refine' (ycU rfl rfl (yh (yr (yb ?_ yn) ?_) (yC (yh f5 (yC yaz)))) ?_)
  all_goals (first | (simp only[x32,nz,rn,Int.reduceLT,Int.reduceEq,Ao,Ap,An,Aq,reduceIte,reduceCtorEq,Nat.reduceEqDiff,Nat.reduceLT,Nat.reduceBEq,Nat.reduceAdd,Nat.reduceMul,Nat.reduceLeDiff,Nat.reduceSub,Al];try rfl) | skip)
open Go
set_option maxRecDepth 100000
set_option maxHeartbeats 4000000
theorem yfA(p0:List r26_Object)(p1:List Int)(out1:List Int)(i2:Int)(x_3:Int):Sim (l26_roots_j4 p0 p1 out1 i2 x_3) fun r=>evX (evI T) x17_1 [(0,.sl p0.length (p0.flatMap cr26_Object)),(1,.sl p1.length (p1.flatMap (cint .u8))),(5,mkOwn 1 out1.length (out1.flatMap (cint .i64))),(6,.int .i64 i2),(7,.int .i64 (Int.tmod (IntKind.wrap .i64 x_3) (IntKind.wrap .i64 (((p0.length:Int))+1)))),(26,.bool (decide ((Int.tmod (IntKind.wrap .i64 x_3) (IntKind.wrap .i64 (((p0.length:Int))+1)))<((p0.length:Int)))))]=some (.norm,[(0,.sl p0.length (p0.flatMap cr26_Object)),(1,.sl p1.length (p1.flatMap (cint .u8))),(5,mkOwn 1 r.length (r.flatMap (cint .i64))),(6,.int .i64 i2)]):=by
 unfold l26_roots_j4
 refine y7 (fun h6=>?_) (fun h6=>?_)
 ·refine yE (fun x_4 h7=>?_)
  have f8:=ydX h7
  have f8o:=yaY h7
  have f9:=yay yH h7
  simp only[nz,yo] at f9
  refine yE (fun l_5 h10=>?_)
  have f11:=ye7 h10
  try simp only[nz,Nat.reduceLeDiff,Nat.reduceAdd,Nat.reduceMul,Nat.reduceSub] at f11
  have f11a:PV.own 1 (out1.length+1) (out1.flatMap (cint .i64)++[.int .i64 x_4.At]) = .own 1 l_5.length (l_5.flatMap (cint .i64)):=ygU h10 (cint .i64) 1
  have f11o:=ye8 h10
  refine yq ?_
  rcases ybT out1 with rfl|o_out1
  ·obtain rfl:=yhN h10
   refine' (yO ?_ (yr (yb ?_ (yb ?_ (yb ?_ (yb ?_ (yb ?_ (yb ?_ (yb ?_ (yb ?_ (yb ?_ yn))))))))) ?_) ?_)
   all_goals (first | (simp only[nz,rn,yo,h6,f8,f8o,f9,Int.reduceLT,Int.reduceEq,Ao,Ap,An,Aq,reduceIte,reduceCtorEq,Nat.reduceEqDiff,Nat.reduceLT,Nat.reduceBEq,Nat.reduceAdd,Nat.reduceMul,Nat.reduceLeDiff,Nat.reduceSub,Al];try rfl) | skip)
  ·refine' (yO ?_ (yr (yb ?_ (yb ?_ (yb ?_ (yb ?_ (yb ?_ (yb ?_ (yb ?_ (yb ?_ (yb ?_ yn))))))))) ?_) ?_)
   all_goals (first | (simp only[nz,rn,yo,h6,f8,f8o,f9,f11,f11a,f11o,o_out1,Int.reduceLT,Int.reduceEq,Ao,Ap,An,Aq,reduceIte,reduceCtorEq,Nat.reduceEqDiff,Nat.reduceLT,Nat.reduceBEq,Nat.reduceAdd,Nat.reduceMul,Nat.reduceLeDiff,Nat.reduceSub,Al];try rfl) | skip)
 ·refine yE (fun l_6 h12=>?_)
  have f13:=ye7 h12
  try simp only[nz,Nat.reduceLeDiff,Nat.reduceAdd,Nat.reduceMul,Nat.reduceSub] at f13
  have f13a:PV.own 1 (out1.length+1) (out1.flatMap (cint .i64)++[.int .i64 0]) = .own 1 l_6.length (l_6.flatMap (cint .i64)):=ygU h12 (cint .i64) 1
  have f13o:=ye8 h12
  refine yq ?_
  rcases ybT out1 with rfl|o_out1
  ·obtain rfl:=yhN h12
   refine' (yS ?_ (yr (yb ?_ (yb ?_ (yb ?_ (yb ?_ yn)))) ?_) ?_)
   all_goals (first | (simp only[nz,rn,yo,h6,Int.reduceLT,Int.reduceEq,Ao,Ap,An,Aq,reduceIte,reduceCtorEq,Nat.reduceEqDiff,Nat.reduceLT,Nat.reduceBEq,Nat.reduceAdd,Nat.reduceMul,Nat.reduceLeDiff,Nat.reduceSub,Al];try rfl) | skip)
  ·refine' (yS ?_ (yr (yb ?_ (yb ?_ (yb ?_ (yb ?_ yn)))) ?_) ?_)
   all_goals (first | (simp only[nz,rn,yo,h6,f13,f13a,f13o,o_out1,Int.reduceLT,Int.reduceEq,Ao,Ap,An,Aq,reduceIte,reduceCtorEq,Nat.reduceEqDiff,Nat.reduceLT,Nat.reduceBEq,Nat.reduceAdd,Nat.reduceMul,Nat.reduceLeDiff,Nat.reduceSub,Al];try rfl) | skip)
theorem yeC(p0:List r26_Object)(p1:List Int)(out1:List Int)(i2:Int):Sim (l26_roots_l5_b p0 p1 out1 i2) fun x=>fgt [0,1,5,6] (evX (evI T) x17_2 [(0,.sl p0.length (p0.flatMap cr26_Object)),(1,.sl p1.length (p1.flatMap (cint .u8))),(5,mkOwn 1 out1.length (out1.flatMap (cint .i64))),(6,.int .i64 i2)])=some (stpK (fun s=>(.norm,[(0,.sl p0.length (p0.flatMap cr26_Object)),(1,.sl p1.length (p1.flatMap (cint .u8))),(5,mkOwn 1 s.1.length (s.1.flatMap (cint .i64))),(6,.int .i64 s.2)])) (fun r=>(.exit 0,[(5,mkOwn 1 r.length (r.flatMap (cint .i64)))])) x):=by
 unfold l26_roots_l5_b
 refine y7 (fun h1=>?_) (fun h1=>?_)
 ·refine yE (fun x_3 h2=>?_)
  have f3:=ydX h2
  have f3o:=yaY h2
  have f4:=yay (ybl .u8) h2
  simp only[nz,yo] at f4
  refine y7 (fun h5=>?_) (fun h5=>?_)
  ·exact ygT
  ·refine yE (fun out7 h14=>?_)
   have f15:=yfA p0 p1 out1 i2 x_3 _ h14
   dsimp only at f15
   refine yq ?_
   try simp only[nz,yo,f3o] at f15
   all_goals
    refine' (yaR (yh (yh (yr (yb ?_ (yb ?_ (yb ?_ (yb ?_ yn)))) ?_) (yC (yO ?_ yY ?_))) (yC (yh (yM (yh (yr (yb ?_ (yb ?_ (yb ?_ (yb ?_ (yb ?_ (yb ?_ (yb ?_ (yb ?_ (yb ?_ (yb ?_ yn)))))))))) ?_) (yC (yh (yr (yb ?_ (yb ?_ (yb ?_ (yb ?_ yn)))) ?_) (yC f15)))) ?_) (yC (yr (yb ?_ (yb ?_ (yb ?_ yn))) ?_))))) ?_)
    all_goals (first | (simp only[nz,rn,yo,h1,f3,f3o,f4,Cg h5,h5,Int.reduceLT,Int.reduceEq,Ao,Ap,An,Aq,reduceIte,reduceCtorEq,Nat.reduceEqDiff,Nat.reduceLT,Nat.reduceBEq,Nat.reduceAdd,Nat.reduceMul,Nat.reduceLeDiff,Nat.reduceSub,Al];try rfl) | skip)
 ·refine yq ?_
  refine' (yaR (yh (yh (yr (yb ?_ (yb ?_ (yb ?_ (yb ?_ yn)))) ?_) (yC (yS ?_ (ycz ?_) ?_))) yfr) ?_)
  all_goals (first | (simp only[nz,rn,yo,h1,Int.reduceLT,Int.reduceEq,Ao,Ap,An,Aq,reduceIte,reduceCtorEq,Nat.reduceEqDiff,Nat.reduceLT,Nat.reduceBEq,Nat.reduceAdd,Nat.reduceMul,Nat.reduceLeDiff,Nat.reduceSub,Al];try rfl) | skip)
theorem yfB(p0:List r26_Object)(p1:List Int)(s:List Int×Int):Sim (l26_roots_l5 p0 p1 s) fun r=>evX (evI T) (.loop x17_2 [0,1,5,6]) [(0,.sl p0.length (p0.flatMap cr26_Object)),(1,.sl p1.length (p1.flatMap (cint .u8))),(5,mkOwn 1 s.1.length (s.1.flatMap (cint .i64))),(6,.int .i64 s.2)]=some (.exit 0,[(5,mkOwn 1 r.length (r.flatMap (cint .i64)))]):=by
 unfold l26_roots_l5
 exact yat (C:=evI T) (b:=x17_2) (ks:=[0,1,5,6]) (σ:=List Int×Int) (ρ:=List Int) (body:=fun s=>l26_roots_l5_b p0 p1 s.1 s.2) (E:=fun s=>[(0,.sl p0.length (p0.flatMap cr26_Object)),(1,.sl p1.length (p1.flatMap (cint .u8))),(5,mkOwn 1 s.1.length (s.1.flatMap (cint .i64))),(6,.int .i64 s.2)]) (R:=fun r=>(.exit 0,[(5,mkOwn 1 r.length (r.flatMap (cint .i64)))])) (fun r h=>nomatch h) (fun s=>yeC p0 p1 s.1 s.2) s
theorem yij(p0:List r26_Object)(p1:List Int):Sim (l26_roots p0 p1) fun r=>evI T 17 [.sl p0.length (p0.flatMap cr26_Object),.sl p1.length (p1.flatMap (cint .u8))]=some (.sl r.length (r.flatMap (cint .i64)),[.none,.none]):=by
 unfold l26_roots
 refine yE (fun out8 h16=>?_)
 have f17:=yfB p0 p1 ([],0) _ h16
 dsimp only at f17
 refine yq ?_
 refine yP (x:=x17) rfl rfl rfl ?_
 rcases ybT out8 with rfl|o_out8
 ·try simp only[nz,yo] at f17
  all_goals
   refine' (ycU rfl rfl (yh (yr (yb ?_ yn) ?_) (yC (yh (yr (yb ?_ yn) ?_) (yC (yh (yh (yr (yb ?_ yn) ?_) (yC (yM f17 ?_))) (yC (yh (yr (yb ?_ (yb ?_ yn)) ?_) (yC yaz)))))))) ?_)
   all_goals (first | (simp only[x17,nz,rn,yo,Int.reduceLT,Int.reduceEq,Ao,Ap,An,Aq,reduceIte,reduceCtorEq,Nat.reduceEqDiff,Nat.reduceLT,Nat.reduceBEq,Nat.reduceAdd,Nat.reduceMul,Nat.reduceLeDiff,Nat.reduceSub,Al];try rfl) | skip)
 ·try simp only[nz,yo,o_out8] at f17
  all_goals
   refine' (ycU rfl rfl (yh (yr (yb ?_ yn) ?_) (yC (yh (yr (yb ?_ yn) ?_) (yC (yh (yh (yr (yb ?_ yn) ?_) (yC (yM f17 ?_))) (yC (yh (yr (yb ?_ (yb ?_ yn)) ?_) (yC yaz)))))))) ?_)
   all_goals (first | (simp only[x17,nz,rn,yo,o_out8,Int.reduceLT,Int.reduceEq,Ao,Ap,An,Aq,reduceIte,reduceCtorEq,Nat.reduceEqDiff,Nat.reduceLT,Nat.reduceBEq,Nat.reduceAdd,Nat.reduceMul,Nat.reduceLeDiff,Nat.reduceSub,Al];try rfl) | skip)
open Go
set_option maxRecDepth 100000
set_option maxHeartbeats 4000000
open Go
set_option maxRecDepth 100000
set_option maxHeartbeats 4000000
theorem yfT(p0:Area)(p1:Int):evX (evI T) x67_1 [(1,.int .i64 p1),(2,.box [.int .i64 p0.Lo,.int .i64 p0.Hi,.int .i64 p0.Next])]=some (.norm,[(4,.bool (((decide (p0.Lo<=p1))&&(decide (p1<p0.Next)))))]):=by
 rcases B9 (decide (p0.Lo<=p1)) with h1|h1
 ·refine' (yr (yb ?_ (yb ?_ (yb ?_ (yb ?_ (yb ?_ (yb ?_ (yb ?_ (yb ?_ (yb ?_ (yb ?_ (yb ?_ yn))))))))))) ?_)
  all_goals (first | (simp only[nz,rn,yac,h1,Int.reduceLT,Int.reduceEq,Ao,Ap,An,Aq,reduceIte,reduceCtorEq,Nat.reduceEqDiff,Nat.reduceLT,Nat.reduceBEq,Nat.reduceAdd,Nat.reduceMul,Nat.reduceLeDiff,Nat.reduceSub,Al];try rfl) | skip)
 ·refine' (yr (yb ?_ (yb ?_ (yb ?_ (yb ?_ (yb ?_ (yb ?_ (yb ?_ (yb ?_ (yb ?_ (yb ?_ (yb ?_ yn))))))))))) ?_)
  all_goals (first | (simp only[nz,rn,yac,h1,Int.reduceLT,Int.reduceEq,Ao,Ap,An,Aq,reduceIte,reduceCtorEq,Nat.reduceEqDiff,Nat.reduceLT,Nat.reduceBEq,Nat.reduceAdd,Nat.reduceMul,Nat.reduceLeDiff,Nat.reduceSub,Al];try rfl) | skip)
theorem yiY(p0:Area)(p1:Int):Sim (space_In p0 p1) fun r=>evI T 67 [.agg [.int .i64 p0.Lo,.int .i64 p0.Hi,.int .i64 p0.Next],.int .i64 p1]=some (.bool r,[.none,.none]):=by
 unfold space_In
 have f3:=yfT p0 p1
 refine yq ?_
 refine yP (x:=x67) rfl rfl rfl ?_
 try simp only[nz,yac] at f3
 all_goals
  refine' (ycU rfl rfl (yh (yr (yb ?_ (yb ?_ yn)) ?_) (yC (yh f3 (yC yaz)))) ?_)
  all_goals (first | (simp only[x67,nz,rn,yac,Int.reduceLT,Int.reduceEq,Ao,Ap,An,Aq,reduceIte,reduceCtorEq,Nat.reduceEqDiff,Nat.reduceLT,Nat.reduceBEq,Nat.reduceAdd,Nat.reduceMul,Nat.reduceLeDiff,Nat.reduceSub,Al];try rfl) | skip)
open Go
set_option maxRecDepth 100000
set_option maxHeartbeats 4000000
open Go
theorem ydL{σ ρ:Type}{body:σ->Option (Stp σ ρ)}(I:σ->Prop)(Q:ρ->Prop)(μ:σ->Nat)
 (h:∀s,I s->(∃r,body s=some (.stop r)/\Q r)\/∃s',body s=some (.next s')/\I s'/\μ s'<μ s):∀s,I s->∃r,runL body s=some r/\Q r:=by
 intro s
 induction hn:μ s using Nat.strongRecOn generalizing s with
 | ind n ih=>
   intro hs
   rw[ynS]
   rcases h s hs with⟨r,hb,hq⟩|⟨s',hb,hi,hm⟩
   ·exact⟨r,by rw[hb];rfl,hq⟩
   ·obtain⟨r,hr,hq⟩:=ih (μ s') (by omega) s' rfl hi
    exact⟨r,by rw[hb];exact hr,hq⟩
theorem yfC{x:Int}(h1:-9223372036854775808<=x)(h2:x<=9223372036854775807):IntKind.wrap .i64 x=x:=ydS h1 (by omega)
theorem ycb{a:Nat}(h:a<9223372036854775808):(BitVec.ofInt 64 (a:Int)).toNat=a:=by
 rw[BitVec.toNat_ofInt]
 have:((a:Int) % ((2 ^ 64:Nat):Int))=a:=Int.emod_eq_of_lt (by omega) (by omega)
 rw[this];rfl
theorem ynn{a b:Nat}(ha:a<9223372036854775808)(hb:b<9223372036854775808):bAnd .i64 a b=((a &&& b:Nat):Int):=by
 have h1:=ycb ha
 have h2:=ycb hb
 unfold bAnd
 show IntKind.wrap .i64 (((BitVec.ofInt 64 (a:Int)) &&& (BitVec.ofInt 64 (b:Int))).toNat:Int)=_
 rw[BitVec.toNat_and,h1,h2]
 have:a &&& b<=a:=Nat.and_le_left
 exact yfC (by omega) (by omega)
theorem yqq{a b:Nat}(ha:a<4611686018427387904)(hb:b<4611686018427387904):bOr .i64 a b=((a ||| b:Nat):Int):=by
 have h1:=ycb (a:=a) (by omega)
 have h2:=ycb (a:=b) (by omega)
 unfold bOr
 show IntKind.wrap .i64 (((BitVec.ofInt 64 (a:Int)) ||| (BitVec.ofInt 64 (b:Int))).toNat:Int)=_
 rw[BitVec.toNat_or,h1,h2]
 have:a ||| b<2 ^ 62:=Nat.or_lt_two_pow (by omega) (by omega)
 exact yfC (by omega) (by omega)
open Go
theorem ymQ{n:Int}(h:n<=62):r03_power n=some (2 ^ n.toNat):=by
 unfold r03_power
 have key:∃r,r03_power_l1 n (1,0)=some r/\r=2 ^ n.toNat:=by
  refine ydL (I:=fun s=>0<=s.2/\(s.2<=n\/s.2=0)/\s.1=2 ^ s.2.toNat) (Q:=fun r=>r=2 ^ n.toNat) (μ:=fun s=>(n-s.2).toNat) ?_ (1,0) (by simp)
  rintro⟨out,i⟩ ⟨h1,h2,h3⟩
  simp only at h1 h2 h3 ⊢
  unfold r03_power_l1_b
  by_cases hi:i<n
  ·right
   refine⟨_,by rw[if_pos (by simpa using hi)],?_⟩
   have hp:(2:Int) ^ i.toNat<=2 ^ 61:=by
    exact_mod_cast Nat.pow_le_pow_right (by decide) (show i.toNat<=61 by omega)
   have h0:(0:Int)<2 ^ i.toNat:=by exact_mod_cast Nat.two_pow_pos i.toNat
   have e1:IntKind.wrap .i64 (out*2)=out*2:=yfC (by omega) (by omega)
   have e2:IntKind.wrap .i64 (i+1)=i+1:=yfC (by omega) (by omega)
   rw[e1,e2]
   refine⟨⟨by omega,by omega,?_⟩,by omega⟩
   simp only
   rw[h3,show (i+1).toNat=i.toNat+1 by omega,Int.pow_succ]
  ·left
   refine⟨out,by rw[if_neg (by simpa using hi)],?_⟩
   rw[h3]
   rcases h2 with h2|h2
   ·rw[show i=n by omega]
   ·rw[h2,show n.toNat=(0:Int).toNat by omega]
 obtain⟨r,h1,h2⟩:=key
 rw[h1,h2];rfl
theorem yaZ{k n:Nat}(h:k<=n):(2:Int) ^ k<=2 ^ n:=by exact_mod_cast Nat.pow_le_pow_right (by decide) h
def OkSh(x:Shape):Prop:=0<=x.Slots/\x.Slots<=16/\0<=x.Mask/\x.Mask<2 ^ x.Slots.toNat
instance (x:Shape):Decidable (OkSh x):=by unfold OkSh;exact inferInstance
theorem ymR(x:Shape):shape_Check x=some (if OkSh x then 0 else 16):=by
 unfold shape_Check
 by_cases h:0<=x.Slots/\x.Slots<=16
 ·have hp:=yaZ (show x.Slots.toNat<=16 by omega)
  have h0:(0:Int)<2 ^ x.Slots.toNat:=by exact_mod_cast Nat.two_pow_pos _
  have e:IntKind.wrap .i64 (1*2 ^ (min x.Slots.toNat 64))=2 ^ x.Slots.toNat:=by
   rw[show min x.Slots.toNat 64=x.Slots.toNat by omega,Int.one_mul]
   exact yfC (by omega) (by omega)
  rw[e]
  by_cases h2:0<=x.Mask/\x.Mask<2 ^ x.Slots.toNat
  ·rw[if_neg (by simp;omega),if_pos (show OkSh x from ⟨h.1,h.2,h2⟩)]
  ·rw[if_pos (by simp;omega),if_neg (fun hh:OkSh x=>h2 hh.2.2)]
 ·rw[if_pos (by simp;omega),if_neg (fun hh:OkSh x=>h ⟨hh.1,hh.2.1⟩)]
theorem yqr(n:Int):shape_Of n=some (if 0<=n/\n<2097152 then (if OkSh ⟨n % 32,n / 32⟩ then (⟨n % 32,n / 32⟩,0) else (⟨0,0⟩,16)) else (⟨0,0⟩,16)):=by
 unfold shape_Of
 by_cases h:0<=n/\n<2097152
 ·have e1:bAnd .i64 n 31=n % 32:=by
   have:=ynn (a:=n.toNat) (b:=31) (by omega) (by omega)
   rw[show ((n.toNat:Nat):Int)=n by omega] at this
   have e:n.toNat &&& 31=n.toNat % 32:=Nat.and_two_pow_sub_one_eq_mod n.toNat 5
   rw[e] at this
   rw[show ((31:Nat):Int)=31 from rfl] at this
   rw[this];omega
  have e2:Int.fdiv n (2 ^ (min (5:Int).toNat 64))=n / 32:=by
   show Int.fdiv n 32=n / 32
   rw[Int.fdiv_eq_ediv_of_nonneg _ (by omega)]
  rw[if_neg (by simp;omega),if_pos h,e1,e2,ymR]
  by_cases h2:OkSh ⟨n % 32,n / 32⟩ <;> simp[h2]
 ·rw[if_pos (by simp;omega),if_neg h]
theorem yn7:shape_bits=some ((List.range 16).map fun i=>(2:Int) ^ i):=by rfl
theorem tb{m k:Nat}(hm:m<65536)(hk:k<16):(bAnd .i64 (m:Int) ((2:Int) ^ k) != 0)=m.testBit k:=by
 have h1:(2:Nat) ^ k<=2 ^ 15:=Nat.pow_le_pow_right (by decide) (by omega)
 have:=ynn (a:=m) (b:=2 ^ k) (by omega) (by omega)
 rw[show (((2:Nat) ^ k:Nat):Int)=(2:Int) ^ k by push_cast;rfl] at this
 rw[this]
 cases hb:m.testBit k with
 | true=>
   have:(m &&& 2 ^ k)≠0:=fun h=>by
    have h2:(m &&& 2 ^ k).testBit k=true:=by rw[Nat.testBit_and,hb,Nat.testBit_two_pow];simp
    rw[h] at h2;simp at h2
   simp only[bne_iff_ne,ne_eq];omega
 | false=>
   have:(m &&& 2 ^ k)=0:=Nat.eq_of_testBit_eq fun j=>by
    rw[Nat.testBit_and,Nat.testBit_two_pow,Nat.zero_testBit]
    by_cases hj:k=j
    ·subst hj;rw[hb];rfl
    ·simp[hj]
   rw[this];rfl
theorem td{m k:Nat}(hm:m<65536)(hk:k<16):(Int.tmod (IntKind.wrap .i64 (Int.tdiv (m:Int) ((2:Int) ^ k))) 2==1)=m.testBit k:=by
 have e1:Int.tdiv (m:Int) ((2:Int) ^ k)=((m / 2 ^ k:Nat):Int):=by
  rw[Int.tdiv_eq_ediv_of_nonneg (by omega)];push_cast;rfl
 have h0:m / 2 ^ k<=m:=Nat.div_le_self _ _
 rw[e1,Nat.testBit_eq_decide_div_mod_eq]
 generalize m / 2 ^ k=q at h0 ⊢
 rw[yfC (by omega) (by omega),Int.tmod_eq_emod_of_nonneg (by omega)]
 by_cases h:q % 2=1
 ·rw[decide_eq_true h,beq_iff_eq];omega
 ·rw[decide_eq_false h,beq_eq_false_iff_ne];omega
theorem yd7{x:Shape}(hx:OkSh x)(k:Int):shape_Pointer x k=some (decide (0<=k)&&(decide (k<x.Slots)&&x.Mask.toNat.testBit k.toNat)):=by
 obtain⟨h1,h2,h3,h4⟩:=hx
 unfold shape_Pointer shape_Pointer_j1
 have hp:=yaZ (show x.Slots.toNat<=16 by omega)
 by_cases h:0<=k
 ·by_cases h':k<x.Slots
  ·have hix:ixa ((List.range 16).map fun i=>(2:Int) ^ i) 16 k=some (2 ^ k.toNat):=by
    unfold ixa
    rw[if_pos (by omega)]
    simp[show k.toNat<16 by omega]
   have e:=tb (m:=x.Mask.toNat) (k:=k.toNat) (by omega) (by omega)
   rw[show ((x.Mask.toNat:Nat):Int)=x.Mask by omega] at e
   simp only[yn7,h,h',decide_true,if_true,Bg,hix,e,Bool.true_and]
  ·simp[h,h']
 ·simp[h]
theorem yiZ{x:Shape}(hx:OkSh x)(k:Int):r03_Pointer x k=shape_Pointer x k:=by
 rw[yd7 hx]
 obtain⟨h1,h2,h3,h4⟩:=hx
 unfold r03_Pointer
 have hp:=yaZ (show x.Slots.toNat<=16 by omega)
 by_cases h:0<=k/\k<x.Slots
 ·have e:=td (m:=x.Mask.toNat) (k:=k.toNat) (by omega) (by omega)
  rw[show ((x.Mask.toNat:Nat):Int)=x.Mask by omega] at e
  have h0:(2:Int) ^ k.toNat≠0:=by
   have:(0:Int)<2 ^ k.toNat:=by exact_mod_cast Nat.two_pow_pos _
   omega
  rw[if_neg (by simp;omega),ymQ (by omega)]
  simp only[Bg,h0,decide_false,Al,if_false,e,h.1,h.2,decide_true,Bool.true_and]
 ·rw[if_pos (by simp;omega)]
  by_cases h':0<=k
  ·simp[show ¬k<x.Slots by omega]
  ·simp[h']
theorem yi0{x:Shape}(hx:OkSh x):shape_Head x=some (x.Mask*32+x.Slots):=by
 obtain⟨h1,h2,h3,h4⟩:=hx
 have hp:=yaZ (show x.Slots.toNat<=16 by omega)
 unfold shape_Head
 have e:x.Mask*2 ^ (min (5:Int).toNat 64)=x.Mask*32:=rfl
 rw[e,yfC (by omega) (by omega)]
 have:=yqq (a:=x.Mask.toNat*32) (b:=x.Slots.toNat) (by omega) (by omega)
 rw[show ((x.Mask.toNat*32:Nat):Int)=x.Mask*32 by omega,show ((x.Slots.toNat:Nat):Int)=x.Slots by omega] at this
 have e2:=Nat.two_pow_add_eq_or_of_lt (b:=x.Slots.toNat) (i:=5) (by omega) x.Mask.toNat
 rw[show x.Mask.toNat*32=2 ^ 5*x.Mask.toNat by omega] at this
 rw[this,←e2]
 congr 1;omega
theorem ypr{x:Shape}(hx:OkSh x):∃n,shape_Head x=some n/\shape_Of n=some (x,0):=by
 refine⟨_,yi0 hx,?_⟩
 have hx':=hx
 obtain⟨h1,h2,h3,h4⟩:=hx
 have hp:=yaZ (show x.Slots.toNat<=16 by omega)
 have e:(⟨(x.Mask*32+x.Slots) % 32,(x.Mask*32+x.Slots) / 32⟩:Shape)=x:=by
  cases x;simp only[Shape.mk.injEq];simp only at h1 h2 h3 h4 hp;omega
 rw[yqr,if_pos (by omega),e,if_pos hx']
def ptB(x:Shape)(k:Int):Bool:=decide (0<=k)&&(decide (k<x.Slots)&&x.Mask.toNat.testBit k.toNat)
def hdB(x:Shape):Int:=x.Mask*32+x.Slots
theorem yqs{x:Shape}(hx:OkSh x):shape_Of (hdB x)=some (x,0):=by
 obtain⟨n,h1,h2⟩:=ypr hx
 rw[yi0 hx,Af] at h1
 rw[show hdB x=n from h1];exact h2
theorem yps{x:Shape}(hx:OkSh x):0<=hdB x/\hdB x<2097152:=by
 obtain⟨h1,h2,h3,h4⟩:=hx
 have hp:=yaZ (show x.Slots.toNat<=16 by omega)
 unfold hdB;omega
theorem ymS{a m:Int}(ha:0<=a/\a<=16)(hm:0<=m/\m<65536):∃x,l12_Shape a m=some x/\OkSh x/\x.Slots=a:=by
 have e0:IntKind.wrap .i64 (Int.tmod (IntKind.wrap .u64 a) 17)=a:=by
  have e1:IntKind.wrap .u64 a=a:=by
   simp only[IntKind.wrap,IntKind.signed,IntKind.bits]
   simp;omega
  rw[e1,Int.tmod_eq_emod_of_nonneg (by omega),Int.emod_eq_of_lt (by omega) (by omega)]
  exact yfC (by omega) (by omega)
 have key:∃r,l12_Shape_l5 a (IntKind.wrap .i64 m,16)=some r/\(0<=r/\r<2 ^ a.toNat):=by
  refine ydL (I:=fun s=>a<=s.2/\s.2<=16/\0<=s.1/\s.1<2 ^ s.2.toNat) (Q:=fun r=>0<=r/\r<2 ^ a.toNat) (μ:=fun s=>s.2.toNat) ?_ _ ⟨ha.2,by simp,?_,?_⟩
  ·rintro⟨q,i⟩ ⟨h1,h2,h3,h4⟩
   simp only at h1 h2 h3 h4 ⊢
   unfold l12_Shape_l5_b
   rw[e0]
   by_cases hi:a<i
   ·right
    have w1:IntKind.wrap .i64 (i-1)=i-1:=yfC (by omega) (by omega)
    have hp:(2:Int) ^ i.toNat<=2 ^ 16:=yaZ (by omega)
    have hs:(2:Int) ^ i.toNat=2 ^ (i-1).toNat*2:=by rw[show i.toNat=(i-1).toNat+1 by omega,Int.pow_succ]
    have h0:(0:Int)<2 ^ (i-1).toNat:=by exact_mod_cast Nat.two_pow_pos _
    have w2:IntKind.wrap .i64 (1*2 ^ (min (i-1).toNat 64))=2 ^ (i-1).toNat:=by
     rw[show min (i-1).toNat 64=(i-1).toNat by omega,Int.one_mul]
     exact yfC (by omega) (by omega)
    rw[if_pos (by simpa using hi),w1,if_neg (by simp;omega),w2]
    refine⟨_,rfl,⟨by omega,by omega,?_⟩,by omega⟩
    simp only
    by_cases hc:(2:Int) ^ (i-1).toNat<=q
    ·rw[if_pos (by simpa using hc),yfC (by omega) (by omega)]
     omega
    ·rw[if_neg (by simpa using hc)]
     omega
   ·left
    refine⟨q,by rw[if_neg (by simpa using hi)],h3,?_⟩
    rwa [show a=i by omega]
  ·rw[yfC (by omega) (by omega)];exact hm.1
  ·rw[yfC (by omega) (by omega)];simpa using hm.2
 obtain⟨r,h1,h2⟩:=key
 refine⟨⟨a,r⟩,?_,⟨ha.1,ha.2,h2.1,h2.2⟩,rfl⟩
 unfold l12_Shape
 rw[h1,e0];rfl
open Go
set_option maxRecDepth 10000
set_option maxHeartbeats 4000000
abbrev hI(n:Int):HV:=.p (.int .i64 n)
abbrev hA(a:Area):HV:=.p (.agg [.int .i64 a.Lo,.int .i64 a.Hi,.int .i64 a.Next])
abbrev hX(x:Shape):HV:=.p (.agg [.int .i64 x.Slots,.int .i64 x.Mask])
abbrev hL(l:List r26_Object):HV:=.p (.sl l.length (l.flatMap cr26_Object))
abbrev hN(l:List Int):HV:=.p (.sl l.length (l.flatMap (cint .i64)))
abbrev hAs(l:List Area):HV:=.p (.sl l.length (l.flatMap cArea))
def lp:List Nat:=[17,19,21,23,26,29,30,32,35,67,74,82,85,98,113,117]
def lw:List Nat:=[18,22,24,27,64,65,66,70,71,72,73,76,77,78,79,80,81,115,116]
noncomputable def KP:HCalls:=orK (pureK (pureC T lp)) (lentC (pureC T lp))
structure KPu (K:HCalls):Prop where
 pu:∀f,lp.contains f=true->K f=KP f
structure KB (K:HCalls):Prop extends KPu K where
 no:∀f,lw.contains f=true->∀ws st,K f ws st=Option.none
variable {K:HCalls}
theorem KPu.known(B:KPu K){f:Nat}(hf:lp.contains f=true){ws vs:List PV}{v x:PV}{outs:List PV}(hz:frzL ws=some vs)(h:evI T f vs=some (v,outs))(hw:vs.all PV.loose=true)(hx:frz v=some x)(hl:x.loose=true)(n:Nat)(st:HSt):
 evHF C0 K TH (n+1) f (ws.map .p) st=some (.p x,st):=by
 have e:K f (ws.map .p) st=some (.p x,st):=by
  rw[B.pu f hf]
  have ha:∀ws:List PV,allP (ws.map HV.p)=some ws:=fun ws=>by
   induction ws with
   | nil=>rfl
   | cons w ws ih=>simp[allP,ih]
  have hc:pureC T lp f vs=some (v,outs):=by unfold pureC;rw[if_pos hf,h]
  unfold KP orK pureK
  simp only[ha,hz,hw,if_true,hc,hx,hl]
 rw[yg1,e,yby]
theorem k35(B:KPu K){a m:Int}{x:Shape}(h:l12_Shape a m=some x)(n:Nat)(st:HSt):evHF C0 K TH (n+1) 35 [hI a,.p (.int .u16 m)] st=some (hX x,st):=
 B.known (f:=35) rfl (ws:=[.int .i64 a,.int .u16 m]) rfl (yif a m x h) rfl rfl rfl n st
theorem k23(B:KPu K){x:Shape}(hx:OkSh x)(i:Int)(n:Nat)(st:HSt):evHF C0 K TH (n+1) 23 [hX x,hI i] st=some (.p (.bool (ptB x i)),st):=
 B.known (f:=23) rfl (ws:=[.agg [.int .i64 x.Slots,.int .i64 x.Mask],.int .i64 i]) rfl (yfM x i _ ((yiZ hx i).trans (yd7 hx i))) rfl rfl rfl n st
theorem k98(B:KPu K){x:Shape}(hx:OkSh x)(i:Int)(n:Nat)(st:HSt):evHF C0 K TH (n+1) 98 [hX x,hI i] st=some (.p (.bool (ptB x i)),st):=
 B.known (f:=98) rfl (ws:=[.agg [.int .i64 x.Slots,.int .i64 x.Mask],.int .i64 i]) rfl (yex x i _ (yd7 hx i)) rfl rfl rfl n st
theorem yrZ(B:KPu K){x:Shape}(hx:OkSh x)(n:Nat)(st:HSt):evHF C0 K TH (n+1) 113 [hX x] st=some (hI (hdB x),st):=
 B.known (f:=113) rfl (ws:=[.agg [.int .i64 x.Slots,.int .i64 x.Mask]]) rfl (yg4 x _ (yi0 hx)) rfl rfl rfl n st
theorem k74(B:KPu K){x:Shape}(hx:OkSh x)(n:Nat)(st:HSt):evHF C0 K TH (n+1) 74 [hI (hdB x)] st=some (.p (.tup [.agg [.int .i64 x.Slots,.int .i64 x.Mask],.int .i64 0]),st):=
 B.known (f:=74) rfl (ws:=[.int .i64 (hdB x)]) rfl (yiW _ _ (yqs hx)) rfl rfl rfl n st
theorem k67(B:KPu K)(a:Area)(p:Int)(n:Nat)(st:HSt):evHF C0 K TH (n+1) 67 [hA a,hI p] st=some (.p (.bool (decide (a.Lo<=p)&&decide (p<a.Next))),st):=
 B.known (f:=67) rfl (ws:=[.agg [.int .i64 a.Lo,.int .i64 a.Hi,.int .i64 a.Next],.int .i64 p]) rfl (yiY a p _ rfl) rfl rfl rfl n st
theorem k21(B:KPu K){l:List r26_Object}{p r:Int}(h:r26_Find l p=some r)(n:Nat)(st:HSt):evHF C0 K TH (n+1) 21 [hL l,hI p] st=some (hI r,st):=
 B.known (f:=21) rfl (ws:=[.sl l.length (l.flatMap cr26_Object),.int .i64 p]) rfl (yfy l p r h) rfl rfl rfl n st
theorem k26(B:KPu K){l:List r26_Object}{a:Area}{r:List Int}(h:r26_Starts l a=some r)(n:Nat)(st:HSt):evHF C0 K TH (n+1) 26 [hL l,hA a] st=some (hN r,st):=
 B.known (f:=26) rfl (ws:=[.sl l.length (l.flatMap cr26_Object),.agg [.int .i64 a.Lo,.int .i64 a.Hi,.int .i64 a.Next]]) rfl (yg6 l a r h) rfl rfl rfl n st
theorem yK{n:Int}(h:-9223372036854775808<=n/\n<=9223372036854775807):IntKind.i64.wrap n=n:=ydS h.1 (by omega)
theorem wrN{i:Nat}(h:i<140737488355328):IntKind.wrap .i64 ((i:Int)+1)=((i+1:Nat):Int):=by
 rw[ydS (by omega) (by omega)];omega
structure SpaceAt (st:HSt) (sp wb:Nat) (ws:List Int):Prop where
 s:st[sp]? = some (.box [.row wb 0 ws.length 1])
 w:st[wb]? = some (.row 1 ws.length (ws.map fun n=>.p (.int .i64 n)))
abbrev wRow(ws:List Int):HB:=.row 1 ws.length (ws.map fun n=>.p (.int .i64 n))
theorem SpaceAt.lt{st:HSt}{sp wb:Nat}{ws:List Int}(h:SpaceAt st sp wb ws):sp<st.length/\wb<st.length/\sp≠wb:=by
 refine⟨(Ad.1 h.s).1,(Ad.1 h.w).1,fun e=>?_⟩
 have h1:=h.s
 have h2:=h.w
 rw[e,h2] at h1
 simp at h1
theorem SpaceAt.app{st:HSt}{sp wb:Nat}{ws:List Int}(h:SpaceAt st sp wb ws)(g:HSt):SpaceAt (st++g) sp wb ws:=by
 obtain⟨h1,h2,_⟩:=h.lt
 exact⟨by rw[Aj h1];exact h.s,by rw[Aj h2];exact h.w⟩
theorem SpaceAt.set{st:HSt}{sp wb:Nat}{ws:List Int}(h:SpaceAt st sp wb ws)(ws':List Int)(hl:ws'.length=ws.length):SpaceAt (st.set wb (wRow ws')) sp wb ws':=by
 obtain⟨h1,h2,h3⟩:=h.lt
 exact⟨by rw[Ar (by omega),h.s,hl],by rw[Bk h2]⟩
structure Keeps (wb:Nat) (st st':HSt):Prop where
 len:st.length<=st'.length
 get:∀i,i<st.length->i≠wb->st'[i]? = st[i]?
theorem Keeps.refl(wb:Nat)(st:HSt):Keeps wb st st:=⟨Av _,fun _ _ _=>rfl⟩
theorem Keeps.trans{wb:Nat}{a b c:HSt}(h:Keeps wb a b)(h':Keeps wb b c):Keeps wb a c:=
 ⟨B5 h.len h'.len,fun i hi hn=>(h'.get i (Bo hi h.len) hn).trans (h.get i hi hn)⟩
theorem Keeps.app(wb:Nat)(st g:HSt):Keeps wb st (st++g):=⟨by simp,fun i hi _=>Aj hi⟩
theorem Keeps.set(wb:Nat)(st:HSt)(x:HB):Keeps wb st (st.set wb x):=⟨by simp,fun i hi hn=>Ar (fun e=>hn e.symm)⟩
theorem Keeps.some{wb i:Nat}{st st':HSt}{x:HB}(h:Keeps wb st st')(hx:st[i]? = Option.some x)(hn:i≠wb):st'[i]? = Option.some x:=by
 rw[h.get i (Ad.1 hx).1 hn,hx]
theorem e24(B:KB K){st:HSt}{sp wb:Nat}{ws:List Int}(S:SpaceAt st sp wb ws)(a s:Int)(i:Nat)(h0:0<=a/\0<=s)(hi:a+1+s=(i:Int))(hb:i<140737488355328)(v:Int)(hv:ws[i]? = some v)(n:Nat):
 evHF C0 K TH (n+20) 24 [.ptr sp 0,hI a,hI s] st=some (hI v,st):=by
 have w1:=@yK (a+1) (by omega)
 have w2:IntKind.i64.wrap (a+1+s)=(i:Int):=by rw[yK (by omega),hi]
 have hl:i<ws.length:=(Ad.1 hv).1
 have e1:=S.s
 have e2:=S.w
 have e3:ws[i]=v:=(Ad.1 hv).2
 have e4:i+1<=ws.length:=by omega
 refine yD (n:=n+19) (B.no 24 rfl) (x:=h24) rfl rfl ?_
 simp (config:={ maxSteps:=4000000 }) [↓yg,↓yc,yl,h24,w1,w2,e1,e2,hl,hv,e3,e4]
theorem e66(B:KB K){st:HSt}{sp wb:Nat}{ws:List Int}(S:SpaceAt st sp wb ws)(a s v:Int)(i:Nat)(h0:0<=a/\0<=s)(hi:a+1+s=(i:Int))(hb:i<140737488355328)(hl:i<ws.length)(n:Nat):
 evHF C0 K TH (n+20) 66 [.ptr sp 0,hI a,hI s,hI v] st=some (.p (.tup []),st.set wb (wRow (ws.set i v))):=by
 have w1:=@yK (a+1) (by omega)
 have w2:IntKind.i64.wrap (a+1+s)=(i:Int):=by rw[yK (by omega),hi]
 have e1:=S.s
 have e2:=S.w
 have e3:i+1<=ws.length:=by omega
 refine yD (n:=n+19) (B.no 66 rfl) (x:=h66) rfl rfl ?_
 simp (config:={ maxSteps:=4000000 }) [↓yg,↓yc,yl,h66,w1,w2,e1,e2,hl,e3,wRow,List.map_set,Ba]
theorem e22(B:KB K){st:HSt}{sp wb:Nat}{ws:List Int}(S:SpaceAt st sp wb ws)(i:Nat)(h0:0<i){x:Shape}(hx:OkSh x)(hv:ws[i]? = some (hdB x))(n:Nat):
 evHF C0 K TH (n+30) 22 [.ptr sp 0,hI i] st=some (.p (.tup [.agg [.int .i64 x.Slots,.int .i64 x.Mask],.int .i64 0]),st++[.box [hI x.Slots,hI x.Mask]]):=by
 have hl:i<ws.length:=(Ad.1 hv).1
 have e1:=S.s
 have e2:=S.w
 have f1:=fun g=>(S.app g).s
 have f2:=fun g=>(S.app g).w
 have e3:ws[i]=hdB x:=(Ad.1 hv).2
 have e4:i+1<=ws.length:=by omega
 have e5:¬(i:Int)<1:=by omega
 have e6:¬ws.length<=i:=by omega
 have e7:=fun n st=>k74 B.toKPu hx n st
 refine yD (n:=n+29) (B.no 22 rfl) (x:=h22) rfl rfl ?_
 simp (config:={ maxSteps:=4000000 }) [↓yg,↓yc,yl,h22,e1,e2,f1,f2,hl,hv,e3,e4,e5,e6,e7]
open Go
set_option maxRecDepth 10000
set_option maxHeartbeats 4000000
variable {K:HCalls}
def zer:Nat->Nat->List Int->List Int
 | _,0,ws=>ws
 | i,k+1,ws=>zer (i+1) k (ws.set i 0)
theorem yi1:∀(k i:Nat) (ws:List Int),(zer i k ws).length=ws.length
 | 0,_,_=>rfl
 | k+1,i,ws=>by simp[zer,yi1 k]
theorem ymT{st:HSt}{i:Nat}{x:HB}(h:st[i]? = some x):st.set i x=st:=by
 apply List.ext_getElem?
 intro j
 by_cases hj:i=j
 ·subst hj;rw[Bk (Ad.1 h).1,h]
 ·rw[Ar hj]
def env65(sp p4 p5 p6 at' n i:Nat):HEnv:=[(0,.ptr sp 0),(4,.ptr p4 0),(5,.ptr p5 0),(6,.ptr p6 0),(8,.p (.int .i64 at')),(31,.p (.int .i64 n)),(32,.p (.int .i64 i))]
theorem ypt(sp wb p4 p5 p6 at' n:Nat)(hn:n<1000):
 ∀(k i:Nat) (ws:List Int) (s:HSt),n-i=k->i<=n->at'+1+n<=ws.length->ws.length<140737488355328->SpaceAt s sp wb ws ->
  Run C0 K TH (.loop h65l0 [0,4,5,6,8,31,32]) (env65 sp p4 p5 p6 at' n i,s) (.exit 0) ([(4,.ptr p4 0),(5,.ptr p5 0),(6,.ptr p6 0),(8,.p (.int .i64 at'))],s.set wb (.row 1 ws.length ((zer (at'+1+i) k ws).map fun n=>.p (.int .i64 n)))):=by
 intro k
 induction k with
 | zero=>
   intro i ws s hk hi hw hb S
   have hlt:¬i<n:=by omega
   have e1:s.set wb (.row 1 ws.length ((zer (at'+1+i) 0 ws).map fun n=>.p (.int .i64 n)))=s:=by rw[zer];exact ymT S.w
   rw[e1]
   refine Run.loopX (Run.of 40 ?_) (by simp)
   simp (config:={ maxSteps:=4000000 }) [↓yg,↓yc,yl,h65l0,env65,hlt]
 | succ k ih=>
   intro i ws s hk hi hw hb S
   have hlt:i<n:=by omega
   have e1:=S.s
   have e2:=S.w
   have w1:=wrN (i:=i) (by omega)
   have hr0:=ih (i+1)
   rw[zer]
   rw[show at'+1+(i+1)=at'+1+i+1 by omega] at hr0
   obtain⟨j,hj⟩:∃j,at'+1+i=j:=⟨_,rfl⟩
   rw[hj] at hr0 ⊢
   have w2:IntKind.wrap .i64 ((at':Int)+1)=(at':Int)+1:=ydS (by omega) (by omega)
   have w3:IntKind.wrap .i64 ((at':Int)+1+(i:Int))=(j:Int):=by rw[ydS (by omega) (by omega)];omega
   have e3:j<ws.length:=by omega
   have e4:j+1<=ws.length:=by omega
   have S2:=S.set (ws.set j 0) (by simp)
   have hr:=hr0 (ws.set j 0) _ (by omega) (by omega) (by simpa using hw) (by simpa using hb) S2
   rw[List.set_set,Ba] at hr
   have hs:Run C0 K TH h65l0 (env65 sp p4 p5 p6 at' n i,s) .norm (env65 sp p4 p5 p6 at' n (i+1),s.set wb (wRow (ws.set j 0))):=by
    refine Run.of 40 ?_
    simp (config:={ maxSteps:=4000000 }) [↓yg,↓yc,yl,h65l0,env65,hlt,e1,e2,w1,w2,w3,e3,e4,wRow,List.map_set,Ba]
   exact Run.loopN hs hr
theorem yr0(B:KB K){st:HSt}{sp:Nat}(a:Area)(x:Shape)(h0:-4611686018427387904<=a.Hi-a.Next/\a.Hi-a.Next<=4611686018427387904)(h1:OkSh x)(h:a.Hi-a.Next<1+x.Slots)(n:Nat):
 evHF C0 K TH (n+40) 65 [.ptr sp 0,hA a,hX x] st =
  some (.p (.tup [.agg [.int .i64 a.Lo,.int .i64 a.Hi,.int .i64 a.Next],.int .i64 0]),st++[.box [hI a.Lo,hI a.Hi,hI a.Next],.box [hI x.Slots,hI x.Mask],.box [hI a.Lo,hI a.Hi,hI a.Next]]):=by
 obtain⟨h2,h3,_⟩:=h1
 have w1:=@yK (a.Hi-a.Next) (by omega)
 have w2:=@yK (1+x.Slots) (by omega)
 refine yD (n:=n+39) (B.no 65 rfl) (x:=h65) rfl rfl ?_
 simp (config:={ maxSteps:=4000000 }) [↓yg,↓yc,yl,h65,w1,w2,h]
def mkW(ws:List Int)(at':Nat)(x:Shape):List Int:=zer (at'+1) x.Slots.toNat (ws.set at' (hdB x))
theorem yi2(ws:List Int)(at':Nat)(x:Shape):(mkW ws at' x).length=ws.length:=by simp[mkW,yi1]
theorem e65(B:KB K){st:HSt}{sp wb:Nat}{ws:List Int}(S:SpaceAt st sp wb ws)(hb:ws.length<140737488355328)(a:Area)(at':Nat)(ha:a.Next=at')(x:Shape)(h0:-4611686018427387904<=a.Hi-a.Next/\a.Hi-a.Next<=4611686018427387904)(h1:OkSh x)
 (h:¬a.Hi-a.Next<1+x.Slots)(hw:at'+1+x.Slots.toNat<=ws.length):
 ∃n0,∀n,n0<=n->evHF C0 K TH n 65 [.ptr sp 0,hA a,hX x] st =
  some (.p (.tup [.agg [.int .i64 a.Lo,.int .i64 a.Hi,.int .i64 (a.Next+(1+x.Slots))],.int .i64 a.Next]),st.set wb (wRow (mkW ws at' x)) ++
   [.box [hI a.Lo,hI a.Hi,hI (a.Next+(1+x.Slots))],.box [hI x.Slots,hI x.Mask],.box [hI a.Lo,hI a.Hi,hI (a.Next+(1+x.Slots))]]):=by
 have hx:=h1
 obtain⟨h2,h3,_⟩:=h1
 obtain⟨xs,xm⟩:=x
 obtain⟨lo,hi,nx⟩:=a
 simp only at *
 subst ha
 obtain⟨s,rfl⟩:∃s:Nat,xs=s:=⟨xs.toNat,by omega⟩
 have w1:=@yK (hi-at') (by omega)
 have w2:=@yK (1+(s:Int)) (by omega)
 have w3:=@yK ((at':Int)+(1+s)) (by omega)
 obtain⟨l1,l2,l3⟩:=S.lt
 have f1:=fun g=>(S.app g).s
 have f2:=fun g=>(S.app g).w
 have f3:∀(g:HSt) (x:HB),(st++g).set wb x=st.set wb x++g:=fun g x=>A6 _ _ l2
 have f4:∀(x:HB) (g:HSt) (k:Nat),(st.set wb x++g)[st.length+k]? = g[k]?:=fun x g k=>by
  have:=ym (st.set wb x) g k;rwa [Ba] at this
 have f4':∀(x:HB) (g:HSt),(st.set wb x++g)[st.length]? = g[0]?:=fun x g=>f4 x g 0
 have f5:∀(x:HB) (g:HSt) (k:Nat) (y:HB),(st.set wb x++g).set (st.length+k) y=st.set wb x++g.set k y:=fun x g k y=>by
  have:=yfn (st.set wb x) g k y;rwa [Ba] at this
 have f5':∀(x:HB) (g:HSt) (y:HB),(st.set wb x++g).set st.length y=st.set wb x++g.set 0 y:=fun x g y=>f5 x g 0 y
 have e3:at'<ws.length:=by omega
 have e4:at'+1<=ws.length:=by omega
 have S2:=(S.set (ws.set at' (hdB ⟨s,xm⟩)) (by simp)).app [.box [hI lo,hI hi,hI at'],.box [hI s,hI xm],.box [hI 0,hI 0,hI 0]]
 have L:=ypt (K:=K) sp wb st.length (st.length+1) (st.length+2) at' s (by omega) s 0 (ws.set at' (hdB ⟨s,xm⟩)) _ (by omega) (by omega) (by simp;omega) (by simpa using hb) S2
 rw[A6 _ _ (by simpa using l2),List.set_set,Ba] at L
 obtain⟨n0,hn0⟩:=Run.all L
 simp[env65,wRow,List.map_set] at hn0
 have e7:=fun n st=>yrZ B.toKPu hx n st
 refine⟨n0+60,fun n hn=>?_⟩
 refine yz hn _ _ _ _ (yD (n:=n0+59) (B.no 65 rfl) (x:=h65) rfl rfl ?_)
 simp (config:={ maxSteps:=4000000 }) [↓yg,↓yc,yl,h65,w1,w2,w3,f1,f2,f3,f4,f4',f5,f5',h,e7,e3,e4,hn0,wRow,mkW,yi1,Bq,List.map_set]
open Go
set_option maxRecDepth 10000
set_option maxHeartbeats 4000000
noncomputable def levA(K:HCalls)(l:List Nat):HCalls:=fun f ws st=>if l.contains f then evHI C0 K TH f ws st else Option.none
noncomputable def lev(K:HCalls)(l li:List Nat):HCalls:=orK (levA K l) (orK (iceC (evHI C0 K TH) li) K)
theorem yaM{K:HCalls}{l li:List Nat}{f:Nat}(h:l.contains f=false)(h':li.contains f=false):lev K l li f=K f:=by
 funext ws st
 unfold lev orK levA iceC
 simp only[h,h',Al,if_false]
theorem ykr{K:HCalls}{l li:List Nat}{f:Nat}(h:l.contains f=true){ws:List HV}{st st':HSt}{r:HV}(n:Nat)(e:evHF C0 K TH n f ws st=some (r,st')):lev K l li f ws st=some (r,st'):=by
 unfold lev orK levA
 simp only[h,if_true,ycx.2 ⟨n,e⟩]
theorem yfD{K:HCalls}{l li:List Nat}{f:Nat}(h:l.contains f=false)(h':li.contains f=true){ws:List HV}{st st':HSt}{r r':HV}(n:Nat)(e:evHF C0 K TH n f ws st=some (r,st'))(hi:iceV st' (rowsH st' 4 r) 4 r=some r'):lev K l li f ws st=some (r',killD (rowsH st' 4 r) st'):=by
 unfold lev orK levA iceC
 simp only[h,h',Al,if_false,if_true,ycx.2 ⟨n,e⟩,hi]
theorem ylz{P:Program}(hm:P.follows .mixedOrders=true)(hT:TOkH P TH){K:HCalls}(hK:HCallOk P K)(l li:List Nat):HCallOk P (lev K l li):=by
 have h1:=ygw hm (yn3 (P:=P)) hK hT
 refine yjM (fun f ws st r st' e=>?_) (yjM (yn6 h1 li) hK)
 unfold levA at e
 split at e
 ·exact h1 f ws st r st' e
 ·cases e
theorem yW{K:HCalls}{f:Nat}{ws:List HV}{st st':HSt}{r:HV}(e:K f ws st=some (r,st'))(n:Nat):evHF C0 K TH (n+1) f ws st=some (r,st'):=by
 rw[yg1,e,yby]
theorem ycB{st:HSt}{D:List Nat}{k:Nat}:∀{vs:List PV},(∀v∈vs,v.free=true)->allO (rdD st D k) (vs.map HV.p)=some vs
 | [],_=>rfl
 | v::vs,h=>by
   have e1:rdD st D k (.p v)=some v:=by
    have:=h v (by simp)
    cases k <;> simp[rdD,this]
   have e2:=ycB (st:=st) (D:=D) (k:=k) (vs:=vs) fun w hw=>h w (Cs _ hw)
   simp only[Bu,allO,e1,e2]
theorem yjN{α β:Type}{f:α->Option β}:∀{xs ys:List α} {us vs:List β},allO f xs=some us->allO f ys=some vs->allO f (xs++ys)=some (us++vs)
 | [],ys,us,vs,h,h'=>by simp only[allO,Af] at h;subst h;exact h'
 | x::xs,ys,us,vs,h,h'=>by
   simp only[allO] at h
   split at h
   ·rename_i a ars ha has
    obtain rfl:=Ag h
    simp only[Bx,allO,ha,yjN has h']
   ·cases h
theorem ybn{st:HSt}(k:Nat)(v:PV):rowsV st k (.p v)=[]:=by cases k <;> simp[rowsV]
theorem yaN{st:HSt}(k:Nat):∀vs:List PV,(vs.map HV.p).flatMap (rowsV st k)=[]
 | []=>rfl
 | v::vs=>by simp[ybn,yaN k vs]
theorem ycC{st:HSt}(k:Nat)(v:PV):rowsH st k (.p v)=[]:=by cases k <;> simp[rowsH,rowsV]
theorem ycD:∀(D:List Nat) (st g:HSt),(∀a∈D,st.length<=a)->∃g',killD D (st++g)=st++g'
 | [],st,g,_=>⟨g,rfl⟩
 | a::D,st,g,h=>by
   rw[killD,Ch _ _ (h a (by simp))]
   exact ycD D st _ fun b hb=>h b (by simp[hb])
theorem ybg(n:Nat):∀x∈rep n [PV.int .i64 0],PV.free x=true:=by
 induction n with
 | zero=>intro x h;cases h
 | succ n ih=>
   intro x h
   rcases Bl.1 h with h|h
   ·simp at h;subst h;rfl
   ·exact ih x h
theorem yik(n:Nat):rep n [PV.int .i64 0]=(List.replicate n (0:Int)).flatMap (cint .i64):=by
 induction n with
 | zero=>rfl
 | succ n ih=>rw[List.replicate_succ,Bn,←ih];rfl
theorem ylA(n:Nat):(rep n [PV.int .i64 0]).length=n:=by
 rw[yik];simp[cint]
theorem ybo(l:List r26_Object):∀v∈l.flatMap cr26_Object,v.free=true:=by
 intro v hv
 obtain⟨o,ho,hv⟩:=Cd.1 hv
 simp only[cr26_Object,Bi,B8,or_false] at hv
 rcases hv with rfl|rfl|rfl|rfl<;>rfl
theorem ybz(l:List r26_Object):(l.flatMap cr26_Object).length=l.length*4:=by
 induction l with
 | nil=>rfl
 | cons o l ih=>rw[Bn,Bj,ih];simp[cr26_Object];omega
theorem yno(vs:List PV)(h:∀v∈vs,v.free=true):∀c∈vs.map HV.p,HV.one c=true:=by
 intro c hc
 obtain⟨v,hv,rfl⟩:=Bm.1 hc
 have:=h v hv
 cases v<;>simp_all [HV.one,PV.free]
theorem ifP{v:PV}(h:v.free=true){k:Nat}{st:HSt}{D:List Nat}:rdD st D k (.p v)=some v:=by cases k <;> simp[rdD,h]
variable {K:HCalls}
theorem yqt(hk:∀ws st,K 114 ws st = .none){st:HSt}(l:List r26_Object)(a:Area)(x:Shape)(h0:0<=a.Next/\a.Next<1000000000)(h1:OkSh x)(h:a.Hi<a.Next+1+x.Slots)(n:Nat):
 ∃g,evHF C0 K TH (n+40) 114 [hL l,hA a,hX x] st=some (.p (.tup [.sl l.length (l.flatMap cr26_Object),.agg [.int .i64 a.Lo,.int .i64 a.Hi,.int .i64 a.Next],.bool false]),st++g):=by
 obtain⟨h2,h3,_⟩:=h1
 have w1:=@yK (a.Next+1) (by omega)
 have w2:=@yK (a.Next+1+x.Slots) (by omega)
 apply Exists.intro
 refine yD (n:=n+39) hk (x:=h114) rfl rfl ?_
 simp (config:={ maxSteps:=4000000 }) [↓yg,↓yc,yl,h114,w1,w2,h]
 all_goals exact rfl
theorem ymU(hk:∀ws st,K 114 ws st = .none){st:HSt}(l:List r26_Object)(hl:l.length<100000)(a:Area)(x:Shape)(h0:0<=a.Next/\a.Next<1000000000)(h1:OkSh x)(h:¬a.Hi<a.Next+1+x.Slots):
 ∃g b hs,(∀n,evHF C0 K TH (n+60) 114 [hL l,hA a,hX x] st =
  some (.tup [.row b 0 (l.length+1) 4,.p (.agg [.int .i64 a.Lo,.int .i64 a.Hi,.int .i64 (a.Next+1+x.Slots)]),.p (.bool true)],st++g))/\st.length<=b /\
  (st++g)[b]? = some (.row 4 (l.length+1) ((l.flatMap cr26_Object).map .p++[hI a.Next,hI x.Slots,hI x.Mask,hs])) /\
  ((x.Slots.toNat=0/\hs = .p (.sl 0 []))\/∃p,st.length<=p/\0<x.Slots.toNat/\hs = .row p 0 x.Slots.toNat 1/\(st++g)[p]? = some (.row 1 x.Slots.toNat ((rep x.Slots.toNat [.int .i64 0]).map .p))):=by
 obtain⟨h2,h3,_⟩:=h1
 obtain⟨xs,xm⟩:=x
 obtain⟨lo,hi,nx⟩:=a
 simp only at *
 obtain⟨s,rfl⟩:∃s:Nat,xs=s:=⟨xs.toNat,by omega⟩
 have w1:=@yK (nx+1) (by omega)
 have w2:=@yK (nx+1+s) (by omega)
 have n1:s*8<=1099511627776:=by omega
 have n2:s<=1099511627776:=by omega
 have n4:(rep s [PV.int .i64 0]).all PV.free=true:=Ax.2 (ybg s)
 have n5:(∀x∈rep s [PV.int .i64 0],PV.free x=true)=True:=eq_true (ybg s)
 simp only[Bq]
 have c6:(l.flatMap cr26_Object).length=l.length*4:=ybz l
 obtain⟨k,hk1⟩:∃k,l.length=k:=⟨_,rfl⟩
 obtain⟨ocs,ho⟩:∃ocs,l.flatMap cr26_Object=ocs:=⟨_,rfl⟩
 have o5:=yno _ (ybo l)
 rw[ho] at c6 o5
 rw[hk1] at c6 hl
 simp only[hL]
 rw[hk1,ho]
 have o6:(∀x∈ocs,HV.one (.p x)=true)=True:=eq_true fun x hx=>o5 _ (Bm.2 ⟨x,hx,rfl⟩)
 have o7:(∀x∈ocs,PV.free x=true)=True:=eq_true fun x hx=>ybo l x (by rw[ho];exact hx)
 have c1:k*48<=1099511627776:=by omega
 have c2:k<=1099511627776:=by omega
 have c3:(k+1)*48<=1099511627776:=by omega
 have c4:k+1<=1099511627776:=by omega
 have c7:(k*4=ocs.length)=True:=eq_true c6.symm
 have c9:k*4<=ocs.length:=by omega
 have c8:(ocs.map HV.p).take (k*4)=ocs.map HV.p:=Aw (by simp;omega)
 by_cases hk0:k=0
 ·subst hk0
  have:ocs=[]:=A3 (by omega)
  subst this
  by_cases hs:s=0
  ·have hs':(s=0)=True:=eq_true hs
   apply Exists.intro
   apply Exists.intro
   apply Exists.intro
   refine⟨fun n=>yD (n:=n+59) hk (x:=h114) rfl rfl ?_,?_,?_,?_⟩
   ·simp (config:={ maxSteps:=4000000 }) [↓yg,↓yc,yl,h114,w1,w2,h,hs',n1,n2]
    all_goals exact⟨rfl,rfl⟩
   ·omega
   ·rw[ym];rfl
   ·exact .inl ⟨hs,rfl⟩
  ·have hs':(s=0)=False:=eq_false hs
   apply Exists.intro
   apply Exists.intro
   apply Exists.intro
   refine⟨fun n=>yD (n:=n+59) hk (x:=h114) rfl rfl ?_,?_,?_,?_⟩
   ·simp (config:={ maxSteps:=4000000 }) [↓yg,↓yc,yl,h114,w1,w2,h,hs',n1,n2,n4,n5]
    all_goals exact⟨rfl,rfl⟩
   ·omega
   ·rw[ym];rfl
   ·exact .inr ⟨_,by omega,by omega,rfl,by rw[ym];rfl⟩
 ·have hk0':0<k:=by omega
  by_cases hs:s=0
  ·have hs':(s=0)=True:=eq_true hs
   apply Exists.intro
   apply Exists.intro
   apply Exists.intro
   refine⟨fun n=>yD (n:=n+59) hk (x:=h114) rfl rfl ?_,?_,?_,?_⟩
   ·simp (config:={ maxSteps:=4000000 }) [↓yg,↓yc,yl,h114,w1,w2,h,hs',n1,n2,c1,c2,c3,c4,c6,c7,c8,c9,hk0,hk0',o6,o7]
    all_goals exact⟨rfl,rfl⟩
   ·omega
   ·rw[ym];rfl
   ·exact .inl ⟨hs,rfl⟩
  ·have hs':(s=0)=False:=eq_false hs
   apply Exists.intro
   apply Exists.intro
   apply Exists.intro
   refine⟨fun n=>yD (n:=n+59) hk (x:=h114) rfl rfl ?_,?_,?_,?_⟩
   ·simp (config:={ maxSteps:=4000000 }) [↓yg,↓yc,yl,h114,w1,w2,h,hs',n1,n2,n4,n5,c1,c2,c3,c4,c6,c7,c8,c9,hk0,hk0',o6,o7]
    all_goals exact⟨rfl,rfl⟩
   ·omega
   ·rw[ym];rfl
   ·exact .inr ⟨_,by omega,by omega,rfl,by rw[ym];rfl⟩
open Go
set_option maxRecDepth 10000
set_option maxHeartbeats 4000000
theorem ybF{st:HSt}{D:List Nat}{k a off len sz n:Nat}{cs:List HV}{vs:List PV}(hD:D.contains a=true)(h:st[a]? = some (.row sz n cs))(hle:off+len*sz<=cs.length)(hv:allO (rdD st D k) ((cs.drop off).take (len*sz))=some vs):
 rdD st D (k+1) (.row a off len sz)=some (.sl len vs):=by
 simp only[rdD,hD,if_true,h,hle,and_self,hv,An]
theorem yau{st:HSt}{k a off len sz n:Nat}{cs:List HV}(h:st[a]? = some (.row sz n cs)):rowsV st (k+1) (.row a off len sz)=a::((cs.drop off).take (len*sz)).flatMap (rowsV st k):=by
 simp only[rowsV,h]
def newO(a:Area)(x:Shape):r26_Object:=⟨a.Next,x,List.replicate x.Slots.toNat 0⟩
variable {K:HCalls}
theorem yr1{l li:List Nat}(h1:l.contains 114=false)(h2:li.contains 114=true)(hk:∀ws st,K 114 ws st = .none)(os:List r26_Object)(hl:os.length<100000)(a:Area)(x:Shape)(h0:0<=a.Next/\a.Next<1000000000)(hx:OkSh x)(h:¬a.Hi<a.Next+1+x.Slots)(st:HSt):
 ∃g,lev K l li 114 [hL os,hA a,hX x] st=some (.p (.tup [.sl (os++[newO a x]).length ((os++[newO a x]).flatMap cr26_Object),.agg [.int .i64 a.Lo,.int .i64 a.Hi,.int .i64 (a.Next+1+x.Slots)],.bool true]),st++g):=by
 obtain⟨g,b,hs,e1,hb,e2,e3⟩:=ymU (K:=K) hk (st:=st) os hl a x h0 hx h
 have hc:=ybz os
 have e2':rowsV (st++g) 3 (.row b 0 (os.length+1) 4)=b::rowsV (st++g) 2 hs:=by
  rw[yau e2,A5,Aw (by simp[hc];omega),Cp,yaN]
  simp[ybn]
 have e4:rowsH (st++g) 4 (.tup [.row b 0 (os.length+1) 4,.p (.agg [.int .i64 a.Lo,.int .i64 a.Hi,.int .i64 (a.Next+1+x.Slots)]),.p (.bool true)])=b::rowsV (st++g) 2 hs:=by
  simp only[rowsH,Bn,List.flatMap_nil,ybn,Br,e2']
 have e5:∀c∈b::rowsV (st++g) 2 hs,st.length<=c:=by
  intro c hc
  rcases Bi.1 hc with rfl|hc
  ·exact hb
  ·rcases e3 with⟨_,rfl⟩|⟨p,hp,_,rfl,e6⟩
   ·simp[ybn] at hc
   ·rw[yau e6,A5] at hc
    rcases Bi.1 hc with rfl|hc
    ·exact hp
    ·rw[←List.map_take,yaN] at hc;cases hc
 have e7:rdD (st++g) (b::rowsV (st++g) 2 hs) 3 hs=some (.sl x.Slots.toNat ((List.replicate x.Slots.toNat (0:Int)).flatMap (cint .i64))):=by
  rcases e3 with⟨h3,rfl⟩|⟨p,hp,_,rfl,e6⟩
  ·rw[h3];rfl
  ·rw[←yik]
   refine ybF (by rw[yau e6];simp) e6 (by simp[ylA]) ?_
   rw[A5,Aw (by simp[ylA])]
   exact ycB (ybg _)
 obtain⟨g',e8⟩:=ycD _ st g e5
 refine⟨g',?_⟩
 have e9:rdD (st++g) (b::rowsV (st++g) 2 hs) 4 (.row b 0 (os.length+1) 4)=some (.sl (os++[newO a x]).length ((os++[newO a x]).flatMap cr26_Object)):=by
  rw[Bj,Cp]
  refine ybF (by simp) e2 (by simp[hc];omega) ?_
  rw[A5,Aw (by simp[hc];omega)]
  refine yjN (ycB (ybo os)) ?_
  simp only[allO,ifP (show PV.free (.int .i64 a.Next)=true from rfl),ifP (show PV.free (.int .i64 x.Slots)=true from rfl),ifP (show PV.free (.int .i64 x.Mask)=true from rfl),e7]
  simp[newO,cr26_Object]
 have:=yfD h1 h2 60 (e1 0) (r':=.p (.tup [.sl (os++[newO a x]).length ((os++[newO a x]).flatMap cr26_Object),.agg [.int .i64 a.Lo,.int .i64 a.Hi,.int .i64 (a.Next+1+x.Slots)],.bool true])) (by
  rw[e4]
  simp only[iceV,allO,e9,An]
  rfl)
 rw[this,e4,e8]
theorem yqu{l li:List Nat}(h1:l.contains 114=false)(h2:li.contains 114=true)(hk:∀ws st,K 114 ws st = .none)(os:List r26_Object)(a:Area)(x:Shape)(h0:0<=a.Next/\a.Next<1000000000)(hx:OkSh x)(h:a.Hi<a.Next+1+x.Slots)(st:HSt):
 ∃g,lev K l li 114 [hL os,hA a,hX x] st=some (.p (.tup [.sl os.length (os.flatMap cr26_Object),.agg [.int .i64 a.Lo,.int .i64 a.Hi,.int .i64 a.Next],.bool false]),st++g):=by
 obtain⟨g,e⟩:=yqt (K:=K) hk (st:=st) os a x h0 hx h 0
 exact⟨g,yfD h1 h2 40 e (by rw[ycC];rfl)⟩
theorem yr2:IntKind.i64.wrap 1=1:=by decide
theorem yr3:IntKind.i64.wrap 2=2:=by decide
theorem yr4:IntKind.i64.wrap 3=3:=by decide
theorem e64(B:KB K)(n:Nat)(a b c:Int)(st:HSt)(h:0<=a/\a<=2000000/\0<=b/\b<=2000000/\0<=c/\c<=2000000):
 ∃g,evHF C0 K TH (n+40) 64 [.row st.length 0 3 1] (st++[.row 1 3 [hI a,hI b,hI c]])=some (.tup [.ptr (st.length+8) 0,.row (st.length+6) 0 3 3],st++g)/\g.length=9 /\
  g[6]? = some (.row 3 3 [hI 1,hI (1+a),hI 1,hI (1+a),hI (1+a+b),hI (1+a),hI (1+a+b),hI (1+a+b+c),hI (1+a+b)]) /\
  g[7]? = some (wRow (List.replicate (1+a+b+c).toNat 0))/\g[8]? = some (.box [.row (st.length+7) 0 (1+a+b+c).toNat 1]):=by
 have w1:=@yK (1+a) (by omega)
 have w2:=@yK (1+a+b) (by omega)
 obtain⟨N,hN⟩:∃N:Nat,1+a+b+c=(N:Int):=⟨(1+a+b+c).toNat,by omega⟩
 have w3:IntKind.i64.wrap (1+a+b+c)=(N:Int):=by rw[yK (by omega),hN]
 have n1:N*8<=1099511627776:=by omega
 have n2:N<=1099511627776:=by omega
 have n3:N≠0:=by omega
 have n4:(rep N [PV.int .i64 0]).all PV.free=true:=Ax.2 (ybg N)
 have n5:(∀x∈rep N [PV.int .i64 0],PV.free x=true)=True:=eq_true (ybg N)
 apply Exists.intro
 refine⟨yD (n:=n+39) (B.no 64 rfl) (x:=h64) rfl rfl ?_,?_,?_,?_,?_⟩
 ·simp (config:={ maxSteps:=4000000 }) [↓yg,↓yc,yl,h64,ylm,w1,w2,w3,n1,n2,n3,n4,n5,yr2,yr3,yr4]
  all_goals exact rfl
 ·rfl
 ·rw[hN];rfl
 ·rw[hN,Bq]
  refine congrArg some ?_
  simp only[wRow,yik,Cn]
  congr 1
  simp[List.flatMap,cint]
 ·rw[hN,Bq];rfl
open Go
theorem ydj{σ ρ:Type}{body:σ->Option (Stp σ ρ)}(N:Nat)(idx:σ->Int)(I:σ->Prop)(Q:ρ->Prop)
 (h:∀s,I s->0<=idx s->idx s<=N->(∃r,body s=some (.stop r)/\Q r)\/∃s',body s=some (.next s')/\I s'/\idx s'=idx s+1/\idx s'<=N)(s:σ)(hs:I s)(h0:0<=idx s)(h1:idx s<=N):∃r,runL body s=some r/\Q r:=
 ydL (fun s=>I s/\0<=idx s/\idx s<=N) Q (fun s=>(N-idx s).toNat) (fun s ⟨hI,h0,h1⟩=>by
  rcases h s hI h0 h1 with hr|⟨s',hb,hI',hi,hN⟩
  ·exact .inl hr
  ·exact .inr ⟨s',hb,⟨hI',by omega,hN⟩,by omega⟩) s ⟨hs,h0,h1⟩
theorem yaO{α:Type}{xs:List α}{i:Int}(h0:0<=i)(h1:i<xs.length):∃x,ix xs i=some x/\xs[i.toNat]? = some x:=by
 have:i.toNat<xs.length:=by omega
 refine⟨xs[i.toNat],?_,by simp[this]⟩
 simp only[ix,if_pos h0,Bd this]
theorem wr1{i:Int}(h0:0<=i)(h1:i<140737488355328):IntKind.wrap .i64 (i+1)=i+1:=yfC (by omega) (by omega)
theorem ylB{α:Type}{xs:List α}{i:Nat}{x:α}(h:xs[i]? = some x):xs.drop i=x::xs.drop (i+1):=by
 obtain⟨hl,rfl⟩:=Ad.1 h
 rw[A8 hl]
open Go
def inA(a:Area)(p:Int):Bool:=decide (a.Lo<=p)&&decide (p<a.Next)
theorem yan{a:Area}{p:Int}:inA a p=true↔a.Lo<=p/\p<a.Next:=by simp[inA]
abbrev Key:=Int×Nat
def keyOf(o:r26_Object):Key:=(o.At,o.Slots.length)
def Chain:Int->List Key->Int->Prop
 | lo,[],hi=>lo=hi
 | lo,k::r,hi=>k.1=lo/\Chain (lo+1+k.2) r hi
theorem Chain.le:∀{ks:List Key} {lo hi:Int},Chain lo ks hi->lo<=hi
 | [],lo,hi,h=>by simp[Chain] at h;omega
 | k::r,lo,hi,h=>by have:=h.2.le;omega
theorem Chain.mem:∀{ks:List Key} {lo hi:Int},Chain lo ks hi->∀k∈ks,lo<=k.1/\k.1+1+k.2<=hi
 | k::r,lo,hi,h,j,hj=>by
   have h2:=h.2.le
   rcases Bi.1 hj with rfl|hj
   ·exact⟨by rw[h.1];omega,by rw[h.1];omega⟩
   ·have:=h.2.mem j hj
    omega
theorem Chain.app:∀{ks:List Key} {lo hi:Int} {k:Key},Chain lo ks hi->k.1=hi->Chain lo (ks++[k]) (hi+1+k.2)
 | [],lo,hi,k,h,e=>by simp only[Chain] at h;subst h;exact⟨e,rfl⟩
 | j::r,lo,hi,k,h,e=>⟨h.1,h.2.app e⟩
abbrev Apart(k k':Key):Prop:=k.1+1+k.2<=k'.1\/k'.1+1+k'.2<=k.1
structure Lay (ks:List Key) (As:List Area):Prop where
 ord:∀a∈As,0<a.Lo/\a.Lo<=a.Next/\a.Next<=a.Hi
 chain:∀a∈As,Chain a.Lo (ks.filter fun k=>inA a k.1) a.Next
 cover:∀k∈ks,∃a∈As,inA a k.1=true
 dis:As.Pairwise fun a b=>a.Hi<=b.Lo\/b.Hi<=a.Lo
 apart:ks.Pairwise Apart
theorem Lay.ext{ks:List Key}{As:List Area}(H:Lay ks As){a:Area}(ha:a∈As){k:Key}(hk:k∈ks)(h:inA a k.1=true):a.Lo<=k.1/\k.1+1+k.2<=a.Next:=
 (H.chain a ha).mem k (B7.2 ⟨hk,h⟩)
theorem Lay.pos{ks:List Key}{As:List Area}(H:Lay ks As){k:Key}(hk:k∈ks):0<k.1:=by
 obtain⟨a,ha,h⟩:=H.cover k hk
 have:=H.ord a ha
 have:=H.ext ha hk h
 omega
theorem ydM{ks:List Key}(h:ks.Pairwise Apart){i j:Nat}{k k':Key}(hi:ks[i]? = some k)(hj:ks[j]? = some k')(hn:i≠j):Apart k k':=by
 obtain⟨h1,rfl⟩:=Ad.1 hi
 obtain⟨h2,rfl⟩:=Ad.1 hj
 rcases Nat.lt_or_gt_of_ne hn with h3|h3
 ·exact List.pairwise_iff_getElem.1 h i j h1 h2 h3
 ·exact (List.pairwise_iff_getElem.1 h j i h2 h1 h3).symm
theorem yil{ks:List Key}(h:ks.Pairwise Apart){i j:Nat}{k k':Key}(hi:ks[i]? = some k)(hj:ks[j]? = some k')(e:k.1=k'.1):i=j:=by
 apply Bc
 intro hn
 have:=ydM h hi hj hn
 simp only[Apart] at this
 omega
theorem yg9{α:Type}{R:α->α->Prop}{l:List α}{x:α}(h:l.Pairwise R)(hx:∀y∈l,R y x):(l++[x]).Pairwise R:=by
 rw[Ca]
 exact⟨h,by simp,fun y hy z hz=>by rw[Be] at hz;subst hz;exact hx y hy⟩
theorem Lay.make{ks:List Key}{As:List Area}(H:Lay ks As){i:Nat}{a:Area}(ha:As[i]? = some a)(n:Nat)(h:a.Next+1+n<=a.Hi):
 Lay (ks++[(a.Next,n)]) (As.set i ⟨a.Lo,a.Hi,a.Next+1+n⟩):=by
 have ham:a∈As:=Bf ha
 obtain⟨hil,hia⟩:=Ad.1 ha
 have ho:=H.ord a ham
 have mem:∀b∈As.set i ⟨a.Lo,a.Hi,a.Next+1+n⟩,b=⟨a.Lo,a.Hi,a.Next+1+n⟩\/(∃j,j≠i/\As[j]? = some b):=fun b hb=>by
  obtain⟨j,hj⟩:=Bp hb
  by_cases e:i=j
  ·subst e;rw[Bk hil] at hj;left;simpa using hj.symm
  ·rw[Ar e] at hj;exact .inr ⟨j,fun h=>e h.symm,hj⟩
 have sep:∀b j,j≠i->As[j]? = some b->a.Hi<=b.Lo\/b.Hi<=a.Lo:=fun b j hj hb=>by
  obtain⟨h1,rfl⟩:=Ad.1 hb
  subst hia
  rcases Nat.lt_or_gt_of_ne hj with h3|h3
  ·exact (List.pairwise_iff_getElem.1 H.dis j i h1 hil h3).symm
  ·exact List.pairwise_iff_getElem.1 H.dis i j hil h1 h3
 have old:∀k∈ks,(k.1+1+k.2<=a.Next/\a.Lo<=k.1)\/k.1+1+k.2<=a.Lo\/a.Hi<=k.1:=fun k hk=>by
  obtain⟨b,hb,hin⟩:=H.cover k hk
  have he:=H.ext hb hk hin
  have hob:=H.ord b hb
  obtain⟨j,hj⟩:=Bp hb
  by_cases e:j=i
  ·subst e;rw[ha] at hj;cases hj;left;omega
  ·right;have:=sep b j e hj;omega
 have fa:(ks++[(a.Next,n)]).filter (fun k=>inA ⟨a.Lo,a.Hi,a.Next+1+n⟩ k.1)=ks.filter (fun k=>inA a k.1)++[(a.Next,n)]:=by
  rw[Cq]
  congr 1
  ·apply List.filter_congr
   intro k hk
   have:=old k hk
   simp only[inA]
   rw[Bool.eq_iff_iff]
   simp
   omega
  ·rw[List.filter_cons_of_pos]
   ·rfl
   ·rw[yan];simp only;omega
 refine⟨fun b hb=>?_,fun b hb=>?_,fun k hk=>?_,?_,?_⟩
 ·rcases mem b hb with rfl|⟨j,hj,hb⟩
  ·exact⟨ho.1,by simp only;omega,by simp only;omega⟩
  ·exact H.ord b (Bf hb)
 ·rcases mem b hb with rfl|⟨j,hj,hb⟩
  ·rw[fa];exact (H.chain a ham).app rfl
  ·have hbm:=Bf hb
   have:=H.chain b hbm
   have hob:=H.ord b hbm
   rw[Cq,List.filter_cons_of_neg,List.filter_nil,Br]
   ·exact this
   ·have:=sep b j hj hb
    rw[yan];simp only;omega
 ·rcases Bl.1 hk with hk|hk
  ·obtain⟨b,hb,hin⟩:=H.cover k hk
   obtain⟨j,hj⟩:=Bp hb
   by_cases e:j=i
   ·subst e
    rw[ha] at hj;cases hj
    refine⟨⟨a.Lo,a.Hi,a.Next+1+n⟩,List.mem_set hil _,?_⟩
    rw[yan] at hin ⊢;simp only;omega
   ·exact⟨b,Bf (i:=j) (by rw[Ar (fun h=>e h.symm)];exact hj),hin⟩
  ·simp at hk;subst hk
   refine⟨⟨a.Lo,a.Hi,a.Next+1+n⟩,List.mem_set hil _,?_⟩
   rw[yan];simp only;omega
 ·rw[List.pairwise_iff_getElem]
  intro p q hp hq hpq
  simp only[Ba] at hp hq
  rw[List.getElem_set,List.getElem_set]
  have:=List.pairwise_iff_getElem.1 H.dis p q hp hq hpq
  by_cases e1:i=p
  ·subst e1;rw[if_pos rfl,if_neg (by omega)];rw[hia] at this;exact this
  ·by_cases e2:i=q
   ·subst e2;rw[if_neg e1,if_pos rfl];rw[hia] at this;exact this
   ·rw[if_neg e1,if_neg e2];exact this
 ·refine yg9 H.apart fun k hk=>?_
  have:=old k hk
  simp only[Apart]
  omega
structure ObjOk (ws:List Int) (o:r26_Object):Prop where
 sh:OkSh o.Shape
 len:(o.Slots.length:Int)=o.Shape.Slots
 hd:ws[o.At.toNat]? = some (hdB o.Shape)
 sl:∀(i:Nat) (v:Int),o.Slots[i]? = some v->ws[o.At.toNat+1+i]? = some v
def PtrOk(L:List r26_Object)(o:r26_Object):Prop:=∀(i:Nat) (v:Int),o.Slots[i]? = some v->ptB o.Shape i=true->v=0\/∃o'∈L,o'.At=v
structure Spc (ws:List Int) (As:List Area) (L:List r26_Object):Prop where
 lay:Lay (L.map keyOf) As
 ok:∀o∈L,ObjOk ws o
 ptr:∀o∈L,PtrOk L o
 wsl:∀a∈As,a.Hi<=ws.length
theorem ylC:∀(k i:Nat) (ws:List Int) (j:Nat),(zer i k ws)[j]? = if i<=j/\j<i+k/\j<ws.length then some 0 else ws[j]?
 | 0,i,ws,j=>by rw[if_neg (by omega)];rfl
 | k+1,i,ws,j=>by
   rw[zer,ylC k (i+1)]
   rw[Ba]
   by_cases h1:i+1<=j/\j<i+1+k/\j<ws.length
   ·rw[if_pos h1,if_pos (by omega)]
   ·rw[if_neg h1,List.getElem?_set]
    by_cases h2:i=j
    ·subst h2
     by_cases h3:i<ws.length
     ·rw[if_pos rfl,if_pos h3,if_pos (by omega)]
     ·rw[if_pos rfl,if_neg h3,if_neg (by omega)];exact (B4 (by omega)).symm
    ·rw[if_neg h2]
     by_cases h3:i<=j/\j<i+(k+1)/\j<ws.length
     ·omega
     ·rw[if_neg h3]
theorem yi3(ws:List Int)(at':Nat)(x:Shape)(j:Nat)(h:at'+1+x.Slots.toNat<=ws.length):(mkW ws at' x)[j]? = if j=at' then some (hdB x) else if at'<j/\j<at'+1+x.Slots.toNat then some 0 else ws[j]?:=by
 rw[mkW,ylC,Ba,List.getElem?_set]
 by_cases h1:j=at'
 ·subst h1;rw[if_neg (by omega),if_pos rfl,if_pos rfl,if_pos (by omega)]
 ·rw[if_neg h1]
  by_cases h2:at'<j/\j<at'+1+x.Slots.toNat
  ·rw[if_pos (by omega),if_pos h2]
  ·rw[if_neg (by omega),if_neg h2,if_neg (by omega)]
theorem ObjOk.ext{ws ws':List Int}{o:r26_Object}(h:ObjOk ws o)(h0:0<=o.At)(he:∀j:Nat,o.At<=j->(j:Int)<o.At+1+o.Slots.length->ws'[j]? = ws[j]?):ObjOk ws' o:=
 ⟨h.sh,h.len,by rw[he _ (by omega) (by omega)];exact h.hd,fun i v hv=>by
   have:i<o.Slots.length:=(Ad.1 hv).1
   rw[he _ (by omega) (by omega)];exact h.sl i v hv⟩
theorem Spc.make{ws:List Int}{As:List Area}{L:List r26_Object}(H:Spc ws As L){i:Nat}{a:Area}(ha:As[i]? = some a){x:Shape}(hx:OkSh x)(h:a.Next+1+x.Slots<=a.Hi):
 Spc (mkW ws a.Next.toNat x) (As.set i ⟨a.Lo,a.Hi,a.Next+1+x.Slots⟩) (L++[newO a x]):=by
 have ham:a∈As:=Bf ha
 have ho:=H.lay.ord a ham
 have hw:=H.wsl a ham
 have hx0:=hx.1
 have hlen:(List.replicate x.Slots.toNat (0:Int)).length=x.Slots.toNat:=by simp
 have hlay:=H.lay.make ha x.Slots.toNat (by omega)
 have e1:(L++[newO a x]).map keyOf=L.map keyOf++[(a.Next,x.Slots.toNat)]:=by simp[keyOf,newO]
 rw[←e1,show (x.Slots.toNat:Int)=x.Slots by omega] at hlay
 have hap:=hlay.apart
 rw[e1,Ca] at hap
 refine⟨hlay,fun o hm=>?_,fun o hm=>?_,fun b hb=>?_⟩
 ·rcases Bl.1 hm with hm|hm
  ·have hk:keyOf o∈L.map keyOf:=Bm.2 ⟨o,hm,rfl⟩
   have h0:=H.lay.pos hk
   have ha2:=hap.2.2 _ hk _ (Be.2 rfl)
   simp only[Apart,keyOf] at ha2 h0
   refine (H.ok o hm).ext (by omega) fun j h1 h2=>?_
   rw[yi3 _ _ _ _ (by omega),if_neg (by omega),if_neg (by omega)]
  ·rw[Be] at hm;subst hm
   refine⟨hx,by simp[newO];omega,?_,fun k v hv=>?_⟩
   ·rw[yi3 _ _ _ _ (by omega)];simp[newO]
   ·simp only[newO,Cr] at hv ⊢
    split at hv
    ·rename_i hk
     cases hv
     rw[yi3 _ _ _ _ (by omega),if_neg (by omega),if_pos (by omega)]
    ·cases hv
 ·rcases Bl.1 hm with hm|hm
  ·intro k v hv hp
   rcases H.ptr o hm k v hv hp with h1|⟨o',h1,h2⟩
   ·exact .inl h1
   ·exact .inr ⟨o',Bz _ h1,h2⟩
  ·rw[Be] at hm;subst hm
   intro k v hv hp
   simp only[newO,Cr] at hv
   split at hv
   ·cases hv;exact .inl rfl
   ·cases hv
 ·rw[yi2]
  obtain⟨j,hj⟩:=Bp hb
  by_cases e:i=j
  ·subst e
   rw[Bk (Ad.1 ha).1] at hj
   cases hj;exact hw
  ·rw[Ar e] at hj;exact H.wsl b (Bf hj)
theorem Spc.store{ws:List Int}{As:List Area}{L:List r26_Object}(H:Spc ws As L){i:Nat}{o:r26_Object}(ho:L[i]? = some o){s:Nat}(hs:s<o.Slots.length){v:Int}(hv:ptB o.Shape s=true->v=0\/∃o'∈L,o'.At=v):
 Spc (ws.set (o.At.toNat+1+s) v) As (L.set i ⟨o.At,o.Shape,o.Slots.set s v⟩):=by
 obtain⟨hil,hio⟩:=Ad.1 ho
 have hom:o∈L:=Bf ho
 have hok:=H.ok o hom
 have e1:(L.set i ⟨o.At,o.Shape,o.Slots.set s v⟩).map keyOf=L.map keyOf:=by
  rw[List.map_set]
  apply List.ext_getElem?
  intro j
  rw[List.getElem?_set]
  split
  ·rename_i e;subst e
   rw[if_pos (by simpa using hil),B0,ho]
   simp[keyOf]
  ·rfl
 have mem:∀o2∈L.set i ⟨o.At,o.Shape,o.Slots.set s v⟩,o2=⟨o.At,o.Shape,o.Slots.set s v⟩\/∃j,j≠i/\L[j]? = some o2:=fun o2 h2=>by
  obtain⟨j,hj⟩:=Bp h2
  by_cases e:i=j
  ·subst e;rw[Bk hil] at hj;left;simpa using hj.symm
  ·rw[Ar e] at hj;exact .inr ⟨j,fun h=>e h.symm,hj⟩
 have sub:∀o'∈L,∃o2∈L.set i ⟨o.At,o.Shape,o.Slots.set s v⟩,o2.At=o'.At:=fun o' h'=>by
  have:o'.At∈(L.set i ⟨o.At,o.Shape,o.Slots.set s v⟩).map r26_Object.At:=by
   have e2:(L.set i ⟨o.At,o.Shape,o.Slots.set s v⟩).map r26_Object.At=L.map r26_Object.At:=by
    have:=congrArg (List.map Prod.fst) e1
    simpa[Cl,keyOf,Function.comp_def] using this
   rw[e2];exact Bm.2 ⟨o',h',rfl⟩
  obtain⟨o2,h2,h3⟩:=Bm.1 this
  exact⟨o2,h2,h3⟩
 have h0:0<o.At:=H.lay.pos (k:=keyOf o) (Bm.2 ⟨o,hom,rfl⟩)
 have hin:o.At.toNat+1+s<ws.length:=by
  have h1:s<o.Slots.length:=hs
  have:=hok.sl s o.Slots[s] (by simp[hs])
  exact (Ad.1 this).1
 refine⟨by rw[e1];exact H.lay,fun o2 h2=>?_,fun o2 h2=>?_,fun b hb=>by rw[Ba];exact H.wsl b hb⟩
 ·rcases mem o2 h2 with rfl|⟨j,hj,h3⟩
  ·refine⟨hok.sh,by simpa using hok.len,?_,fun k u hu=>?_⟩
   ·simp only;rw[Ar (by omega)];exact hok.hd
   ·simp only at hu ⊢
    rw[List.getElem?_set] at hu ⊢
    by_cases e:s=k
    ·subst e;rw[if_pos rfl,if_pos hs] at hu;rw[if_pos rfl,if_pos hin];exact hu
    ·rw[if_neg e] at hu;rw[if_neg (by omega)];exact hok.sl k u hu
  ·have hm2:=Bf h3
   have ha:=ydM H.lay.apart (i:=j) (j:=i) (by rw[B0,h3];rfl) (by rw[B0,ho];rfl) hj
   have h02:0<o2.At:=H.lay.pos (k:=keyOf o2) (Bm.2 ⟨o2,hm2,rfl⟩)
   simp only[Apart,keyOf] at ha
   refine (H.ok o2 hm2).ext (by omega) fun k h1 h2=>?_
   rw[Ar (by omega)]
 ·have up:∀{v:Int},(v=0\/∃o'∈L,o'.At=v)->(v=0\/∃o'∈L.set i ⟨o.At,o.Shape,o.Slots.set s _⟩,o'.At=v):=fun {v} h=>by
   rcases h with h|⟨o',h1,h2⟩
   ·exact .inl h
   ·obtain⟨o3,h3,h4⟩:=sub o' h1
    exact .inr ⟨o3,h3,h4.trans h2⟩
  rcases mem o2 h2 with rfl|⟨j,hj,h3⟩
  ·intro k u hu hp
   simp only at hu hp
   rw[List.getElem?_set] at hu
   by_cases e:s=k
   ·subst e;rw[if_pos rfl,if_pos hs] at hu;cases hu;exact up (hv hp)
   ·rw[if_neg e] at hu;exact up (H.ptr o hom k u hu hp)
  ·intro k u hu hp
   exact up (H.ptr o2 (Bf h3) k u hu hp)
open Go
theorem yi4(L:List r26_Object)(hL:L.length<140737488355328)(p:Int):(∃(i:Nat) (o:r26_Object),r26_Find L p=some (i:Int)/\L[i]? = some o/\o.At=p)\/(r26_Find L p=some (-1)/\∀o∈L,o.At≠p):=by
 have w0:IntKind.wrap .i64 ((L.length:Int)-1)=(L.length:Int)-1:=yfC (by omega) (by omega)
 have key:∃r,r26_Find_l1 L p ((L.length:Int)-1)=some r/\((∃(i:Nat) (o:r26_Object),r = .stop (i:Int)/\L[i]? = some o/\o.At=p)\/(r = .next ()/\∀o∈L,o.At≠p)):=by
  refine ydL (I:=fun i=>-1<=i/\i<(L.length:Int)/\∀(j:Nat) (o:r26_Object),i<j->L[j]? = some o->o.At≠p) (Q:=fun (r:Stp Unit Int)=>(∃(i:Nat) (o:r26_Object),r = .stop (i:Int)/\L[i]? = some o/\o.At=p)\/(r = .next ()/\∀o∈L,o.At≠p)) (μ:=fun i=>(i+1).toNat) ?_ _ ⟨by omega,by omega,?_⟩
  ·rintro i ⟨h1,h2,h3⟩
   unfold r26_Find_l1_b
   by_cases hi:0<=i
   ·obtain⟨o,ho,ho'⟩:=yaO hi h2
    rw[if_pos (by simpa using hi),ho,Bg]
    by_cases hp:o.At=p
    ·left
     refine⟨.stop i,by rw[if_pos (by simpa using hp)],.inl ⟨i.toNat,o,by rw[Int.toNat_of_nonneg hi],ho',hp⟩⟩
    ·right
     rw[if_neg (by simpa using hp),yfC (by omega) (by omega)]
     refine⟨i-1,rfl,⟨by omega,by omega,fun j o2 hj h=>?_⟩,by omega⟩
     by_cases e:(j:Int)=i
     ·have:j=i.toNat:=by omega
      subst this;rw[ho'] at h;cases h;exact hp
     ·exact h3 j o2 (by omega) h
   ·left
    refine⟨.next (),by rw[if_neg (by simpa using hi)],.inr ⟨rfl,fun o ho=>?_⟩⟩
    obtain⟨j,hj⟩:=Bp ho
    exact h3 j o (by omega) hj
  ·intro j o hj h
   have:=(Ad.1 h).1
   omega
 obtain⟨r,h1,h2⟩:=key
 unfold r26_Find
 rw[w0,h1,Bg]
 rcases h2 with⟨i,o,rfl,h3,h4⟩|⟨rfl,h3⟩
 ·exact .inl ⟨i,o,rfl,h3,h4⟩
 ·exact .inr ⟨rfl,h3⟩
def objsIn(L:List r26_Object)(a:Area):List r26_Object:=L.filter fun o=>inA a o.At
theorem yfE(L:List r26_Object)(a:Area):(objsIn L a).map keyOf=(L.map keyOf).filter fun k=>inA a k.1:=by
 rw[List.filter_map];rfl
theorem yd8(L:List r26_Object)(a:Area):(objsIn L a).length<=L.length:=List.length_filter_le ..
theorem yim{L:List r26_Object}{As:List Area}(H:Lay (L.map keyOf) As)(hL:L.length<100000){a:Area}(ha:a∈As)(hb:a.Hi<140737488355328):r26_Starts L a=some ((objsIn L a).map r26_Object.At):=by
 have ho:=H.ord a ha
 have hc:=H.chain a ha
 rw[←yfE] at hc
 have hks:((objsIn L a).map keyOf).map Prod.fst=(objsIn L a).map r26_Object.At:=by rw[Cl];rfl
 obtain⟨ks,hk⟩:∃ks,(objsIn L a).map keyOf=ks:=⟨_,rfl⟩
 rw[hk] at hc hks
 have hkl:ks.length<100000:=by rw[←hk,Bh];have:=yd8 L a;omega
 have hin:∀o∈L,inA a o.At=true->keyOf o∈ks:=fun o h1 h2=>by rw[←hk];exact Bm.2 ⟨o,B7.2 ⟨h1,h2⟩,rfl⟩
 have hfr:∀k∈ks,∃o∈L,o.At=k.1:=fun k h=>by
  rw[←hk] at h
  obtain⟨o,h1,rfl⟩:=Bm.1 h
  exact⟨o,(B7.1 h1).1,rfl⟩
 rw[←hks]
 have key:∃r,r26_Starts_l5 L a ([],a.Lo)=some r/\r=ks.map Prod.fst:=by
  refine ydL (I:=fun s=>a.Lo<=s.2/\s.2<=a.Next/\∃rest c,Chain c rest a.Next/\s.2<=c/\s.1++rest.map Prod.fst=ks.map Prod.fst/\∀k∈ks,s.2<=k.1->k∈rest) (Q:=fun r=>r=ks.map Prod.fst) (μ:=fun s=>(a.Next-s.2).toNat) ?_ _ ⟨Ce _,ho.2.1,ks,a.Lo,hc,Ce _,rfl,fun k h _=>h⟩
  rintro⟨out,at'⟩ ⟨h1,h2,rest,c,h3,h4,h5,h6⟩
  simp only at h1 h2 h4 h5 h6 ⊢
  unfold r26_Starts_l5_b
  by_cases hlt:at'<a.Next
  ·right
   have hsz:out.length<=ks.length:=by
    have:=congrArg List.length h5;simp at this;omega
   have w:IntKind.wrap .i64 (at'+1)=at'+1:=yfC (by omega) (by omega)
   rw[if_pos (by simpa using hlt),w]
   unfold r26_Starts_j4
   rcases yi4 L (by omega) at' with⟨i,o,e1,e2,e3⟩|⟨e1,e2⟩
   ·have hk2:=hin o (Bf e2) (by rw[yan];omega)
    have hk3:=h6 _ hk2 (by simp only[keyOf];omega)
    cases rest with
    | nil=>cases hk3
    | cons k r=>
      have hm:=h3.mem _ hk3
      have hk1:=h3.1
      simp only[keyOf] at hm
      have happ:app out [at'] 8=some (out++[at']):=by unfold app;rw[if_pos (by simp;omega)]
      rw[e1,Bg,if_pos (by simp),happ]
      refine⟨_,rfl,⟨by simp only;omega,by simp only;omega,r,c+1+k.2,h3.2,by simp only;omega,?_,fun k' hk' hle=>?_⟩,by simp only;omega⟩
      ·rw[Bu] at h5
       simp only[A4,List.singleton_append]
       rw[←h5,show k.1=at' by omega]
      ·rcases Bi.1 (h6 k' hk' (by simp only at hle;omega)) with rfl|h
       ·simp only at hle;omega
       ·exact h
   ·rw[e1,Bg,if_neg (by simp)]
    refine⟨_,rfl,⟨by simp only;omega,by simp only;omega,rest,c,h3,?_,h5,fun k hk' hle=>h6 k hk' (by simp only at hle;omega)⟩,by simp only;omega⟩
    simp only
    apply Bc
    intro hn
    have hce:at'=c:=by omega
    cases rest with
    | nil=>simp only[Chain] at h3;omega
    | cons k r=>
      have:k∈ks:=by
       have hm:k.1∈ks.map Prod.fst:=by rw[←h5];simp
       obtain⟨k2,hk2,hk3⟩:=Bm.1 hm
       obtain⟨o,ho1,ho2⟩:=hfr k2 hk2
       exact absurd (by rw[ho2,hk3,h3.1];omega) (e2 o ho1)
      obtain⟨o,ho1,ho2⟩:=hfr k this
      exact e2 o ho1 (by rw[ho2,h3.1];omega)
  ·left
   refine⟨out,by rw[if_neg (by simpa using hlt)],?_⟩
   cases rest with
   | nil=>simpa using h5
   | cons k r=>
     have:=h3.mem k (by simp)
     omega
 obtain⟨r,h1,rfl⟩:=key
 unfold r26_Starts
 rw[h1];rfl
theorem ylD(l:List Int)(hl:l.length<140737488355328):r05_Ints l l=some true:=by
 have key:∃r,r05_Ints_l1 l l 0=some r/\r = .next ():=by
  refine ydj (ρ:=Stp Unit Unit) l.length (fun s=>s) (fun _=>True) (fun r=>r = .next ()) (fun s _ h0 h1=>?_) 0 trivial (Ce _) (by omega)
  unfold r05_Ints_l1_b
  by_cases h:s<l.length
  ·obtain⟨x,hx,_⟩:=yaO h0 h
   right
   refine⟨s+1,?_,trivial,rfl,by omega⟩
   rw[if_pos (by simpa using h),hx,Bg,Bg,if_neg (by simp),wr1 h0 (by omega)]
  ·left
   exact⟨.next (),by rw[if_neg (by simpa using h)],rfl⟩
 obtain⟨r,h1,rfl⟩:=key
 unfold r05_Ints
 rw[if_neg (by simp),h1];rfl
variable {K:HCalls}
theorem k29(B:KPu K)(l:List Int)(hl:l.length<140737488355328)(n:Nat)(st:HSt):evHF C0 K TH (n+1) 29 [hN l,hN l] st=some (.p (.bool true),st):=
 B.known (f:=29) rfl (ws:=[.sl l.length (l.flatMap (cint .i64)),.sl l.length (l.flatMap (cint .i64))]) rfl (yiV l l true (ylD l hl)) rfl rfl rfl n st
open Go
def inAny(ars:List Area)(p:Int):Bool:=ars.any fun a=>inA a p
theorem yaP{ars:List Area}{p:Int}:inAny ars p=true↔∃a∈ars,inA a p=true:=by simp[inAny]
theorem ylE(ars:List Area)(hl:ars.length<140737488355328)(p:Int):r26_within ars p=some (inAny ars p):=by
 have key:∃r,r26_within_l1 ars p 0=some r/\((r = .stop ()/\inAny ars p=true)\/(r = .next ()/\inAny ars p=false)):=by
  refine ydj (ρ:=Stp Unit Unit) ars.length (fun s=>s) (fun s=>inAny (ars.take s.toNat) p=false) (fun r=>(r = .stop ()/\inAny ars p=true)\/(r = .next ()/\inAny ars p=false)) (fun s hI h0 h1=>?_) 0 (by simp[inAny]) (Ce _) (by omega)
  unfold r26_within_l1_b
  by_cases h:s<ars.length
  ·obtain⟨x,hx,hx'⟩:=yaO h0 h
   have hin:r26_In x p=some (inA x p):=rfl
   rw[if_pos (by simpa using h),hx,Bg,hin,Bg]
   cases hb:inA x p with
   | true=>left;exact⟨.stop (),rfl,.inl ⟨rfl,yaP.2 ⟨x,Bf hx',hb⟩⟩⟩
   | false=>
     right
     refine⟨s+1,by rw[wr1 h0 (by omega)];rfl,?_,rfl,by omega⟩
     rw[show (s+1).toNat=s.toNat+1 by omega,List.take_add_one,hx']
     simp only[inAny,List.any_append] at hI ⊢
     rw[hI];simp[hb]
  ·left
   refine⟨.next (),by rw[if_neg (by simpa using h)],.inr ⟨rfl,?_⟩⟩
   rwa [Aw (by omega)] at hI
 obtain⟨r,h1,h2⟩:=key
 unfold r26_within
 rw[h1,Bg]
 rcases h2 with⟨rfl,h3⟩|⟨rfl,h3⟩ <;> rw[h3]
theorem ynp(l:List Int)(hl:l.length<140737488355328)(p:Int):r08_Has l p=some (l.contains p):=by
 have key:∃r,r08_Has_l1 l p 0=some r/\((r = .stop ()/\l.contains p=true)\/(r = .next ()/\l.contains p=false)):=by
  refine ydj (ρ:=Stp Unit Unit) l.length (fun s=>s) (fun s=>(l.take s.toNat).contains p=false) (fun r=>(r = .stop ()/\l.contains p=true)\/(r = .next ()/\l.contains p=false)) (fun s hI h0 h1=>?_) 0 (by simp) (Ce _) (by omega)
  unfold r08_Has_l1_b
  by_cases h:s<l.length
  ·obtain⟨x,hx,hx'⟩:=yaO h0 h
   rw[if_pos (by simpa using h),hx,Bg]
   by_cases hb:x=p
   ·left;subst hb
    exact⟨.stop (),by simp,.inl ⟨rfl,by simpa using Bf hx'⟩⟩
   ·right
    refine⟨s+1,by rw[if_neg (by simpa using hb),wr1 h0 (by omega)],?_,rfl,by omega⟩
    rw[show (s+1).toNat=s.toNat+1 by omega,List.take_add_one,hx']
    simp only[List.contains_eq_mem,decide_eq_false_iff_not,Bl,Option.toList_some,Be] at hI ⊢
    exact fun hh=>hh.elim hI fun e=>hb e.symm
  ·left
   refine⟨.next (),by rw[if_neg (by simpa using h)],.inr ⟨rfl,?_⟩⟩
   rwa [Aw (by omega)] at hI
 obtain⟨r,h1,h2⟩:=key
 unfold r08_Has
 rw[h1,Bg]
 rcases h2 with⟨rfl,h3⟩|⟨rfl,h3⟩ <;> rw[h3]
def ptrsL(x:Shape):Nat->List Int->List Int
 | _,[]=>[]
 | i,v::r=>if ptB x i then v::ptrsL x (i+1) r else ptrsL x (i+1) r
def ptrs(o:r26_Object):List Int:=ptrsL o.Shape 0 o.Slots
theorem yin{x:Shape}{p:Int}:∀{l:List Int} {i:Nat},p∈ptrsL x i l->∃j,l[j]? = some p/\ptB x (i+j:Nat)=true
 | [],i,h=>by cases h
 | v::r,i,h=>by
   have rec1:p∈ptrsL x (i+1) r->∃j,(v::r)[j]? = some p/\ptB x (i+j:Nat)=true:=fun h=>by
    obtain⟨j,h1,h2⟩:=yin h
    exact⟨j+1,by simpa using h1,by rw[show i+(j+1)=i+1+j by omega];exact h2⟩
   simp only[ptrsL] at h
   split at h
   ·rename_i hb
    rcases Bi.1 h with rfl|h
    ·exact⟨0,rfl,hb⟩
    ·exact rec1 h
   ·exact rec1 h
def objAt(L:List r26_Object)(p:Int):Option r26_Object:=L.find? fun o=>o.At==p
theorem ygy{L:List r26_Object}{p:Int}{o:r26_Object}(h:objAt L p=some o):o∈L/\o.At=p:=by
 unfold objAt at h
 exact⟨List.mem_of_find?_eq_some h,by simpa using List.find?_some h⟩
theorem yaQ{L:List r26_Object}(hap:(L.map keyOf).Pairwise Apart){o:r26_Object}(h:o∈L):objAt L o.At=some o:=by
 cases e:objAt L o.At with
 | none=>
   unfold objAt at e
   have:=List.find?_eq_none.1 e o h
   simp at this
 | some o2=>
   obtain⟨h1,h2⟩:=ygy e
   obtain⟨i,hi⟩:=Bp h1
   obtain⟨j,hj⟩:=Bp h
   have:=yil hap (i:=i) (j:=j) (by rw[B0,hi];rfl) (by rw[B0,hj];rfl) h2
   subst this
   rw[hi] at hj;exact hj
theorem yks{L:List r26_Object}{p:Int}(h:∀o∈L,o.At≠p):objAt L p=none:=by
 unfold objAt
 exact List.find?_eq_none.2 fun o ho=>by simpa using h o ho
theorem ycV{L:List r26_Object}(hap:(L.map keyOf).Pairwise Apart)(hL:L.length<140737488355328)(p:Int):(∃(i:Nat) (o:r26_Object),r26_Find L p=some (i:Int)/\L[i]? = some o/\objAt L p=some o/\o.At=p)\/(r26_Find L p=some (-1)/\objAt L p=none):=by
 rcases yi4 L hL p with⟨i,o,h1,h2,h3⟩|⟨h1,h2⟩
 ·subst h3
  exact .inl ⟨i,o,h1,h2,yaQ hap (Bf h2),rfl⟩
 ·exact .inr ⟨h1,yks h2⟩
def ptrsAt(L:List r26_Object)(p:Int):List Int:=match objAt L p with
 | some o=>ptrs o
 | none=>[]
def mt(ars:List Area)(out:List Int)(p:Int):List Int:=if inAny ars p && !out.contains p then out++[p] else out
def mtL(ars:List Area)(out ps:List Int):List Int:=ps.foldl (mt ars) out
theorem ybA(ars:List Area)(out:List Int)(p:Int)(ps:List Int):mtL ars out (p::ps)=mtL ars (mt ars out p) ps:=rfl
theorem yha(ars:List Area)(out ps qs:List Int):mtL ars out (ps++qs)=mtL ars (mtL ars out ps) qs:=List.foldl_append ..
def bfs(L:List r26_Object)(ars:List Area):Nat->Nat->List Int->List Int
 | 0,_,out=>out
 | k+1,i,out=>match out[i]? with
   | some p=>bfs L ars k (i+1) (mtL ars out (ptrsAt L p))
   | none=>out
def live(L:List r26_Object)(ars:List Area)(roots also:List Int):List Int:=bfs L ars (L.length+1) 0 (mtL ars (mtL ars [] roots) (also.flatMap (ptrsAt L)))
def AddrOk(L:List r26_Object)(p:Int):Prop:=p=0\/∃o∈L,o.At=p
structure OutOk (L:List r26_Object) (ars:List Area) (out:List Int):Prop where
 nodup:out.Nodup
 mem:∀p∈out,inAny ars p=true/\∃o∈L,o.At=p
theorem OutOk.nil(L:List r26_Object)(ars:List Area):OutOk L ars []:=⟨List.nodup_nil,fun p h=>(by cases h)⟩
theorem OutOk.mt{L:List r26_Object}{ars:List Area}{out:List Int}(h:OutOk L ars out)(h0:inAny ars 0=false){p:Int}(hp:AddrOk L p):OutOk L ars (mt ars out p):=by
 unfold Ab.mt
 split
 ·rename_i hc
  simp only[Ay,Bool.not_eq_true',List.contains_eq_mem,decide_eq_false_iff_not] at hc
  refine⟨List.nodup_append.2 ⟨h.nodup,by simp,fun a ha b hb=>by rw[Be] at hb;subst hb;exact fun e=>hc.2 (e▸ha)⟩,fun q hq=>?_⟩
  rcases Bl.1 hq with hq|hq
  ·exact h.mem q hq
  ·rw[Be] at hq;subst hq
   rcases hp with rfl|hp
   ·rw[h0] at hc;cases hc.1
   ·exact⟨hc.1,hp⟩
 ·exact h
theorem OutOk.mtL{L:List r26_Object}{ars:List Area}(h0:inAny ars 0=false):∀{ps out:List Int},OutOk L ars out->(∀p∈ps,AddrOk L p)->OutOk L ars (mtL ars out ps)
 | [],out,h,_=>h
 | p::ps,out,h,hp=>OutOk.mtL h0 (ps:=ps) (h.mt h0 (hp p (by simp))) fun q hq=>hp q (by simp[hq])
theorem yio:∀{xs ys:List Int},xs.Nodup->(∀x∈xs,x∈ys)->xs.length<=ys.length
 | [],ys,_,_=>by simp
 | x::xs,ys,hn,hs=>by
   have hx:x∈ys:=hs x (by simp)
   rw[List.nodup_cons] at hn
   have h1:=yio (ys:=ys.erase x) hn.2 fun y hy=>(List.mem_erase_of_ne (fun e=>hn.1 (by rw[←e];exact hy))).2 (hs y (by simp[hy]))
   rw[List.length_erase_of_mem hx] at h1
   have:0<ys.length:=List.length_pos_of_mem hx
   simp;omega
theorem OutOk.le{L:List r26_Object}{ars:List Area}{out:List Int}(h:OutOk L ars out):out.length<=L.length:=by
 have:=yio (ys:=L.map r26_Object.At) h.nodup fun p hp=>by
  obtain⟨_,o,h1,h2⟩:=h.mem p hp
  exact Bm.2 ⟨o,h1,h2⟩
 simpa using this
theorem yfF{L:List r26_Object}(hp:∀o∈L,PtrOk L o)(a:Int):∀p∈ptrsAt L a,AddrOk L p:=by
 intro p h
 unfold ptrsAt at h
 split at h
 ·rename_i o ho
  obtain⟨j,h1,h2⟩:=yin h
  rw[Az] at h2
  exact hp o (ygy ho).1 j p h1 h2
 ·cases h
theorem yjO(ars:List Area)(out:List Int)(p:Int):∃r,mt ars out p=out++r:=by
 unfold mt;split
 ·exact⟨_,rfl⟩
 ·exact⟨[],by simp⟩
theorem ya9(ars:List Area):∀(ps out:List Int),∃r,mtL ars out ps=out++r
 | [],out=>⟨[],by simp[mtL]⟩
 | p::ps,out=>by
   obtain⟨r1,h1⟩:=yjO ars out p
   obtain⟨r2,h2⟩:=ya9 ars ps (mt ars out p)
   exact⟨r1++r2,by rw[ybA,h2,h1,A4]⟩
theorem ykt{ks:List Key}{As ars:List Area}(H:Lay ks As)(h:∀a∈ars,a∈As):inAny ars 0=false:=by
 cases e:inAny ars 0 with
 | false=>rfl
 | true=>
   obtain⟨a,h1,h2⟩:=yaP.1 e
   have:=H.ord a (h a h1)
   rw[yan] at h2
   omega
open Go
set_option maxRecDepth 10000
set_option maxHeartbeats 4000000
abbrev hW(sp:Nat)(A:List Area)(L:List r26_Object):HV:=.agg [.ptr sp 0,hAs A,hL L]
abbrev hOp(kind area id slot nn mask:Int):HV:=.p (.agg [.int .i64 kind,.int .u8 area,.int .u8 id,.int .u8 slot,.int .u8 nn,.int .u16 mask])
structure Like (st st':HSt):Prop where
 len:st'.length=st.length
 f1:∀(g:HSt),(st'++g)[st.length]? = g[0]?
 f2:∀(g:HSt) (k:Nat),(st'++g)[st.length+k]? = g[k]?
 f3:∀(g:HSt) (y:HB),(st'++g).set st.length y=st'++g.set 0 y
 f4:∀(g:HSt) (k:Nat) (y:HB),(st'++g).set (st.length+k) y=st'++g.set k y
theorem yfG{st st':HSt}(h:st'.length=st.length):Like st st':=
 ⟨h,fun g=>by have:=yy st' g;rwa [h] at this,fun g k=>by have:=ym st' g k;rwa [h] at this,
  fun g y=>by have:=yeK st' g y;rwa [h] at this,fun g k y=>by have:=yfn st' g k y;rwa [h] at this⟩
variable {K:HCalls}
theorem yr5(hk:∀ws st,K 69 ws st = .none){st st':HSt}(Y:Like st st'){sp:Nat}(a0 a1 a2:Area)(L:List r26_Object)(area id slot nn mask q:Int)(ha:0<=area/\area<256)(hs:0<=slot/\slot<256)(hq:Int.tmod slot 7=q)(x:Shape)
 (G2:HSt->HSt)(hp:¬a0.Next=0)(L':List r26_Object)
 (e35:∀n st,evHF C0 K TH (n+1) 35 [hI q,.p (.int .u16 mask)] st=some (hX x,st))
 (hk0:Int.tmod area 2=0)
 (e65:∀n g,evHF C0 K TH (n+1) 65 [.ptr sp 0,hA a0,hX x] (st++g)=some (.p (.tup [.agg [.int .i64 a0.Lo,.int .i64 a0.Hi,.int .i64 (a0.Next+1+x.Slots)],.int .i64 a0.Next]),st'++(g++[.box [hI a0.Lo,hI a0.Hi,hI (a0.Next+1+x.Slots)],.box [hI x.Slots,hI x.Mask],.box [hI a0.Lo,hI a0.Hi,hI (a0.Next+1+x.Slots)]])))
 (ymU:∀n g,evHF C0 K TH (n+1) 114 [hL L,hA a0,hX x] (st'++g)=some (.p (.tup [.sl L'.length (L'.flatMap cr26_Object),.agg [.int .i64 a0.Lo,.int .i64 a0.Hi,.int .i64 (a0.Next+1+x.Slots)],.bool true]),st'++(g++G2 g)))(n:Nat):
 ∃g b,evHF C0 K TH (n+90) 69 [hW sp [a0,a1,a2] L,hOp 0 area id slot nn mask] st=some (.tup [.agg [.ptr sp 0,.row (st.length+b) 0 3 3,hL L'],.p (.bool true)],st'++g)/\g[b]? = some (.row 3 3 (([⟨a0.Lo,a0.Hi,a0.Next+1+x.Slots⟩,a1,a2].flatMap cArea).map .p)):=by
 have w1:=@yK area (by omega)
 have w2:=@yK slot (by omega)
 have hp':(a0.Next != 0)=true:=by simpa using hp
 obtain⟨y0,y1,y2,y3,y4⟩:=Y
 apply Exists.intro
 apply Exists.intro
 refine⟨yD (n:=n+89) hk (x:=h69) rfl rfl ?_,?_⟩
 ·simp (config:={ maxSteps:=4000000 }) [↓yg,↓yc,yl,h69,w1,w2,hk0,hq,hp,hp',e35,e65,ymU,cArea,y0,y1,y2,y3,y4]
  all_goals exact⟨rfl,rfl⟩
 ·simp[ym,cArea]
theorem yr6(hk:∀ws st,K 69 ws st = .none){st st':HSt}(Y:Like st st'){sp:Nat}(a0 a1 a2:Area)(L:List r26_Object)(area id slot nn mask q:Int)(ha:0<=area/\area<256)(hs:0<=slot/\slot<256)(hq:Int.tmod slot 7=q)(x:Shape)
 (G2:HSt->HSt)(L':List r26_Object)
 (e35:∀n st,evHF C0 K TH (n+1) 35 [hI q,.p (.int .u16 mask)] st=some (hX x,st))
 (hk0:Int.tmod area 2=0)
 (e65:∀n g,evHF C0 K TH (n+1) 65 [.ptr sp 0,hA a0,hX x] (st++g)=some (.p (.tup [.agg [.int .i64 a0.Lo,.int .i64 a0.Hi,.int .i64 a0.Next],.int .i64 0]),st'++(g++[.box [hI a0.Lo,hI a0.Hi,hI a0.Next],.box [hI x.Slots,hI x.Mask],.box [hI a0.Lo,hI a0.Hi,hI a0.Next]])))
 (ymU:∀n g,evHF C0 K TH (n+1) 114 [hL L,hA a0,hX x] (st'++g)=some (.p (.tup [.sl L'.length (L'.flatMap cr26_Object),.agg [.int .i64 a0.Lo,.int .i64 a0.Hi,.int .i64 a0.Next],.bool false]),st'++(g++G2 g)))(n:Nat):
 ∃g b,evHF C0 K TH (n+90) 69 [hW sp [a0,a1,a2] L,hOp 0 area id slot nn mask] st=some (.tup [.agg [.ptr sp 0,.row (st.length+b) 0 3 3,hL L'],.p (.bool true)],st'++g)/\g[b]? = some (.row 3 3 (([a0,a1,a2].flatMap cArea).map .p)):=by
 have w1:=@yK area (by omega)
 have w2:=@yK slot (by omega)
 obtain⟨y0,y1,y2,y3,y4⟩:=Y
 apply Exists.intro
 apply Exists.intro
 refine⟨yD (n:=n+89) hk (x:=h69) rfl rfl ?_,?_⟩
 ·simp (config:={ maxSteps:=4000000 }) [↓yg,↓yc,yl,h69,w1,w2,hk0,hq,e35,e65,ymU,cArea,y0,y1,y2,y3,y4]
  all_goals exact⟨rfl,rfl⟩
 ·simp[ym,cArea]
theorem yr7(hk:∀ws st,K 69 ws st = .none){st st':HSt}(Y:Like st st'){sp:Nat}(a0 a1 a2:Area)(L:List r26_Object)(area id slot nn mask q:Int)(ha:0<=area/\area<256)(hs:0<=slot/\slot<256)(hq:Int.tmod slot 7=q)(x:Shape)
 (G2:HSt->HSt)(hp:¬a1.Next=0)(L':List r26_Object)
 (e35:∀n st,evHF C0 K TH (n+1) 35 [hI q,.p (.int .u16 mask)] st=some (hX x,st))
 (hk0:Int.tmod area 2=1)
 (e65:∀n g,evHF C0 K TH (n+1) 65 [.ptr sp 0,hA a1,hX x] (st++g)=some (.p (.tup [.agg [.int .i64 a1.Lo,.int .i64 a1.Hi,.int .i64 (a1.Next+1+x.Slots)],.int .i64 a1.Next]),st'++(g++[.box [hI a1.Lo,hI a1.Hi,hI (a1.Next+1+x.Slots)],.box [hI x.Slots,hI x.Mask],.box [hI a1.Lo,hI a1.Hi,hI (a1.Next+1+x.Slots)]])))
 (ymU:∀n g,evHF C0 K TH (n+1) 114 [hL L,hA a1,hX x] (st'++g)=some (.p (.tup [.sl L'.length (L'.flatMap cr26_Object),.agg [.int .i64 a1.Lo,.int .i64 a1.Hi,.int .i64 (a1.Next+1+x.Slots)],.bool true]),st'++(g++G2 g)))(n:Nat):
 ∃g b,evHF C0 K TH (n+90) 69 [hW sp [a0,a1,a2] L,hOp 0 area id slot nn mask] st=some (.tup [.agg [.ptr sp 0,.row (st.length+b) 0 3 3,hL L'],.p (.bool true)],st'++g)/\g[b]? = some (.row 3 3 (([a0,⟨a1.Lo,a1.Hi,a1.Next+1+x.Slots⟩,a2].flatMap cArea).map .p)):=by
 have w1:=@yK area (by omega)
 have w2:=@yK slot (by omega)
 have hp':(a1.Next != 0)=true:=by simpa using hp
 obtain⟨y0,y1,y2,y3,y4⟩:=Y
 apply Exists.intro
 apply Exists.intro
 refine⟨yD (n:=n+89) hk (x:=h69) rfl rfl ?_,?_⟩
 ·simp (config:={ maxSteps:=4000000 }) [↓yg,↓yc,yl,h69,w1,w2,hk0,hq,hp,hp',e35,e65,ymU,cArea,y0,y1,y2,y3,y4]
  all_goals exact⟨rfl,rfl⟩
 ·simp[ym,cArea]
theorem yr8(hk:∀ws st,K 69 ws st = .none){st st':HSt}(Y:Like st st'){sp:Nat}(a0 a1 a2:Area)(L:List r26_Object)(area id slot nn mask q:Int)(ha:0<=area/\area<256)(hs:0<=slot/\slot<256)(hq:Int.tmod slot 7=q)(x:Shape)
 (G2:HSt->HSt)(L':List r26_Object)
 (e35:∀n st,evHF C0 K TH (n+1) 35 [hI q,.p (.int .u16 mask)] st=some (hX x,st))
 (hk0:Int.tmod area 2=1)
 (e65:∀n g,evHF C0 K TH (n+1) 65 [.ptr sp 0,hA a1,hX x] (st++g)=some (.p (.tup [.agg [.int .i64 a1.Lo,.int .i64 a1.Hi,.int .i64 a1.Next],.int .i64 0]),st'++(g++[.box [hI a1.Lo,hI a1.Hi,hI a1.Next],.box [hI x.Slots,hI x.Mask],.box [hI a1.Lo,hI a1.Hi,hI a1.Next]])))
 (ymU:∀n g,evHF C0 K TH (n+1) 114 [hL L,hA a1,hX x] (st'++g)=some (.p (.tup [.sl L'.length (L'.flatMap cr26_Object),.agg [.int .i64 a1.Lo,.int .i64 a1.Hi,.int .i64 a1.Next],.bool false]),st'++(g++G2 g)))(n:Nat):
 ∃g b,evHF C0 K TH (n+90) 69 [hW sp [a0,a1,a2] L,hOp 0 area id slot nn mask] st=some (.tup [.agg [.ptr sp 0,.row (st.length+b) 0 3 3,hL L'],.p (.bool true)],st'++g)/\g[b]? = some (.row 3 3 (([a0,a1,a2].flatMap cArea).map .p)):=by
 have w1:=@yK area (by omega)
 have w2:=@yK slot (by omega)
 obtain⟨y0,y1,y2,y3,y4⟩:=Y
 apply Exists.intro
 apply Exists.intro
 refine⟨yD (n:=n+89) hk (x:=h69) rfl rfl ?_,?_⟩
 ·simp (config:={ maxSteps:=4000000 }) [↓yg,↓yc,yl,h69,w1,w2,hk0,hq,e35,e65,ymU,cArea,y0,y1,y2,y3,y4]
  all_goals exact⟨rfl,rfl⟩
 ·simp[ym,cArea]
open Go
set_option maxRecDepth 10000
set_option maxHeartbeats 4000000
variable {K:HCalls}
theorem ycE(l:List Int):l.flatMap (cint .i64)=l.map (PV.int .i64):=by
 induction l with
 | nil=>rfl
 | cons a l ih=>rw[Bn,Bu,ih];rfl
theorem ylF(l:List Int)(s:Nat)(v:Int):(l.set s v).flatMap (cint .i64)=(l.flatMap (cint .i64)).set s (.int .i64 v):=by
 rw[ycE,ycE,List.map_set]
theorem yr9(hk:∀ws st,K 69 ws st = .none){st:HSt}{sp:Nat}(A:List Area)(kind area id slot nn mask:Int)(h0:¬kind=0)(n:Nat):
 ∃g,evHF C0 K TH (n+90) 69 [hW sp A [],hOp kind area id slot nn mask] st=some (.tup [.agg [.ptr sp 0,hAs A,hL []],.p (.bool true)],st++g):=by
 have h0':(kind==0)=false:=by simpa using h0
 apply Exists.intro
 refine yD (n:=n+89) hk (x:=h69) rfl rfl ?_
 simp (config:={ maxSteps:=4000000 }) [↓yg,↓yc,yl,h69,h0,h0']
 all_goals exact rfl
theorem ysa(hk:∀ws st,K 69 ws st = .none){st:HSt}{sp:Nat}(A:List Area)(L:List r26_Object)(kind area id slot nn mask:Int)(h0:¬kind=0)(hid:0<=id/\id<256)(hl:L.length<100000)(i:Nat)(hi:Int.tmod id (L.length:Int)=i)(o:r26_Object)(ho:L[i]? = some o)(hs:o.Slots=[])(n:Nat):
 ∃g,evHF C0 K TH (n+90) 69 [hW sp A L,hOp kind area id slot nn mask] st=some (.tup [.agg [.ptr sp 0,hAs A,hL L],.p (.bool true)],st++g):=by
 have h0':(kind==0)=false:=by simpa using h0
 have hlt:i<L.length:=(Ad.1 ho).1
 have hlt':¬L.length=0:=by omega
 have hlb:((L.length:Int)==0)=false:=by rw[beq_eq_false_iff_ne];omega
 have c1:((L.flatMap cr26_Object).drop (i*4)).take 4=[.int .i64 o.At,.int .i64 o.Shape.Slots,.int .i64 o.Shape.Mask,.sl 0 []]:=by
  have:=yF yH L i o ho
  rw[this];simp[cr26_Object,hs]
 have w1:=@yK id (by omega)
 have w2:=@yK L.length (by omega)
 apply Exists.intro
 refine yD (n:=n+89) hk (x:=h69) rfl rfl ?_
 simp (config:={ maxSteps:=4000000 }) [↓yg,↓yc,yl,h69,h0,h0',hlt,hlt',hlb,c1,w1,w2,hi]
 all_goals exact rfl
theorem ysb(hk:∀ws st,K 69 ws st = .none){st st':HSt}(Y:Like st st'){sp:Nat}(A:List Area)(L:List r26_Object)(kind area id slot nn mask:Int)(h0:¬kind=0)(hid:0<=id/\id<256)(hslot:0<=slot/\slot<256)(hnn:0<=nn/\nn<256)(hl:L.length<100000)
 (i:Nat)(hi:Int.tmod id (L.length:Int)=i)(o:r26_Object)(ho:L[i]? = some o)(m:Nat)(hm:o.Slots.length=m)(hm0:0<m)(hm1:m<1000)(s:Nat)(hs:Int.tmod slot (m:Int)=s)(hsm:s<m)
 (b:Bool)(e23:∀n st,evHF C0 K TH (n+1) 23 [hX o.Shape,hI s] st=some (.p (.bool b),st))
 (v:Int)(hv:(b=false/\v=nn)\/(b=true/\∃k:Nat,Int.tmod nn ((L.length:Int)+1)=k/\((k=L.length/\v=0)\/(∃o':r26_Object,L[k]? = some o'/\v=o'.At))))
 (e66:∀n g,evHF C0 K TH (n+1) 66 [.ptr sp 0,hI o.At,hI s,hI v] (st++g)=some (.p (.tup []),st'++g))(n:Nat):
 ∃g,evHF C0 K TH (n+90) 69 [hW sp A L,hOp kind area id slot nn mask] st=some (.tup [.agg [.ptr sp 0,hAs A,.row (st.length+4) 0 L.length 4],.p (.bool true)],st'++g) /\
  g[4]? = some (.row 4 L.length (((L.flatMap cr26_Object).map HV.p).set (i*4+3) (.row (st.length+6) 0 m 1)))/\g[6]? = some (.row 1 m (((o.Slots.set s v).flatMap (cint .i64)).map HV.p)):=by
 have h0':(kind==0)=false:=by simpa using h0
 have hlt:i<L.length:=(Ad.1 ho).1
 have hlt':¬L.length=0:=by omega
 have hlb:((L.length:Int)==0)=false:=by rw[beq_eq_false_iff_ne];omega
 obtain⟨ss,hss⟩:∃ss,o.Slots.flatMap (cint .i64)=ss:=⟨_,rfl⟩
 have c0:ss.length=m:=by rw[←hss,←hm,yam (ybl .i64)];omega
 have c00:(m=ss.length)=True:=eq_true c0.symm
 have c1:((L.flatMap cr26_Object).drop (i*4)).take 4=[.int .i64 o.At,.int .i64 o.Shape.Slots,.int .i64 o.Shape.Mask,.sl m ss]:=by
  have:=yF yH L i o ho
  rw[this,←hm,←hss];rfl
 have w1:=@yK id (by omega)
 have w2:=@yK slot (by omega)
 have w3:=@yK nn (by omega)
 have w4:=@yK ((L.length:Int)+1) (by omega)
 have m1:¬m=0:=by omega
 have mb:((m:Int)==0)=false:=by rw[beq_eq_false_iff_ne];omega
 have c2:(L.flatMap cr26_Object).length=L.length*4:=ybz L
 have c3:L.length*48<=1099511627776:=by omega
 have c4:L.length<=1099511627776:=by omega
 have c5:m*8<=1099511627776:=by omega
 have c6:m<=1099511627776:=by omega
 have o7:(∀x∈L.flatMap cr26_Object,PV.free x=true)=True:=eq_true (ybo L)
 have o8:(∀x∈ss,PV.free x=true)=True:=eq_true fun x hx=>by
  rw[←hss] at hx
  obtain⟨a,_,hx⟩:=Cd.1 hx
  simp[cint] at hx;subst hx;rfl
 have c7:i*4+3<L.length*4:=by omega
 have c8:i*4+3+1<=L.length*4:=by omega
 have c9:s+1<=m:=by omega
 have z0:¬((L.length:Int)+1)=0:=by omega
 have fin:(o.Slots.set s v).flatMap (cint .i64)=ss.set s (.int .i64 v):=by
  rw[←hss];exact ylF _ _ _
 rw[fin]
 have c10:(∀x∈L.flatMap cr26_Object,HV.one (.p x)=true)=True:=eq_true fun x hx=>yno _ (ybo L) _ (Bm.2 ⟨x,hx,rfl⟩)
 obtain⟨ocs,hoc⟩:∃ocs,L.flatMap cr26_Object=ocs:=⟨_,rfl⟩
 rw[hoc] at c1 c2 o7 c10
 simp only[hW,hL]
 rw[hoc]
 have c11:(ocs.map HV.p).take (L.length*4)=ocs.map HV.p:=Aw (by simp;omega)
 have c12:(L.length*4=ocs.length)=True:=eq_true c2.symm
 obtain⟨y0,y1,y2,y3,y4⟩:=Y
 rcases hv with⟨rfl,rfl⟩|⟨rfl,k,hk1,⟨rfl,rfl⟩|⟨o',ho',rfl⟩⟩
 ·apply Exists.intro
  refine⟨yD (n:=n+89) hk (x:=h69) rfl rfl ?_,?_,?_⟩
  ·simp (config:={ maxSteps:=4000000 }) [↓yg,↓yc,yl,h69,h0,h0',hlt,hlt',hlb,c0,c00,c1,c2,c3,c4,c5,c6,c7,c8,c9,c10,c11,c12,o7,o8,m1,mb,w1,w2,w3,w4,z0,hi,hs,hsm,e23,e66,y0,y1,y2,y3,y4]
   all_goals exact rfl
  ·rfl
  ·simp
 ·have p1:¬((L.length:Int)<L.length):=by omega
  apply Exists.intro
  refine⟨yD (n:=n+89) hk (x:=h69) rfl rfl ?_,?_,?_⟩
  ·simp (config:={ maxSteps:=4000000 }) [↓yg,↓yc,yl,h69,h0,h0',hlt,hlt',hlb,c0,c00,c1,c2,c3,c4,c5,c6,c7,c8,c9,c10,c11,c12,o7,o8,m1,mb,w1,w2,w3,w4,z0,hi,hs,hsm,e23,e66,y0,y1,y2,y3,y4,hk1,p1]
   all_goals exact rfl
  ·rfl
  ·simp
 ·have p1:k<L.length:=(Ad.1 ho').1
  have p2:(ocs.drop (k*4)).take 4=[.int .i64 o'.At,.int .i64 o'.Shape.Slots,.int .i64 o'.Shape.Mask,.sl o'.Slots.length (o'.Slots.flatMap (cint .i64))]:=by
   rw[←hoc,yF yH L k o' ho'];rfl
  apply Exists.intro
  refine⟨yD (n:=n+89) hk (x:=h69) rfl rfl ?_,?_,?_⟩
  ·simp (config:={ maxSteps:=4000000 }) [↓yg,↓yc,yl,h69,h0,h0',hlt,hlt',hlb,c0,c00,c1,c2,c3,c4,c5,c6,c7,c8,c9,c10,c11,c12,o7,o8,m1,mb,w1,w2,w3,w4,z0,hi,hs,hsm,e23,e66,y0,y1,y2,y3,y4,hk1,p1,p2]
   all_goals exact rfl
  ·rfl
  ·simp
open Go
set_option maxRecDepth 10000
set_option maxHeartbeats 4000000
structure KC (K:HCalls):Prop extends KPu K where
 f22:∀{st:HSt} {sp wb:Nat} {ws:List Int} {x:Shape} (S:SpaceAt st sp wb ws) (i:Nat) (h0:0<i) (hx:OkSh x) (hv:ws[i]? = some (hdB x)),
  K 22 [.ptr sp 0,hI i] st=some (.p (.tup [.agg [.int .i64 x.Slots,.int .i64 x.Mask],.int .i64 0]),st++[.box [hI x.Slots,hI x.Mask]])
 f24:∀{st:HSt} {sp wb:Nat} {ws:List Int} (S:SpaceAt st sp wb ws) (a s:Int) (i:Nat) (h0:0<=a/\0<=s) (hi:a+1+s=(i:Int)) (hb:i<140737488355328) (v:Int) (hv:ws[i]? = some v),K 24 [.ptr sp 0,hI a,hI s] st=some (hI v,st)
 f65:∀{st:HSt} {sp wb:Nat} {ws:List Int} (S:SpaceAt st sp wb ws) (hb:ws.length<140737488355328) (a:Area) (x:Shape) (h0:0<a.Next) (h1:a.Hi<=ws.length) (hx:OkSh x) (h:a.Next+1+x.Slots<=a.Hi),
  K 65 [.ptr sp 0,hA a,hX x] st=some (.p (.tup [.agg [.int .i64 a.Lo,.int .i64 a.Hi,.int .i64 (a.Next+1+x.Slots)],.int .i64 a.Next]),st.set wb (wRow (mkW ws a.Next.toNat x)) ++
   [.box [hI a.Lo,hI a.Hi,hI (a.Next+1+x.Slots)],.box [hI x.Slots,hI x.Mask],.box [hI a.Lo,hI a.Hi,hI (a.Next+1+x.Slots)]])
 f65n:∀{st:HSt} {sp:Nat} (a:Area) (x:Shape) (h0:0<a.Next/\a.Next<=a.Hi/\a.Hi<140737488355328) (hx:OkSh x) (h:a.Hi<a.Next+1+x.Slots),
  K 65 [.ptr sp 0,hA a,hX x] st=some (.p (.tup [.agg [.int .i64 a.Lo,.int .i64 a.Hi,.int .i64 a.Next],.int .i64 0]),st++[.box [hI a.Lo,hI a.Hi,hI a.Next],.box [hI x.Slots,hI x.Mask],.box [hI a.Lo,hI a.Hi,hI a.Next]])
 f66:∀{st:HSt} {sp wb:Nat} {ws:List Int} (S:SpaceAt st sp wb ws) (a s v:Int) (i:Nat) (h0:0<=a/\0<=s) (hi:a+1+s=(i:Int)) (hb:i<140737488355328) (hl:i<ws.length),
  K 66 [.ptr sp 0,hI a,hI s,hI v] st=some (.p (.tup []),st.set wb (wRow (ws.set i v)))
 f114:∀(os:List r26_Object) (hl:os.length<100000) (a:Area) (x:Shape) (h0:0<=a.Next/\a.Next<1000000000) (hx:OkSh x) (h:¬a.Hi<a.Next+1+x.Slots) (st:HSt),
  ∃g,K 114 [hL os,hA a,hX x] st=some (.p (.tup [.sl (os++[newO a x]).length ((os++[newO a x]).flatMap cr26_Object),.agg [.int .i64 a.Lo,.int .i64 a.Hi,.int .i64 (a.Next+1+x.Slots)],.bool true]),st++g)
 f114n:∀(os:List r26_Object) (a:Area) (x:Shape) (h0:0<=a.Next/\a.Next<1000000000) (hx:OkSh x) (h:a.Hi<a.Next+1+x.Slots) (st:HSt),
  ∃g,K 114 [hL os,hA a,hX x] st=some (.p (.tup [.sl os.length (os.flatMap cr26_Object),.agg [.int .i64 a.Lo,.int .i64 a.Hi,.int .i64 a.Next],.bool false]),st++g)
theorem yqv{K:HCalls}(B:KB K)(hk:∀ws st,K 114 ws st = .none){l li:List Nat}(h1:l.contains 22=true/\l.contains 24=true/\l.contains 65=true/\l.contains 66=true/\l.contains 114=false/\li.contains 114=true)
 (hp:lp.all (fun f=>!l.contains f && !li.contains f)=true):KC (lev K l li) where
 pu f hf:=by
  have:=Ax.1 hp f (by simpa using hf)
  simp only[Ay,Bool.not_eq_true'] at this
  rw[yaM this.1 this.2];exact B.pu f hf
 f22 S i h0 hx hv:=ykr h1.1 30 (e22 B S i h0 hx hv 0)
 f24 S a s i h0 hi hb v hv:=ykr h1.2.1 20 (e24 B S a s i h0 hi hb v hv 0)
 f65 S hb a x h0 h2 hx h:=by
  have hx0:=hx.1
  obtain⟨n0,hn⟩:=e65 B S hb a a.Next.toNat (by omega) x (by omega) hx (by omega) (by omega)
  rw[show a.Next+1+x.Slots=a.Next+(1+x.Slots) by omega]
  exact ykr h1.2.2.1 n0 (hn n0 (Av _))
 f65n a x h0 hx h:=ykr h1.2.2.1 40 (yr0 B a x (by omega) hx (by omega) 0)
 f66 S a s v i h0 hi hb hl:=ykr h1.2.2.2.1 20 (e66 B S a s v i h0 hi hb hl 0)
 f114 os hl a x h0 hx h st:=yr1 h1.2.2.2.2.1 h1.2.2.2.2.2 hk os hl a x h0 hx h st
 f114n os a x h0 hx h st:=yqu h1.2.2.2.2.1 h1.2.2.2.2.2 hk os a x h0 hx h st
def IceTo(st:HSt)(base:Nat)(h:HV)(v:PV):Prop:=
 (∀a∈rowsV st 2 h,base<=a)/\(h = .p v/\icyP v=v\/∃a o n z,h = .row a o n z)/\∀D,(∀a∈rowsV st 2 h,a∈D)->iceV st D 2 h=some (.p v)
theorem yhb{st:HSt}{base:Nat}{v:PV}(h:icyP v=v):IceTo st base (.p v) v:=
 ⟨fun a ha=>(by rw[ybn] at ha;cases ha),.inl ⟨rfl,h⟩,fun D _=>by simp only[iceV,h]⟩
theorem ylG{st:HSt}{base a len sz:Nat}{vs:List PV}(hb:base<=a)(h:st[a]? = some (.row sz len (vs.map HV.p)))(hl:vs.length=len*sz)(hf:∀v∈vs,v.free=true):IceTo st base (.row a 0 len sz) (.sl len vs):=by
 have e:rowsV st 2 (.row a 0 len sz)=[a]:=by rw[yau h,A5,←List.map_take,yaN]
 refine⟨fun c hc=>by rw[e] at hc;simp at hc;omega,.inr ⟨_,_,_,_,rfl⟩,fun D hD=>?_⟩
 rw[e] at hD
 have:=ybF (k:=3) (D:=D) (off:=0) (len:=len) (sz:=sz) (by simpa using hD a (by simp)) h (by simp[hl]) (by
  rw[A5,Aw (by simp[hl])]
  exact ycB hf)
 simp only[iceV,this,An]
theorem yn8{K:HCalls}{l li:List Nat}{f:Nat}(h1:l.contains f=false)(h2:li.contains f=true){ws:List HV}{st st' g:HSt}{sp:Nat}{h3 h4:HV}{v3 v4 v5:PV}(hv5:icyP v5=v5)(n:Nat)
 (e:evHF C0 K TH n f ws st=some (.tup [.agg [.ptr sp 0,h3,h4],.p v5],st'++g))(i3:IceTo (st'++g) st'.length h3 v3)(i4:IceTo (st'++g) st'.length h4 v4):
 ∃g',lev K l li f ws st=some (.tup [.agg [.ptr sp 0,.p v3,.p v4],.p v5],st'++g'):=by
 have sw:∀{h:HV} {v:PV},IceTo (st'++g) st'.length h v->rowsH (st'++g) 2 h=rowsV (st'++g) 2 h:=fun {h v} i=>by
  rcases i.2.1 with⟨rfl,_⟩|⟨a,o,n,z,rfl⟩
  ·rw[ycC,ybn]
  ·rfl
 have er:rowsH (st'++g) 4 (.tup [.agg [.ptr sp 0,h3,h4],.p v5])=rowsV (st'++g) 2 h3++rowsV (st'++g) 2 h4:=by
  have e1:rowsH (st'++g) 2 (.ptr sp 0)=[]:=rfl
  have e2:rowsV (st'++g) (Nat.succ 1) (.ptr sp 0)=[]:=rfl
  simp only[rowsH,Bn,List.flatMap_nil,e1,e2,sw i3,sw i4,ybn,Bt,Br]
 obtain⟨g',hg⟩:=ycD (rowsV (st'++g) 2 h3++rowsV (st'++g) 2 h4) st' g fun a ha=>by
  rcases Bl.1 ha with ha|ha
  ·exact i3.1 a ha
  ·exact i4.1 a ha
 have:=yfD (K:=K) h1 h2 n e (r':=.tup [.agg [.ptr sp 0,.p v3,.p v4],.p v5]) (by
  rw[er]
  have j3:=i3.2.2 (rowsV (st'++g) 2 h3++rowsV (st'++g) 2 h4) fun a ha=>Bz _ ha
  have j4:=i4.2.2 (rowsV (st'++g) 2 h3++rowsV (st'++g) 2 h4) fun a ha=>B3 _ ha
  simp only[iceV] at j3 j4 ⊢
  simp only[allO,iceV,j3,j4,hv5,An]
  rfl)
 exact⟨g',by rw[this,er,hg]⟩
open Go
set_option maxRecDepth 10000
set_option maxHeartbeats 4000000
theorem yip(A:List Area):icyP (.sl A.length (A.flatMap cArea)) = .sl A.length (A.flatMap cArea):=rfl
theorem yjP(L:List r26_Object):icyP (.sl L.length (L.flatMap cr26_Object)) = .sl L.length (L.flatMap cr26_Object):=rfl
theorem yd9(A:List Area):∀v∈A.flatMap cArea,v.free=true:=by
 intro v hv
 obtain⟨o,ho,hv⟩:=Cd.1 hv
 simp only[cArea,Bi,B8,or_false] at hv
 rcases hv with rfl|rfl|rfl<;>rfl
structure DoneW (K:HCalls) (ws0:List HV) (f:Nat) (st:HSt) (sp wb:Nat) (ws:List Int) (a0 a1 a2:Area) (L:List r26_Object):Prop where
 ex:∃st' ws' b0 b1 L',K f ws0 st=some (.tup [hW sp [b0,b1,a2] L',.p (.bool true)],st')/\SpaceAt st' sp wb ws'/\ws'.length=ws.length/\Keeps wb st st'/\Spc ws' [b0,b1,a2] L'/\L'.length<=L.length+1/\(b0.Lo=a0.Lo/\b0.Hi=a0.Hi)/\b1.Lo=a1.Lo/\b1.Hi=a1.Hi
variable {K:HCalls}
theorem yn9(C:KC K)(hk:∀ws st,K 69 ws st = .none){l li:List Nat}(h1:l.contains 69=false)(h2:li.contains 69=true){st:HSt}{sp wb:Nat}{ws:List Int}{a0 a1 a2:Area}{L:List r26_Object}
 (S:SpaceAt st sp wb ws)(hb:ws.length<1000000000)(H:Spc ws [a0,a1,a2] L)(hLen:L.length<100000)(area id slot nn mask:Int)(har:0<=area/\area<256)(hsl:0<=slot/\slot<256)(hma:0<=mask/\mask<65536):
 DoneW (lev K l li) [hW sp [a0,a1,a2] L,hOp 0 area id slot nn mask] 69 st sp wb ws a0 a1 a2 L:=by
 obtain⟨q,hq⟩:∃q,Int.tmod slot 7=q:=⟨_,rfl⟩
 have hq2:0<=q/\q<7:=by rw[←hq];exact⟨Int.tmod_nonneg _ hsl.1,Int.tmod_lt_of_pos _ (by decide)⟩
 obtain⟨x,hx,hxo,hxs⟩:=ymS (a:=q) (m:=mask) (by omega) hma
 have e35:=fun n st=>k35 C.toKPu hx n st
 obtain⟨_,lw,_⟩:=S.lt
 have pos:∀a∈[a0,a1,a2],0<a.Next/\a.Next<=a.Hi/\a.Hi<=ws.length:=fun a ha=>by
  have:=H.lay.ord a ha;have:=H.wsl a ha;omega
 have key:∀(k:Nat) (a:Area),[a0,a1,a2][k]? = some a ->
  ((∃g,lev K l li 69 [hW sp [a0,a1,a2] L,hOp 0 area id slot nn mask] st=some (.tup [hW sp ([a0,a1,a2].set k ⟨a.Lo,a.Hi,a.Next+1+x.Slots⟩) (L++[newO a x]),.p (.bool true)],st.set wb (wRow (mkW ws a.Next.toNat x))++g))/\a.Next+1+x.Slots<=a.Hi) \/
  (∃g,lev K l li 69 [hW sp [a0,a1,a2] L,hOp 0 area id slot nn mask] st=some (.tup [hW sp [a0,a1,a2] L,.p (.bool true)],st++g)) ->
  [a0,a1,a2].set k ⟨a.Lo,a.Hi,a.Next+1+x.Slots⟩=[(if k=0 then ⟨a.Lo,a.Hi,a.Next+1+x.Slots⟩ else a0),(if k=1 then ⟨a.Lo,a.Hi,a.Next+1+x.Slots⟩ else a1),a2] ->
  DoneW (lev K l li) [hW sp [a0,a1,a2] L,hOp 0 area id slot nn mask] 69 st sp wb ws a0 a1 a2 L:=by
  intro k a ha hr hset
  rcases hr with⟨⟨g,e⟩,hroom⟩|⟨g,e⟩
  ·have hm:=H.make ha hxo hroom
   rw[hset] at hm e
   refine⟨⟨_,mkW ws a.Next.toNat x,_,_,_,e,(S.set _ (yi2 _ _ _)).app g,yi2 _ _ _,(Keeps.set wb st _).trans (Keeps.app wb _ g),hm,by simp,?_⟩⟩
   rcases k with _|_|k
   ·simp at ha;subst ha;simp
   ·simp at ha;subst ha;simp
   ·simp
  ·exact⟨⟨_,ws,_,_,_,e,S.app g,rfl,Keeps.app wb _ g,H,by omega,⟨rfl,rfl⟩,rfl,rfl⟩⟩
 have f65:∀a∈[a0,a1,a2],a.Next+1+x.Slots<=a.Hi->∀n g,evHF C0 K TH (n+1) 65 [.ptr sp 0,hA a,hX x] (st++g)=some (.p (.tup [.agg [.int .i64 a.Lo,.int .i64 a.Hi,.int .i64 (a.Next+1+x.Slots)],.int .i64 a.Next]),st.set wb (wRow (mkW ws a.Next.toNat x))++(g++[.box [hI a.Lo,hI a.Hi,hI (a.Next+1+x.Slots)],.box [hI x.Slots,hI x.Mask],.box [hI a.Lo,hI a.Hi,hI (a.Next+1+x.Slots)]])):=fun a ha hr n g=>by
  have hp:=pos a ha
  have:=C.f65 (S.app g) (by omega) a x hp.1 hp.2.2 hxo hr
  rw[A6 _ _ lw,A4] at this
  exact yW this n
 have f65n:∀a∈[a0,a1,a2],a.Hi<a.Next+1+x.Slots->∀n g,evHF C0 K TH (n+1) 65 [.ptr sp 0,hA a,hX x] (st++g)=some (.p (.tup [.agg [.int .i64 a.Lo,.int .i64 a.Hi,.int .i64 a.Next],.int .i64 0]),st++(g++[.box [hI a.Lo,hI a.Hi,hI a.Next],.box [hI x.Slots,hI x.Mask],.box [hI a.Lo,hI a.Hi,hI a.Next]])):=fun a ha hr n g=>by
  have hp:=pos a ha
  have:=C.f65n (st:=st++g) (sp:=sp) a x (by omega) hxo hr
  rw[A4] at this
  exact yW this n
 have f114:∀(st':HSt),∀a∈[a0,a1,a2],a.Next+1+x.Slots<=a.Hi->∃G2:HSt->HSt,∀n g,evHF C0 K TH (n+1) 114 [hL L,hA a,hX x] (st'++g)=some (.p (.tup [.sl (L++[newO a x]).length ((L++[newO a x]).flatMap cr26_Object),.agg [.int .i64 a.Lo,.int .i64 a.Hi,.int .i64 (a.Next+1+x.Slots)],.bool true]),st'++(g++G2 g)):=fun st' a ha hr=>by
  have hp:=pos a ha
  obtain⟨G2,hG⟩:=Classical.axiomOfChoice (fun g:HSt=>C.f114 L hLen a x (by omega) hxo (by omega) (st'++g))
  exact⟨G2,fun n g=>by have:=hG g;rw[A4] at this;exact yW this n⟩
 have f114n:∀(st':HSt),∀a∈[a0,a1,a2],a.Hi<a.Next+1+x.Slots->∃G2:HSt->HSt,∀n g,evHF C0 K TH (n+1) 114 [hL L,hA a,hX x] (st'++g)=some (.p (.tup [.sl L.length (L.flatMap cr26_Object),.agg [.int .i64 a.Lo,.int .i64 a.Hi,.int .i64 a.Next],.bool false]),st'++(g++G2 g)):=fun st' a ha hr=>by
  have hp:=pos a ha
  obtain⟨G2,hG⟩:=Classical.axiomOfChoice (fun g:HSt=>C.f114n L a x (by omega) hxo (by omega) (st'++g))
  exact⟨G2,fun n g=>by have:=hG g;rw[A4] at this;exact yW this n⟩
 have hk01:Int.tmod area 2=0\/Int.tmod area 2=1:=by
  have h3:0<=Int.tmod area 2:=Int.tmod_nonneg _ har.1
  have h4:Int.tmod area 2<2:=Int.tmod_lt_of_pos _ (by decide)
  omega
 have mk:∀(st' g:HSt) (b:Nat) (A:List Area) (L':List r26_Object),st'.length=st.length->g[b]? = some (.row 3 3 ((A.flatMap cArea).map .p))->A.length=3 ->
  evHF C0 K TH (0+90) 69 [hW sp [a0,a1,a2] L,hOp 0 area id slot nn mask] st=some (.tup [.agg [.ptr sp 0,.row (st.length+b) 0 3 3,hL L'],.p (.bool true)],st'++g)->∃g',lev K l li 69 [hW sp [a0,a1,a2] L,hOp 0 area id slot nn mask] st=some (.tup [hW sp A L',.p (.bool true)],st'++g'):=fun st' g b A L' hl hg hA e=>by
  have e2:(st'++g)[st.length+b]? = some (.row 3 3 ((A.flatMap cArea).map .p)):=by
   rw[←hl,ym];exact hg
  have hc:(A.flatMap cArea).length=3*3:=by rw[yam yc1,hA]
  have:=yn8 (v5:=.bool true) h1 h2 rfl 90 e (ylG (by omega) e2 hc (yd9 A)) (yhb (yjP L'))
  rw[←hA] at this
  exact this
 rcases hk01 with hk0|hk0
 ·refine key 0 a0 rfl ?_ rfl
  have hm0:a0∈[a0,a1,a2]:=by simp
  by_cases hr:a0.Next+1+x.Slots<=a0.Hi
  ·left
   obtain⟨G2,hG⟩:=f114 (st.set wb (wRow (mkW ws a0.Next.toNat x))) a0 hm0 hr
   obtain⟨g,b,e1,e2⟩:=yr5 hk (yfG (st':=st.set wb (wRow (mkW ws a0.Next.toNat x))) (Ba ..)) a0 a1 a2 L area id slot nn mask q har hsl hq x G2 (by have:=pos a0 hm0;omega) (L++[newO a0 x]) e35 hk0 (f65 a0 hm0 hr) hG 0
   exact⟨mk _ g b _ _ (Ba ..) e2 rfl e1,hr⟩
  ·right
   obtain⟨G2,hG⟩:=f114n st a0 hm0 (by omega)
   obtain⟨g,b,e1,e2⟩:=yr6 hk (yfG (st':=st) rfl) a0 a1 a2 L area id slot nn mask q har hsl hq x G2 L e35 hk0 (f65n a0 hm0 (by omega)) hG 0
   exact mk _ g b _ _ rfl e2 rfl e1
 ·refine key 1 a1 rfl ?_ rfl
  have hm0:a1∈[a0,a1,a2]:=by simp
  by_cases hr:a1.Next+1+x.Slots<=a1.Hi
  ·left
   obtain⟨G2,hG⟩:=f114 (st.set wb (wRow (mkW ws a1.Next.toNat x))) a1 hm0 hr
   obtain⟨g,b,e1,e2⟩:=yr7 hk (yfG (st':=st.set wb (wRow (mkW ws a1.Next.toNat x))) (Ba ..)) a0 a1 a2 L area id slot nn mask q har hsl hq x G2 (by have:=pos a1 hm0;omega) (L++[newO a1 x]) e35 hk0 (f65 a1 hm0 hr) hG 0
   exact⟨mk _ g b _ _ (Ba ..) e2 rfl e1,hr⟩
  ·right
   obtain⟨G2,hG⟩:=f114n st a1 hm0 (by omega)
   obtain⟨g,b,e1,e2⟩:=yr8 hk (yfG (st':=st) rfl) a0 a1 a2 L area id slot nn mask q har hsl hq x G2 L e35 hk0 (f65n a1 hm0 (by omega)) hG 0
   exact mk _ g b _ _ rfl e2 rfl e1
theorem yjQ{α β:Type}{f:α->Option β}:∀{xs:List α} {us:List β} (j:Nat) {y:α} {v:β},allO f xs=some us->f y=some v->allO f (xs.set j y)=some (us.set j v)
 | [],us,j,y,v,h,h'=>by simp only[allO,Af] at h;subst h;rfl
 | x::xs,us,j,y,v,h,h'=>by
   simp only[allO] at h
   split at h
   ·rename_i a ars ha has
    obtain rfl:=Ag h
    cases j with
    | zero=>simp only[List.set_cons_zero,allO,h',has]
    | succ j=>simp only[List.set_cons_succ,allO,ha,yjQ j has h']
   ·cases h
theorem yjR{st:HSt}{k:Nat}{c:HV}:∀(vs:List PV) (j:Nat),((vs.map HV.p).set j c).flatMap (rowsV st k) = if j<vs.length then rowsV st k c else []
 | [],j=>by simp
 | v::vs,0=>by simp[ybn,yaN]
 | v::vs,j+1=>by simp[ybn,yjR vs j]
theorem ymV(C:KC K)(hk:∀ws st,K 69 ws st = .none){l li:List Nat}(h1:l.contains 69=false)(h2:li.contains 69=true){st:HSt}{sp wb:Nat}{ws:List Int}{a0 a1 a2:Area}{L:List r26_Object}
 (S:SpaceAt st sp wb ws)(hb:ws.length<1000000000)(H:Spc ws [a0,a1,a2] L)(hLen:L.length<100000)(kind area id slot nn mask:Int)(h0:¬kind=0)(hid:0<=id/\id<256)(hsl:0<=slot/\slot<256)(hnn:0<=nn/\nn<256):
 DoneW (lev K l li) [hW sp [a0,a1,a2] L,hOp kind area id slot nn mask] 69 st sp wb ws a0 a1 a2 L:=by
 obtain⟨_,lw,_⟩:=S.lt
 have same:∀g,evHF C0 K TH (0+90) 69 [hW sp [a0,a1,a2] L,hOp kind area id slot nn mask] st=some (.tup [.agg [.ptr sp 0,hAs [a0,a1,a2],hL L],.p (.bool true)],st++g)->DoneW (lev K l li) [hW sp [a0,a1,a2] L,hOp kind area id slot nn mask] 69 st sp wb ws a0 a1 a2 L:=fun g e=>by
  obtain⟨g',e'⟩:=yn8 (v5:=.bool true) h1 h2 rfl 90 e (yhb (yip _)) (yhb (yjP L))
  exact⟨⟨_,ws,_,_,_,e',S.app g',rfl,Keeps.app wb _ g',H,by omega,⟨rfl,rfl⟩,rfl,rfl⟩⟩
 by_cases hz:L.length=0
 ·have:L=[]:=A3 hz
  subst this
  obtain⟨g,e⟩:=yr9 (K:=K) hk (st:=st) (sp:=sp) [a0,a1,a2] kind area id slot nn mask h0 0
  exact same g e
 ·obtain⟨i,hi⟩:∃i:Nat,Int.tmod id (L.length:Int)=i:=⟨(Int.tmod id (L.length:Int)).toNat,by have:=Int.tmod_nonneg (L.length:Int) hid.1;omega⟩
  have hil:i<L.length:=by have:=Int.tmod_lt_of_pos id (show (0:Int)<L.length by omega);omega
  obtain⟨o,ho⟩:∃o,L[i]? = some o:=⟨L[i],by simp[hil]⟩
  have hom:=Bf ho
  have hok:=H.ok o hom
  have hoa:0<o.At:=H.lay.pos (k:=keyOf o) (Bm.2 ⟨o,hom,rfl⟩)
  by_cases hs0:o.Slots=[]
  ·obtain⟨g,e⟩:=ysa (K:=K) hk (st:=st) (sp:=sp) [a0,a1,a2] L kind area id slot nn mask h0 hid hLen i hi o ho hs0 0
   exact same g e
  ·obtain⟨m,hm⟩:∃m,o.Slots.length=m:=⟨_,rfl⟩
   have hm0:0<m:=by
    rcases Nat.eq_zero_or_pos m with h|h
    ·exact absurd (A3 (hm.trans h)) hs0
    ·exact h
   have hm16:m<=16:=by have:=hok.len;have:=hok.sh.2.1;omega
   obtain⟨s,hs⟩:∃s:Nat,Int.tmod slot (m:Int)=s:=⟨(Int.tmod slot (m:Int)).toNat,by have:=Int.tmod_nonneg (m:Int) hsl.1;omega⟩
   have hsm:s<m:=by have:=Int.tmod_lt_of_pos slot (show (0:Int)<m by omega);omega
   obtain⟨k,hk1⟩:∃k:Nat,Int.tmod nn ((L.length:Int)+1)=k:=⟨(Int.tmod nn ((L.length:Int)+1)).toNat,by have:=Int.tmod_nonneg ((L.length:Int)+1) hnn.1;omega⟩
   have hkl:k<=L.length:=by have:=Int.tmod_lt_of_pos nn (show (0:Int)<(L.length:Int)+1 by omega);omega
   obtain⟨v,hv,hv2⟩:∃v:Int,((ptB o.Shape s=false/\v=nn)\/(ptB o.Shape s=true/\∃k:Nat,Int.tmod nn ((L.length:Int)+1)=k/\((k=L.length/\v=0)\/(∃o':r26_Object,L[k]? = some o'/\v=o'.At))))/\(ptB o.Shape s=true->v=0\/∃o'∈L,o'.At=v):=by
    cases hp:ptB o.Shape s with
    | false=>exact⟨nn,.inl ⟨rfl,rfl⟩,fun h=>by cases h⟩
    | true=>
      by_cases hkk:k=L.length
      ·exact⟨0,.inr ⟨rfl,k,hk1,.inl ⟨hkk,rfl⟩⟩,fun _=>.inl rfl⟩
      ·have hkl':k<L.length:=by omega
       exact⟨L[k].At,.inr ⟨rfl,k,hk1,.inr ⟨L[k],by simp[hkl'],rfl⟩⟩,fun _=>.inr ⟨L[k],Au hkl',rfl⟩⟩
   have hw:o.At.toNat+1+s<ws.length:=by
    have hs':s<o.Slots.length:=by omega
    exact (Ad.1 (hok.sl s o.Slots[s] (by simp[hs']))).1
   have e23:=fun n st=>k23 C.toKPu hok.sh (s:Int) n st
   have e66:∀n g,evHF C0 K TH (n+1) 66 [.ptr sp 0,hI o.At,hI s,hI v] (st++g)=some (.p (.tup []),st.set wb (wRow (ws.set (o.At.toNat+1+s) v))++g):=fun n g=>by
    have:=C.f66 (S.app g) o.At s v (o.At.toNat+1+s) (by omega) (by omega) (by omega) hw
    rw[A6 _ _ lw] at this
    exact yW this n
   obtain⟨g,e,e3,e4⟩:=ysb (K:=K) hk (yfG (st:=st) (st':=st.set wb (wRow (ws.set (o.At.toNat+1+s) v))) (Ba ..)) (sp:=sp) [a0,a1,a2] L kind area id slot nn mask h0 hid hsl hnn hLen i hi o ho m hm hm0 (by omega) s hs hsm (ptB o.Shape s) e23 v hv e66 0
   have hsp:=H.store ho (s:=s) (by omega) hv2
   have hlst:(st.set wb (wRow (ws.set (o.At.toNat+1+s) v))).length=st.length:=Ba ..
   have hc:=ybz L
   have e3':(st.set wb (wRow (ws.set (o.At.toNat+1+s) v))++g)[st.length+4]? = some (.row 4 L.length (((L.flatMap cr26_Object).map HV.p).set (i*4+3) (.row (st.length+6) 0 m 1))):=by rw[←hlst,ym];rw[hlst];exact e3
   have e4':(st.set wb (wRow (ws.set (o.At.toNat+1+s) v))++g)[st.length+6]? = some (.row 1 m (((o.Slots.set s v).flatMap (cint .i64)).map HV.p)):=by rw[←hlst,ym];exact e4
   have hcs:((o.Slots.set s v).flatMap (cint .i64)).length=m:=by rw[yam (ybl .i64)];simp[hm]
   have hfree:∀x∈(o.Slots.set s v).flatMap (cint .i64),x.free=true:=fun x hx=>by
    rw[ycE] at hx;obtain⟨a,_,rfl⟩:=Bm.1 hx;rfl
   have er:rowsV (st.set wb (wRow (ws.set (o.At.toNat+1+s) v))++g) 2 (.row (st.length+4) 0 L.length 4)=[st.length+4,st.length+6]:=by
    rw[yau e3',A5,Aw (by simp[hc]),yjR,if_pos (by rw[hc];omega),yau e4',A5,←List.map_take,yaN]
   have ic:IceTo (st.set wb (wRow (ws.set (o.At.toNat+1+s) v))++g) (st.set wb (wRow (ws.set (o.At.toNat+1+s) v))).length (.row (st.length+4) 0 L.length 4) (.sl (L.set i ⟨o.At,o.Shape,o.Slots.set s v⟩).length ((L.set i ⟨o.At,o.Shape,o.Slots.set s v⟩).flatMap cr26_Object)):=by
    refine⟨fun a ha=>by rw[er] at ha;rw[hlst];simp at ha;omega,.inr ⟨_,_,_,_,rfl⟩,fun D hD=>?_⟩
    rw[er] at hD
    have j6:rdD (st.set wb (wRow (ws.set (o.At.toNat+1+s) v))++g) D 3 (.row (st.length+6) 0 m 1)=some (.sl m ((o.Slots.set s v).flatMap (cint .i64))):=by
     refine ybF (by simpa using hD (st.length+6) (by simp)) e4' (by simp[hcs]) ?_
     rw[A5,Aw (by simp[hcs])]
     exact ycB hfree
    have j4:rdD (st.set wb (wRow (ws.set (o.At.toNat+1+s) v))++g) D 4 (.row (st.length+4) 0 L.length 4)=some (.sl L.length ((L.flatMap cr26_Object).set (i*4+3) (.sl m ((o.Slots.set s v).flatMap (cint .i64))))):=by
     refine ybF (by simpa using hD (st.length+4) (by simp)) e3' (by simp[hc]) ?_
     rw[A5,Aw (by simp[hc])]
     exact yjQ _ (ycB (ybo L)) j6
    have j5:(L.flatMap cr26_Object).set (i*4+3) (.sl m ((o.Slots.set s v).flatMap (cint .i64)))=(L.set i ⟨o.At,o.Shape,o.Slots.set s v⟩).flatMap cr26_Object:=by
     have:=ykY yH L i 3 o ⟨o.At,o.Shape,o.Slots.set s v⟩ [.sl m ((o.Slots.set s v).flatMap (cint .i64))] ho (by simp) (by simp[setCells,cr26_Object,hm])
     simpa[setCells] using this
    simp only[iceV,j4,An,j5,Ba]
   obtain⟨g',e'⟩:=yn8 (v5:=.bool true) h1 h2 rfl 90 e (yhb (yip _)) ic
   exact⟨⟨_,ws.set (o.At.toNat+1+s) v,_,_,_,e',(S.set _ (Ba ..)).app g',Ba ..,(Keeps.set wb st _).trans (Keeps.app wb _ g'),hsp,by simp,⟨rfl,rfl⟩,rfl,rfl⟩⟩
open Go
set_option maxRecDepth 10000
set_option maxHeartbeats 4000000
structure Same (n:Nat) (st st':HSt):Prop where
 len:st.length<=st'.length
 get:∀i,i<n->st'[i]? = st[i]?
theorem Same.refl(n:Nat)(st:HSt):Same n st st:=⟨Av _,fun _ _=>rfl⟩
theorem Same.trans{n:Nat}{a b c:HSt}(h:Same n a b)(h':Same n b c):Same n a c:=⟨B5 h.len h'.len,fun i hi=>(h'.get i hi).trans (h.get i hi)⟩
theorem Same.app{n:Nat}{st:HSt}(h:n<=st.length)(g:HSt):Same n st (st++g):=⟨by simp,fun i hi=>Aj (by omega)⟩
theorem Same.setapp{n b:Nat}{st:HSt}(h:n<=st.length)(hb:n<=b)(x:HB)(g:HSt):Same n st (st.set b x++g):=
 ⟨by simp,fun i hi=>by rw[Aj (by simp;omega),Ar (by omega)]⟩
theorem Same.space{n sp wb:Nat}{ws:List Int}{st st':HSt}(h:Same n st st')(S:SpaceAt st sp wb ws)(h1:sp<n)(h2:wb<n):SpaceAt st' sp wb ws:=
 ⟨by rw[h.get _ h1];exact S.s,by rw[h.get _ h2];exact S.w⟩
theorem Same.some{n i:Nat}{st st':HSt}{x:HB}(h:Same n st st')(hi:i<n)(e:st[i]? = Option.some x):st'[i]? = Option.some x:=by rw[h.get _ hi,e]
def RowI(base:Nat)(st:HSt)(h:HV)(xs:List Int):Prop:=(xs=[]/\h = .p .nils)\/∃b,xs≠[]/\base<=b/\h = .row b 0 xs.length 1/\st[b]? = some (.row 1 xs.length (xs.map fun n=>.p (.int .i64 n)))
theorem yes(xs:List Int):(xs.map fun n=>HV.p (.int .i64 n))=(xs.flatMap (cint .i64)).map HV.p:=by rw[ycE,Cl];rfl
theorem ycc(xs:List Int):∀v∈xs.flatMap (cint .i64),v.free=true:=fun v hv=>by
 rw[ycE] at hv;obtain⟨a,_,rfl⟩:=Bm.1 hv;rfl
theorem ybG(xs:List Int):(xs.flatMap (cint .i64)).length=xs.length*1:=yam (ybl .i64) xs
theorem yqw{K:HCalls}{l li:List Nat}{f:Nat}(h1:l.contains f=false)(h2:li.contains f=true){ws:List HV}{st g:HSt}{h:HV}{xs:List Int}(n:Nat)(e:evHF C0 K TH n f ws st=some (h,st++g))(R:RowI st.length (st++g) h xs):
 ∃g',lev K l li f ws st=some (hN xs,st++g'):=by
 rcases R with⟨rfl,rfl⟩|⟨b,hne,hb,rfl,hst⟩
 ·have:=yfD (K:=K) h1 h2 n e (r':=hN []) (by rw[ycC];rfl)
  rw[ycC] at this
  exact⟨g,this⟩
 ·rw[yes] at hst
  have er:rowsH (st++g) 4 (.row b 0 xs.length 1)=[b]:=by
   show rowsV (st++g) 4 _=_
   rw[yau hst,A5,←List.map_take,yaN]
  obtain⟨g',hg⟩:=ycD [b] st g (by simpa using hb)
  have:=ybF (k:=3) (D:=[b]) (off:=0) (len:=xs.length) (sz:=1) (by simp) hst (by rw[Bh,ybG];omega) (by
   rw[A5,Aw (by rw[Bh,ybG];omega)]
   exact ycB (ycc xs))
  have:=yfD (K:=K) h1 h2 n e (r':=hN xs) (by
   rw[er]
   simp only[iceV,this,An])
  exact⟨g',by rw[this,er,hg]⟩
variable {K:HCalls}
def env76(sp p3:Nat)(h:HV)(at':Int):HEnv:=[(0,.ptr sp 0),(3,.ptr p3 0),(5,h),(6,.p (.int .i64 at'))]
theorem ypu(B:KB K){st:HSt}{sp wb p3 base:Nat}{ws:List Int}(S:SpaceAt st sp wb ws)(hbase:base<=st.length)(h1:sp<base/\wb<base/\p3<base){lo hi nx:Int}(e3:st[p3]? = some (.box [hI lo,hI hi,hI nx])){o:r26_Object}(ho:ObjOk ws o)(hpos:0<o.At)(hlt:o.At<nx)(hnx:nx<1000000000)
 {h:HV}{xs:List Int}(hxs:xs.length<100000)(R:RowI base st h xs):
 ∃st1 h1,Run C0 K TH h76l0 (env76 sp p3 h o.At,st) .norm (env76 sp p3 h1 (o.At+1+o.Slots.length),st1)/\RowI base st1 h1 (xs++[o.At])/\Same base st st1:=by
 obtain⟨a,ha⟩:∃a:Nat,o.At=a:=⟨o.At.toNat,by omega⟩
 have hhd:=ho.hd
 have hlen:=ho.len
 have h16:=ho.sh.2.1
 rw[ha] at hhd hlt hpos ⊢
 rw[Bq] at hhd
 have f3:∀g:HSt,(st++g)[p3]? = some (.box [hI lo,hI hi,hI nx]):=fun g=>by rw[Aj (Ad.1 e3).1];exact e3
 have e22:=fun (g:HSt) n=>e22 B (S.app g) a (by omega) ho.sh hhd n
 have e22':=fun n=>Go.Ab.e22 B S a (by omega) ho.sh hhd n
 have w1:IntKind.i64.wrap (1+o.Shape.Slots)=1+o.Shape.Slots:=yK (by omega)
 have w2:IntKind.i64.wrap ((a:Int)+(1+o.Shape.Slots))=(a:Int)+1+o.Slots.length:=by rw[yK (by omega)];omega
 rcases R with⟨rfl,rfl⟩|⟨b,hne,hb,rfl,hst⟩
 ·apply Exists.intro
  apply Exists.intro
  refine⟨Run.of 60 ?_,?_,?_⟩
  ·simp (config:={ maxSteps:=4000000 }) [↓yg,↓yc,yl,h76l0,env76,e3,f3,hlt,e22,e22',w1,w2]
   all_goals exact⟨rfl,rfl⟩
  ·exact .inr ⟨_,by simp,by omega,rfl,by rw[ym];rfl⟩
  ·exact Same.app hbase _
 ·have hbl:b<st.length:=(Ad.1 hst).1
  have hx0:0<xs.length:=Cf.2 hne
  obtain⟨m,hm⟩:∃m,xs.length=m:=⟨_,rfl⟩
  have f4:∀g:HSt,(st++g)[b]? = some (.row 1 xs.length (xs.map fun n=>.p (.int .i64 n))):=fun g=>by rw[Aj hbl];exact hst
  have c1:(m+1)*8<=1099511627776:=by omega
  have c2:m+1<=1099511627776:=by omega
  have c3:(xs.map fun n=>HV.p (.int .i64 n)).take m=xs.map fun n=>HV.p (.int .i64 n):=Aw (by simp;omega)
  have f5:∀(g:HSt) (x:HB),(st++g).set b x=st.set b x++g:=fun g x=>A6 _ _ hbl
  rw[hm] at f4
  simp only[hm]
  apply Exists.intro
  apply Exists.intro
  refine⟨Run.of 60 ?_,?_,?_⟩
  ·simp (config:={ maxSteps:=4000000 }) [↓yg,↓yc,yl,h76l0,env76,e3,f3,f4,f5,hlt,e22,e22',w1,w2,hm,c1,c2,c3]
   all_goals exact⟨rfl,rfl⟩
  ·refine .inr ⟨_,by simp,?_,by simp[hm];rfl,?_⟩
   rotate_left
   ·simp[hm]
   ·omega
  ·exact Same.setapp hbase hb _ _
theorem ypv{st:HSt}{sp p3:Nat}{lo hi nx:Int}(e3:st[p3]? = some (.box [hI lo,hI hi,hI nx])){h:HV}{base:Nat}{xs:List Int}(R:RowI base st h xs):Run C0 K TH h76l0 (env76 sp p3 h nx,st) (.exit 0) ([(5,h)],st):=by
 rcases R with⟨rfl,rfl⟩|⟨b,hne,hb,rfl,hst⟩
 ·refine Run.of 60 ?_
  simp (config:={ maxSteps:=4000000 }) [↓yg,↓yc,yl,h76l0,env76,e3]
 ·refine Run.of 60 ?_
  simp (config:={ maxSteps:=4000000 }) [↓yg,↓yc,yl,h76l0,env76,e3]
theorem ynq(B:KB K){sp wb p3 base:Nat}{ws:List Int}(h1:sp<base/\wb<base/\p3<base){lo hi nx:Int}(hnx:nx<1000000000):∀(os:List r26_Object) (at':Int) (xs:List Int) (st:HSt) (h:HV),
 SpaceAt st sp wb ws->base<=st.length->st[p3]? = some (.box [hI lo,hI hi,hI nx])->(∀o∈os,ObjOk ws o/\0<o.At)->Chain at' (os.map keyOf) nx->xs.length+os.length<100000->RowI base st h xs ->
 ∃st1 h1,Run C0 K TH (.loop h76l0 [0,3,5,6]) (env76 sp p3 h at',st) (.exit 0) ([(5,h1)],st1)/\RowI base st1 h1 (xs++os.map r26_Object.At)/\Same base st st1
 | [],at',xs,st,h,S,hb,e3,ho,hc,hl,R=>by
   simp only[List.map_nil,Chain] at hc
   subst hc
   exact⟨st,h,Run.loopX (ypv e3 R) (by simp),by simpa using R,Same.refl _ _⟩
 | o::os,at',xs,st,h,S,hb,e3,ho,hc,hl,R=>by
   simp only[Bu,Chain,keyOf] at hc
   obtain⟨rfl,hc⟩:=hc
   obtain⟨o1,o2⟩:=ho o (by simp)
   have hle:=hc.le
   have hl':xs.length<100000:=by simp only[Bv] at hl;omega
   obtain⟨st1,h2,r1,R1,S1⟩:=ypu B S hb h1 e3 o1 o2 (by omega) hnx hl' R
   obtain⟨st2,h3,r2,R2,S2⟩:=ynq B h1 hnx os _ (xs++[o.At]) st1 h2 (S1.space S h1.1 h1.2.1) (B5 hb S1.len) (S1.some h1.2.2 e3) (fun o' h'=>ho o' (by simp[h'])) hc (by simp only[Bj,Bv,Cc] at hl ⊢;omega) R1
   refine⟨st2,h3,Run.loopN r1 ?_,by simpa using R2,S1.trans S2⟩
   have:(env76 sp p3 h2 (o.At+1+o.Slots.length)).keep [0,3,5,6]=env76 sp p3 h2 (o.At+1+o.Slots.length):=by simp[env76,HEnv.keep]
   rw[this]
   exact r2
theorem e76(B:KB K){st:HSt}{sp wb:Nat}{ws:List Int}(S:SpaceAt st sp wb ws){a:Area}(ha:a.Next<1000000000){os:List r26_Object}(ho:∀o∈os,ObjOk ws o/\0<o.At)(hc:Chain a.Lo (os.map keyOf) a.Next)(hl:os.length<100000):
 ∃g h n,evHF C0 K TH n 76 [.ptr sp 0,hA a] st=some (h,st++g)/\RowI st.length (st++g) h (os.map r26_Object.At):=by
 obtain⟨l1,l2,l3⟩:=S.lt
 have e3:(st++[HB.box [hI a.Lo,hI a.Hi,hI a.Next]])[st.length]? = some (.box [hI a.Lo,hI a.Hi,hI a.Next]):=by rw[yy];rfl
 obtain⟨st1,h1,r1,R1,S1⟩:=ynq B (base:=st.length+1) (p3:=st.length) (ws:=ws) ⟨by omega,by omega,by omega⟩ ha os a.Lo [] _ (.p .nils) (S.app [.box [hI a.Lo,hI a.Hi,hI a.Next]]) (by simp) e3 ho hc (by simpa using hl) (.inl ⟨rfl,rfl⟩)
 obtain⟨n0,hn0⟩:=Run.all r1
 simp only[env76] at hn0
 obtain⟨g,rfl⟩:∃g,st1=st++g:=⟨st1.drop st.length,by
  apply List.ext_getElem?
  intro i
  by_cases hi:i<st.length
  ·rw[Aj hi,S1.get i (by omega),Aj hi]
  ·rw[A7 (by omega),List.getElem?_drop];congr 1;omega⟩
 refine⟨g,h1,n0+60,?_,?_⟩
 ·refine yD (n:=n0+59) (B.no 76 rfl) (x:=h76) rfl rfl ?_
  rcases R1 with⟨h3,rfl⟩|⟨b,hne,hb,rfl,hst⟩
  ·simp (config:={ maxSteps:=4000000 }) [↓yg,↓yc,yl,h76,hn0]
  ·simp (config:={ maxSteps:=4000000 }) [↓yg,↓yc,yl,h76,hn0]
 ·rcases R1 with⟨h3,rfl⟩|⟨b,hne,hb,rfl,hst⟩
  ·exact .inl ⟨by simpa using h3,rfl⟩
  ·exact .inr ⟨b,by simpa using hne,by omega,rfl,by simpa using hst⟩
open Go
set_option maxRecDepth 10000
set_option maxHeartbeats 4000000
structure KD (K:HCalls):Prop extends KC K where
 f64:∀(a b c:Int) (st:HSt) (h:0<=a/\a<=2000000/\0<=b/\b<=2000000/\0<=c/\c<=2000000),
  ∃g,K 64 [.row st.length 0 3 1] (st++[.row 1 3 [hI a,hI b,hI c]])=some (.tup [.ptr (st.length+8) 0,.row (st.length+6) 0 3 3],st++g)/\g.length=9 /\
   g[6]? = some (.row 3 3 [hI 1,hI (1+a),hI 1,hI (1+a),hI (1+a+b),hI (1+a),hI (1+a+b),hI (1+a+b+c),hI (1+a+b)]) /\
   g[7]? = some (wRow (List.replicate (1+a+b+c).toNat 0))/\g[8]? = some (.box [.row (st.length+7) 0 (1+a+b+c).toNat 1])
 f76:∀{st:HSt} {sp wb:Nat} {ws:List Int} (S:SpaceAt st sp wb ws) {a:Area} (ha:a.Next<1000000000) {os:List r26_Object} (ho:∀o∈os,ObjOk ws o/\0<o.At) (hc:Chain a.Lo (os.map keyOf) a.Next) (hl:os.length<100000),
  ∃g,K 76 [.ptr sp 0,hA a] st=some (hN (os.map r26_Object.At),st++g)
theorem yqx{K:HCalls}(B:KB K)(hk:∀ws st,K 114 ws st = .none){l li:List Nat}(h1:l.contains 22=true/\l.contains 24=true/\l.contains 65=true/\l.contains 66=true/\l.contains 114=false/\li.contains 114=true)
 (h2:l.contains 64=true/\l.contains 76=false/\li.contains 76=true)(hp:lp.all (fun f=>!l.contains f && !li.contains f)=true):KD (lev K l li) where
 toKC:=yqv B hk h1 hp
 f64 a b c st h:=by
  obtain⟨g,e,h3⟩:=e64 B 0 a b c st h
  exact⟨g,ykr h2.1 40 e,h3⟩
 f76 S _ ha _ ho hc hl:=by
  obtain⟨g,h,n,e,R⟩:=e76 B S ha ho hc hl
  exact yqw h2.2.1 h2.2.2 n e R
variable {K:HCalls}
theorem e68(C:KD K)(hk:∀ws st,K 68 ws st = .none)(z:Int)(h:0<=z/\z<=255)(N:Int)(hN:N=z.tmod 60+20)(st:HSt):
 ∃g,evHF C0 K TH 60 68 [.p (.int .u8 z)] st=some (.agg [.ptr (st.length+8) 0,.row (st.length+6) 0 3 3,.p .nils],st++g)/\g[6]? = some (.row 3 3 (([⟨1,1+N,1⟩,⟨1+N,1+N+N,1+N⟩,⟨1+N+N,1+N+N+2*N,1+N+N⟩]:List Area).flatMap cArea |>.map .p)) /\
  g[7]? = some (wRow (List.replicate (1+N+N+2*N).toNat 0))/\g[8]? = some (.box [.row (st.length+7) 0 (1+N+N+2*N).toNat 1]):=by
 have h2:20<=N/\N<80:=by
  have h3:0<=z.tmod 60:=Int.tmod_nonneg _ h.1
  have h4:z.tmod 60<60:=Int.tmod_lt_of_pos _ (by decide)
  omega
 have w0:IntKind.i64.wrap z=z:=yK (by omega)
 have w1:IntKind.i64.wrap (z.tmod 60+20)=N:=by rw[←hN];exact yK (by omega)
 have w2:IntKind.i64.wrap (2*N)=2*N:=yK (by omega)
 obtain⟨g,e,hg,g6,g7,g8⟩:=C.f64 N N (2*N) st (by omega)
 have e':=fun n=>yW e n
 refine⟨g++[.box [.ptr (st.length+8) 0,.row (st.length+6) 0 3 3,.p .nils]],yD (n:=59) hk (x:=h68) rfl rfl ?_,?_,?_,?_⟩
 ·simp (config:={ maxSteps:=4000000 }) [↓yg,↓yc,yl,h68,w0,w1,w2,e',hg]
 ·rw[Aj (by omega),g6];rfl
 ·rw[Aj (by omega),g7]
 ·rw[Aj (by omega),g8]
theorem yoa(N:Int)(hN:20<=N):Spc (List.replicate (1+N+N+2*N).toNat 0) [⟨1,1+N,1⟩,⟨1+N,1+N+N,1+N⟩,⟨1+N+N,1+N+N+2*N,1+N+N⟩] []:=by
 refine⟨⟨?_,?_,fun k hk=>(by cases hk),?_,List.Pairwise.nil⟩,fun o h=>(by cases h),fun o h=>(by cases h),?_⟩
 ·simp;omega
 ·simp[Chain]
 ·simp;omega
 ·simp;omega
theorem ypw(C:KD K)(hk:∀ws st,K 68 ws st = .none){l li:List Nat}(h1:l.contains 68=false)(h2:li.contains 68=true)(z:Int)(h:0<=z/\z<=255)(st:HSt):
 ∃N sp wb g,(20<=N/\N<80)/\lev K l li 68 [.p (.int .u8 z)] st=some (hW sp [⟨1,1+N,1⟩,⟨1+N,1+N+N,1+N⟩,⟨1+N+N,1+N+N+2*N,1+N+N⟩] [],st++g) /\
  SpaceAt (st++g) sp wb (List.replicate (1+N+N+2*N).toNat 0):=by
 have hN:20<=z.tmod 60+20/\z.tmod 60+20<80:=by
  have h3:0<=z.tmod 60:=Int.tmod_nonneg _ h.1
  have h4:z.tmod 60<60:=Int.tmod_lt_of_pos _ (by decide)
  omega
 obtain⟨N,hN1⟩:∃N,N=z.tmod 60+20:=⟨_,rfl⟩
 obtain⟨g,e,g6,g7,g8⟩:=e68 C hk z h N hN1 st
 rw[←hN1] at hN
 have e6:(st++g)[st.length+6]? = _:=(ym st g 6).trans g6
 have e7:(st++g)[st.length+7]? = _:=(ym st g 7).trans g7
 have e8:(st++g)[st.length+8]? = _:=(ym st g 8).trans g8
 have er:rowsH (st++g) 4 (.agg [.ptr (st.length+8) 0,.row (st.length+6) 0 3 3,.p .nils])=[st.length+6]:=by
  have q1:rowsH (st++g) 3 (.ptr (st.length+8) 0)=[]:=rfl
  have q2:rowsH (st++g) 3 (.row (st.length+6) 0 3 3)=[st.length+6]:=by
   show rowsV (st++g) 3 _=_
   rw[yau e6,A5,←List.map_take,yaN]
  simp only[rowsH,Bn,List.flatMap_nil]
  have q3:rowsV (st++g) (Nat.succ 2) (.ptr (st.length+8) 0)=[]:=rfl
  have q4:rowsV (st++g) (Nat.succ 2) (.row (st.length+6) 0 3 3)=[st.length+6]:=q2
  simp only[q3,q4,ybn,Bt,Br]
 obtain⟨g',hg⟩:=ycD [st.length+6] st g (by simp)
 have hr:=ybF (k:=3) (D:=[st.length+6]) (off:=0) (len:=3) (sz:=3) (by simp) e6 (by simp[cArea]) (by
  rw[A5,Aw (by simp[cArea])]
  exact ycB (yd9 _))
 have:=yfD (K:=K) h1 h2 60 e (r':=hW (st.length+8) [⟨1,1+N,1⟩,⟨1+N,1+N+N,1+N⟩,⟨1+N+N,1+N+N+2*N,1+N+N⟩] []) (by
  rw[er]
  simp only[iceV,allO,hr,An]
  rfl)
 rw[er,hg] at this
 refine⟨N,st.length+8,st.length+7,g',hN,this,?_⟩
 have kd:=yaD [st.length+6] (st++g)
 rw[hg] at kd
 refine⟨?_,?_⟩
 ·rw[kd,if_neg (by simp),e8,Cn]
 ·rw[kd,if_neg (by simp),e7]
structure KE (K:HCalls):Prop extends KPu K where
 f22:∀{st:HSt} {sp wb:Nat} {ws:List Int} {x:Shape} (S:SpaceAt st sp wb ws) (i:Nat) (h0:0<i) (hx:OkSh x) (hv:ws[i]? = some (hdB x)),
  K 22 [.ptr sp 0,hI i] st=some (.p (.tup [.agg [.int .i64 x.Slots,.int .i64 x.Mask],.int .i64 0]),st++[.box [hI x.Slots,hI x.Mask]])
 f24:∀{st:HSt} {sp wb:Nat} {ws:List Int} (S:SpaceAt st sp wb ws) (a s:Int) (i:Nat) (h0:0<=a/\0<=s) (hi:a+1+s=(i:Int)) (hb:i<140737488355328) (v:Int) (hv:ws[i]? = some v),K 24 [.ptr sp 0,hI a,hI s] st=some (hI v,st)
 f76:∀{st:HSt} {sp wb:Nat} {ws:List Int} (S:SpaceAt st sp wb ws) {a:Area} (ha:a.Next<1000000000) {os:List r26_Object} (ho:∀o∈os,ObjOk ws o/\0<o.At) (hc:Chain a.Lo (os.map keyOf) a.Next) (hl:os.length<100000),
  ∃g,K 76 [.ptr sp 0,hA a] st=some (hN (os.map r26_Object.At),st++g)
 f68:∀(z:Int) (h:0<=z/\z<=255) (st:HSt),∃N sp wb g,(20<=N/\N<80)/\K 68 [.p (.int .u8 z)] st=some (hW sp [⟨1,1+N,1⟩,⟨1+N,1+N+N,1+N⟩,⟨1+N+N,1+N+N+2*N,1+N+N⟩] [],st++g) /\
    SpaceAt (st++g) sp wb (List.replicate (1+N+N+2*N).toNat 0)
 f69:∀{st:HSt} {sp wb:Nat} {ws:List Int} {a0 a1 a2:Area} {L:List r26_Object} (S:SpaceAt st sp wb ws) (hb:ws.length<1000000000) (H:Spc ws [a0,a1,a2] L) (hLen:L.length<100000) (kind area id slot nn mask:Int) (hid:0<=id/\id<256) (har:0<=area/\area<256) (hsl:0<=slot/\slot<256) (hnn:0<=nn/\nn<256) (hma:0<=mask/\mask<65536),
  DoneW K [hW sp [a0,a1,a2] L,hOp kind area id slot nn mask] 69 st sp wb ws a0 a1 a2 L
theorem yqy(C:KD K)(hk:(∀ws st,K 68 ws st = .none)/\∀ws st,K 69 ws st = .none){l li:List Nat}(h1:l.contains 68=false/\li.contains 68=true/\l.contains 69=false/\li.contains 69=true)
 (hp:([22,24,76]++lp).all (fun f=>!l.contains f && !li.contains f)=true):KE (lev K l li):=by
 have hn:∀f,([22,24,76]++lp).contains f=true->lev K l li f=K f:=fun f hf=>by
  have:=Ax.1 hp f (by simpa using hf)
  simp only[Ay,Bool.not_eq_true'] at this
  exact yaM this.1 this.2
 refine { pu:=fun f hf=>?_,f22:=fun S i h0 hx hv=>?_,f24:=fun S a s i h0 hi hb v hv=>?_,f76:=fun S _ ha _ ho hc hl=>?_,f68:=fun z h st=>?_,f69:=fun S hb H hLen kind area id slot nn mask hid har hsl hnn hma=>?_ }
 ·rw[hn f (by simp at hf ⊢;simp[hf])];exact C.pu f hf
 ·rw[hn 22 (by decide)];exact C.f22 S i h0 hx hv
 ·rw[hn 24 (by decide)];exact C.f24 S a s i h0 hi hb v hv
 ·rw[hn 76 (by decide)];exact C.f76 S ha ho hc hl
 ·exact ypw C hk.1 h1.1 h1.2.1 z h st
 ·by_cases h0:kind=0
  ·subst h0
   exact yn9 C.toKC hk.2 h1.2.2.1 h1.2.2.2 S hb H hLen area id slot nn mask har hsl hma
  ·exact ymV C.toKC hk.2 h1.2.2.1 h1.2.2.2 S hb H hLen kind area id slot nn mask h0 hid hsl hnn
open Go
set_option maxRecDepth 10000
set_option maxHeartbeats 4000000
variable {K:HCalls}
abbrev hOps(ops:List l26_Op):HV:=.p (.sl ops.length (ops.flatMap cl26_Op))
def OkOp(o:l26_Op):Prop:=(0<=o.Id/\o.Id<256)/\(0<=o.Area/\o.Area<256)/\(0<=o.Slot/\o.Slot<256)/\(0<=o.N/\o.N<256)/\(0<=o.Mask/\o.Mask<65536)
def env16(ops:List l26_Op)(v4:HV)(p6 i:Nat):HEnv:=[(1,hOps ops),(4,v4),(6,.ptr p6 0),(7,.p (.bool true)),(8,hI i)]
theorem ynr(ops:List l26_Op)(v4:HV)(p6 i:Nat)(h:¬i<ops.length)(st:HSt):Run C0 K TH h16l0 (env16 ops v4 p6 i,st) (.exit 0) ([(4,v4),(6,.ptr p6 0),(7,.p (.bool true))],st):=by
 have h':¬(i:Int)<ops.length:=by omega
 refine Run.of 60 ?_
 simp (config:={ maxSteps:=4000000 }) [↓yg,↓yc,yl,h16l0,env16,h,h']
theorem ypx(ops:List l26_Op)(p4 p6 i:Nat)(o:l26_Op)(ho:ops[i]? = some o)(hl:ops.length<100000)(st st':HSt)(h3 h4 h5 h3' h4' h5':HV)(hone:HV.one h3'=true/\HV.one h4'=true/\HV.one h5'=true)(hnp:∀v,h3 ≠ .p v)(hnp':∀v,h3' ≠ .p v)(e6:st[p6]? = some (.box [h3,h4,h5]))(e6':st'[p6]? = some (.box [h3,h4,h5]))
 (e69:∀n,evHF C0 K TH (n+1) 69 [.agg [h3,h4,h5],hOp o.Kind o.Area o.Id o.Slot o.N o.Mask] st=some (.tup [.agg [h3',h4',h5'],.p (.bool true)],st')):
 Run C0 K TH h16l0 (env16 ops (.ptr p4 0) p6 i,st) .norm (env16 ops (.ptr p4 0) p6 (i+1),st'.set p6 (.box [h3',h4',h5'])):=by
 have hlt:i<ops.length:=(Ad.1 ho).1
 have hlt':(i:Int)<ops.length:=by omega
 have c1:((ops.flatMap cl26_Op).drop (i*6)).take 6=[.int .i64 o.Kind,.int .u8 o.Area,.int .u8 o.Id,.int .u8 o.Slot,.int .u8 o.N,.int .u16 o.Mask]:=yF yjJ ops i o ho
 have w:=wrN (i:=i) (by omega)
 have q1:∀(l:List HV),allP (h3::l)=none:=fun l=>by cases h3 <;> first | rfl|exact absurd rfl (hnp _)
 have q2:∀(l:List HV),allP (h3'::l)=none:=fun l=>by cases h3' <;> first | rfl|exact absurd rfl (hnp' _)
 obtain⟨o1,o2,o3⟩:=hone
 refine Run.of 60 ?_
 simp (config:={ maxSteps:=4000000 }) [↓yg,↓yc,yl,h16l0,env16,hlt,hlt',c1,w,e6,e6',e69,q1,q2,o1,o2,o3]
theorem yob(ops:List l26_Op)(p6 i:Nat)(o:l26_Op)(ho:ops[i]? = some o)(hl:ops.length<100000)(st st':HSt)(h3 h4 h5 h3' h4' h5':HV)(hone:HV.one h3'=true/\HV.one h4'=true/\HV.one h5'=true)(hnp:∀v,h3 ≠ .p v)(hnp':∀v,h3' ≠ .p v)(e6:st[p6]? = some (.box [h3,h4,h5]))(e6':st'[p6]? = some (.box [h3,h4,h5]))
 (e69:∀n,evHF C0 K TH (n+1) 69 [.agg [h3,h4,h5],hOp o.Kind o.Area o.Id o.Slot o.N o.Mask] (st++[.box [.p .nilp,.p .nils,.p .nils]])=some (.tup [.agg [h3',h4',h5'],.p (.bool true)],st')):
 Run C0 K TH h16l0 (env16 ops (.p (.box [.nilp,.nils,.nils])) p6 i,st) .norm (env16 ops (.ptr st.length 0) p6 (i+1),st'.set p6 (.box [h3',h4',h5'])):=by
 have e6a:∀g:HSt,(st++g)[p6]? = some (.box [h3,h4,h5]):=fun g=>by rw[Aj (Ad.1 e6).1];exact e6
 have hlt:i<ops.length:=(Ad.1 ho).1
 have hlt':(i:Int)<ops.length:=by omega
 have c1:((ops.flatMap cl26_Op).drop (i*6)).take 6=[.int .i64 o.Kind,.int .u8 o.Area,.int .u8 o.Id,.int .u8 o.Slot,.int .u8 o.N,.int .u16 o.Mask]:=yF yjJ ops i o ho
 have w:=wrN (i:=i) (by omega)
 have q1:∀(l:List HV),allP (h3::l)=none:=fun l=>by cases h3 <;> first | rfl|exact absurd rfl (hnp _)
 have q2:∀(l:List HV),allP (h3'::l)=none:=fun l=>by cases h3' <;> first | rfl|exact absurd rfl (hnp' _)
 obtain⟨o1,o2,o3⟩:=hone
 refine Run.of 60 ?_
 simp (config:={ maxSteps:=4000000 }) [↓yg,↓yc,yl,h16l0,env16,hlt,hlt',c1,w,e6,e6a,e6',e69,q1,q2,o1,o2,o3]
structure WorldAt (Ps:List Nat) (st:HSt) (p:Nat) (ops:Nat) (N:Int):Prop where
 ex:∃sp wb ws b0 b1 L,st[p]? = some (.box [.ptr sp 0,hAs [b0,b1,⟨1+N+N,1+N+N+2*N,1+N+N⟩],hL L])/\SpaceAt st sp wb ws/\ws.length=(1+N+N+2*N).toNat/\Spc ws [b0,b1,⟨1+N+N,1+N+N+2*N,1+N+N⟩] L/\L.length<=ops/\(b0.Lo=1/\b0.Hi=1+N)/\(b1.Lo=1+N/\b1.Hi=1+N+N)/\p≠sp/\p≠wb/\∀q∈Ps,q≠p/\q≠wb/\st[q]? = some (.box [.p .nilp,.p .nils,.p .nils])
theorem ygz(C:KE K){st:HSt}{Ps:List Nat}{p:Nat}{N:Int}{m:Nat}(hN:20<=N/\N<80)(hm:m<10000)(W:WorldAt Ps st p m N)(o:l26_Op)(ho:OkOp o):
 ∃st' h3 h4 h5 h3' h4' h5',st[p]? = some (.box [h3,h4,h5])/\st'[p]? = some (.box [h3,h4,h5])/\(HV.one h3'=true/\HV.one h4'=true/\HV.one h5'=true)/\(∀v,h3 ≠ .p v)/\(∀v,h3' ≠ .p v) /\
  K 69 [.agg [h3,h4,h5],hOp o.Kind o.Area o.Id o.Slot o.N o.Mask] st=some (.tup [.agg [h3',h4',h5'],.p (.bool true)],st')/\WorldAt Ps (st'.set p (.box [h3',h4',h5'])) p (m+1) N/\st.length<=st'.length:=by
 obtain⟨sp,wb,ws,b0,b1,L,e,S,hw,H,hl,h0,h1,n1,n2,nq⟩:=W.ex
 obtain⟨o1,o2,o3,o4,o5⟩:=ho
 obtain⟨st',ws',c0,c1,L',f1,S',hw',Kp,H',hl',i0,i1,i2⟩:=(C.f69 S (by omega) H (by omega) o.Kind o.Area o.Id o.Slot o.N o.Mask o1 o2 o3 o4 o5).ex
 have ep:=Kp.some e n2
 have hpl:=(Ad.1 ep).1
 refine⟨st',_,_,_,_,_,_,e,ep,⟨rfl,rfl,rfl⟩,fun v h=>(by cases h),fun v h=>(by cases h),f1,⟨sp,wb,ws',c0,c1,L',by rw[Bk hpl],⟨by rw[Ar n1];exact S'.s,by rw[Ar n2];exact S'.w⟩,by omega,H',by omega,⟨by omega,by omega⟩,⟨by omega,by omega⟩,n1,n2,fun q hq=>⟨(nq q hq).1,(nq q hq).2.1,by rw[Ar (fun h=>(nq q hq).1 h.symm)];exact Kp.some (nq q hq).2.2 (nq q hq).2.1⟩⟩,Kp.len⟩
theorem yns(C:KE K){Ps:List Nat}{N:Int}(hN:20<=N/\N<80)(ops:List l26_Op)(hops:∀o∈ops,OkOp o)(hl:ops.length<1000)(p4 p6:Nat):∀(k i m:Nat) (st:HSt),ops.length-i=k->i<=ops.length->m+k<10000->WorldAt Ps st p6 m N ->
 ∃st' m',Run C0 K TH (.loop h16l0 [1,4,6,7,8]) (env16 ops (.ptr p4 0) p6 i,st) (.exit 0) ([(4,.ptr p4 0),(6,.ptr p6 0),(7,.p (.bool true))],st')/\WorldAt Ps st' p6 m' N/\m'<=m+k/\st.length<=st'.length
 | 0,i,m,st,hk,hi,hm,W=>⟨st,m,Run.loopX (ynr ops _ p6 i (by omega) st) (by simp),W,by omega,Av _⟩
 | k+1,i,m,st,hk,hi,hm,W=>by
   have hil:i<ops.length:=by omega
   obtain⟨st1,h3,h4,h5,h3',h4',h5',e1,e2,ho,n1,n2,e3,W2,hle⟩:=ygz C hN (by omega) W ops[i] (hops _ (Au hil))
   have r1:=ypx ops p4 p6 i ops[i] (by simp[hil]) (by omega) st st1 h3 h4 h5 h3' h4' h5' ho n1 n2 e1 e2 (fun n=>yW e3 n)
   obtain⟨st2,m',r2,W3,h6,h7⟩:=yns C hN ops hops hl p4 p6 k (i+1) (m+1) _ (by omega) (by omega) (by omega) W2
   refine⟨st2,m',Run.loopN r1 ?_,W3,by omega,by rw[Ba] at h7;omega⟩
   exact r2
theorem e16(C:KE K)(hk:∀ws st,K 16 ws st = .none){z:Int}(hz:0<=z/\z<=255)(ops:List l26_Op)(hops:∀o∈ops,OkOp o)(hl:ops.length<1000)(st:HSt):
 ∃n N st' sp wb ws b0 b1 L,(20<=N/\N<80)/\evHF C0 K TH n 16 [.p (.int .u8 z),hOps ops] st=some (.tup [hW sp [b0,b1,⟨1+N+N,1+N+N+2*N,1+N+N⟩] L,.p (.bool true)],st')/\SpaceAt st' sp wb ws/\ws.length=(1+N+N+2*N).toNat /\
  Spc ws [b0,b1,⟨1+N+N,1+N+N+2*N,1+N+N⟩] L/\L.length<=1000/\(b0.Lo=1/\b0.Hi=1+N)/\(b1.Lo=1+N/\b1.Hi=1+N+N):=by
 obtain⟨N,sp,wb,g,hN,f1,S⟩:=C.f68 z hz st
 obtain⟨l1,l2,l3⟩:=S.lt
 have f1':=fun n=>yW f1 n
 have hlen:(List.replicate (1+N+N+2*N).toNat (0:Int)).length=(1+N+N+2*N).toNat:=Cn ..
 obtain⟨bw,hbw⟩:∃bw,bw=HB.box [.ptr sp 0,hAs [⟨1,1+N,1⟩,⟨1+N,1+N+N,1+N⟩,⟨1+N+N,1+N+N+2*N,1+N+N⟩],hL []]:=⟨_,rfl⟩
 have W:∀g':HSt,WorldAt [] (st++(g++bw::g')) (st.length+g.length) 0 N:=fun g'=>by
  have e:(st++(g++bw::g'))[st.length+g.length]? = some bw:=by rw[ym,yy];rfl
  have e2:st++(g++bw::g')=st++g++bw::g':=(A4 ..).symm
  refine⟨sp,wb,_,_,_,_,by rw[e,hbw],by rw[e2];exact S.app _,hlen,yoa N hN.1,Av _,⟨rfl,rfl⟩,⟨rfl,rfl⟩,?_,?_,fun q h=>by cases h⟩
  ·rw[Bj] at l1;omega
  ·rw[Bj] at l2;omega
 have fin:∀(v4:HV) (st2:HSt) (m:Nat) (Ps:List Nat),WorldAt Ps st2 (st.length+g.length) m N->m<=1000->(v4 = .p (.box [.nilp,.nils,.nils])\/∃p4∈Ps,v4 = .ptr p4 0)->Run C0 K TH (.loop h16l0 [1,4,6,7,8]) (env16 ops (.p (.box [.nilp,.nils,.nils])) (st.length+g.length) 0,st++(g++[bw])) (.exit 0) ([(4,v4),(6,.ptr (st.length+g.length) 0),(7,.p (.bool true))],st2) ->
  ∃n N st' sp wb ws b0 b1 L,(20<=N/\N<80)/\evHF C0 K TH n 16 [.p (.int .u8 z),hOps ops] st=some (.tup [hW sp [b0,b1,⟨1+N+N,1+N+N+2*N,1+N+N⟩] L,.p (.bool true)],st')/\SpaceAt st' sp wb ws/\ws.length=(1+N+N+2*N).toNat /\
   Spc ws [b0,b1,⟨1+N+N,1+N+N+2*N,1+N+N⟩] L/\L.length<=1000/\(b0.Lo=1/\b0.Hi=1+N)/\(b1.Lo=1+N/\b1.Hi=1+N+N):=fun v4 st2 m Ps W2 hm hv r=>by
  obtain⟨n0,hn0⟩:=Run.all r
  have z0:((0:Nat):Int)=0:=rfl
  simp only[env16,hbw,hI,z0] at hn0
  obtain⟨sp2,wb2,ws2,b0,b1,L,e,S2,hw,H,hl2,h0,h1,n1,n2,nq⟩:=W2.ex
  rcases hv with rfl|⟨p4,hp4,rfl⟩
  ·refine⟨n0+60,N,st2++[.box [.ptr sp2 0,hAs [b0,b1,⟨1+N+N,1+N+N+2*N,1+N+N⟩],hL L]],sp2,wb2,ws2,b0,b1,L,hN,yD (n:=n0+59) hk (x:=h16) rfl rfl ?_,?_,hw,H,by omega,h0,h1⟩
   ·simp (config:={ maxSteps:=4000000 }) [↓yg,↓yc,yl,h16,f1',hn0,e]
   ·exact S2.app _
  ·obtain⟨q1,q2,q3⟩:=nq p4 hp4
   have q4:p4<st2.length:=(Ad.1 q3).1
   have q6:∀x:HB,(st2.set p4 x)[p4]? = some x:=fun x=>Bk q4
   refine⟨n0+60,N,st2.set p4 (.box [.ptr sp2 0,hAs [b0,b1,⟨1+N+N,1+N+N+2*N,1+N+N⟩],hL L]),sp2,wb2,ws2,b0,b1,L,hN,yD (n:=n0+59) hk (x:=h16) rfl rfl ?_,?_,hw,H,by omega,h0,h1⟩
   ·simp (config:={ maxSteps:=4000000 }) [↓yg,↓yc,yl,h16,f1',hn0,e,q3,q6]
   ·have q5:p4≠sp2:=fun h=>by have:=S2.s;rw[←h,q3] at this;simp at this
    exact⟨by rw[Ar q5];exact S2.s,by rw[Ar q2];exact S2.w⟩
 cases hops0:ops with
 | nil=>
   subst hops0
   exact fin _ _ 0 [] (W []) (by omega) (.inl rfl) (Run.loopX (ynr [] _ _ 0 (by simp) _) (by simp))
 | cons o os=>
   have W0:WorldAt [(st++(g++[bw])).length] (st++(g++[bw])++[.box [.p .nilp,.p .nils,.p .nils]]) (st.length+g.length) 0 N:=by
    have:=(W [.box [.p .nilp,.p .nils,.p .nils]]).ex
    have e2:st++(g++bw::[.box [.p .nilp,.p .nils,.p .nils]])=st++(g++[bw])++[.box [.p .nilp,.p .nils,.p .nils]]:=by simp
    rw[e2] at this
    obtain⟨sp2,wb2,ws2,b0,b1,L,e,S2,hw,H,hl2,h0,h1,n1,n2,_⟩:=this
    refine⟨⟨sp2,wb2,ws2,b0,b1,L,e,S2,hw,H,hl2,h0,h1,n1,n2,fun q hq=>?_⟩⟩
    simp only[Be] at hq
    subst hq
    have q3:(st++(g++[bw])++[HB.box [.p .nilp,.p .nils,.p .nils]])[(st++(g++[bw])).length]? = some (.box [.p .nilp,.p .nils,.p .nils]):=by rw[yy];rfl
    refine⟨by rw[Bj,Bj];simp <;> omega,fun h=>?_,q3⟩
    have:=S2.w
    rw[←h,q3] at this
    simp at this
   obtain⟨st1,h3,h4,h5,h3',h4',h5',e1,e2,ho,n1,n2,e3,W2,hle⟩:=ygz C hN (by omega) W0 o (hops o (by rw[hops0];simp))
   have ebw:(st++(g++[bw]))[st.length+g.length]? = some (.box [h3,h4,h5]):=by
    have e1':=e1
    rw[Aj (by rw[Bj,Bj];simp)] at e1'
    exact e1'
   have r1:=yob ops (st.length+g.length) 0 o (by rw[hops0];rfl) (by omega) (st++(g++[bw])) st1 h3 h4 h5 h3' h4' h5' ho n1 n2 ebw e2 (fun n=>yW e3 n)
   obtain⟨st2,m',r2,W3,h6,h7⟩:=yns C hN ops hops hl (st++(g++[bw])).length (st.length+g.length) (ops.length-1) 1 1 _ rfl (by rw[hops0];simp) (by omega) W2
   rw[←hops0]
   refine fin _ st2 m' _ W3 (by omega) (.inr ⟨_,by simp,rfl⟩) (Run.loopN r1 r2)
open Go
set_option maxRecDepth 10000
set_option maxHeartbeats 4000000
variable {K:HCalls}
def env25(sp:Nat)(ah:HV)(L:List r26_Object)(i:Nat):HEnv:=[(0,.ptr sp 0),(1,ah),(2,hL L),(7,hI i)]
def env25k(sp:Nat)(ah:HV)(L:List r26_Object)(i:Nat)(want:List Int)(k:Nat):HEnv:=env25 sp ah L i++[(8,hN want),(9,hI k)]
def env25j(sp:Nat)(ah:HV)(L:List r26_Object)(i:Nat)(want:List Int)(k p10 j:Nat):HEnv:=env25 sp ah L i++[(8,hN want),(9,hI k),(10,.ptr p10 0),(13,hI j)]
def Sh(ah:HV):Prop:=(∃n cs,ah = .p (.sl n cs))\/∃b o n z,ah = .row b o n z
def AreasAt(st:HSt)(ah:HV)(ars:List Area):Prop:=ah=hAs ars\/∃b,ah = .row b 0 ars.length 3/\st[b]? = some (.row 3 ars.length ((ars.flatMap cArea).map .p))
theorem AreasAt.sh{st:HSt}{ah:HV}{ars:List Area}(h:AreasAt st ah ars):Sh ah:=by
 rcases h with rfl|⟨b,rfl,_⟩
 ·exact .inl ⟨_,_,rfl⟩
 ·exact .inr ⟨_,_,_,_,rfl⟩
theorem AreasAt.app{st:HSt}{ah:HV}{ars:List Area}(h:AreasAt st ah ars)(g:HSt):AreasAt (st++g) ah ars:=by
 rcases h with h|⟨b,h1,h2⟩
 ·exact .inl h
 ·exact .inr ⟨b,h1,by rw[Aj (Ad.1 h2).1];exact h2⟩
theorem yba{l:List Int}{k:Nat}{v:Int}(h:l[k]? = some v):((l.flatMap (cint .i64)).drop k).take 1=[.int .i64 v]:=by
 have:=yF (ybl .i64) l k v h
 simpa[cint] using this
theorem yah:∀l:List Int,eqPVL (l.flatMap (cint .i64)) (l.flatMap (cint .i64))=true
 | []=>rfl
 | a::l=>by
   have:=yah l
   simp only[Bn,cint,Bx,Bt,eqPVL,eqPV,this,beq_self_eq_true,decide_true,Bool.and_self]
theorem yoc(C:KE K){st:HSt}{sp wb:Nat}{ws:List Int}(S:SpaceAt st sp wb ws)(hb:ws.length<140737488355328)(ah:HV)(hah:Sh ah)(L:List r26_Object)(i:Nat)(want:List Int)(k p10 j:Nat){o:r26_Object}(ho:ObjOk ws o)(hpos:0<o.At)(hk:want[k]? = some o.At)
 (e10:st[p10]? = some (.box [hI o.At,hI o.Shape.Slots,hI o.Shape.Mask,.p (.sl o.Slots.length (o.Slots.flatMap (cint .i64)))])){v:Int}(hv:o.Slots[j]? = some v):
 Run C0 K TH h25l0 (env25j sp ah L i want k p10 j,st) .norm (env25j sp ah L i want k p10 (j+1),st):=by
 have hkl:k<want.length:=(Ad.1 hk).1
 have hkl':(k:Int)<want.length:=by omega
 have hjl:j<o.Slots.length:=(Ad.1 hv).1
 have hjl':(j:Int)<o.Slots.length:=by omega
 have h16:=ho.sh.2.1
 have hlen:=ho.len
 have hw:=ho.sl j v hv
 have hwl:=(Ad.1 hw).1
 have c1:=yba hk
 have c2:=yba hv
 have w:=wrN (i:=j) (by omega)
 have e24:=fun n=>yW (C.f24 S o.At j (o.At.toNat+1+j) (by omega) (by omega) (by omega) v hw) n
 rcases hah with⟨n,cs,rfl⟩|⟨b,o,n,z,rfl⟩
 ·refine Run.of 60 ?_
  simp (config:={ maxSteps:=4000000 }) [↓yg,↓yc,yl,h25l0,env25j,env25,hkl,hkl',hjl,hjl',c1,c2,w,e10,e24,yah]
 ·refine Run.of 60 ?_
  simp (config:={ maxSteps:=4000000 }) [↓yg,↓yc,yl,h25l0,env25j,env25,hkl,hkl',hjl,hjl',c1,c2,w,e10,e24,yah]
theorem yod{st:HSt}(sp:Nat)(ah:HV)(L:List r26_Object)(i:Nat)(want:List Int)(k p10 j:Nat){o:r26_Object}(e10:st[p10]? = some (.box [hI o.At,hI o.Shape.Slots,hI o.Shape.Mask,.p (.sl o.Slots.length (o.Slots.flatMap (cint .i64)))]))(hj:¬j<o.Slots.length):
 Run C0 K TH h25l0 (env25j sp ah L i want k p10 j,st) (.exit 4) (env25k sp ah L i want k,st):=by
 have hj':¬(j:Int)<o.Slots.length:=by omega
 refine Run.of 60 ?_
 simp (config:={ maxSteps:=4000000 }) [↓yg,↓yc,yl,h25l0,env25j,env25,env25k,hj,hj',e10]
theorem ylH(C:KE K){st:HSt}{sp wb:Nat}{ws:List Int}(S:SpaceAt st sp wb ws)(hb:ws.length<140737488355328)(ah:HV)(hah:Sh ah)(L:List r26_Object)(i:Nat)(want:List Int)(k p10:Nat){o:r26_Object}(ho:ObjOk ws o)(hpos:0<o.At)(hk:want[k]? = some o.At)
 (e10:st[p10]? = some (.box [hI o.At,hI o.Shape.Slots,hI o.Shape.Mask,.p (.sl o.Slots.length (o.Slots.flatMap (cint .i64)))])):∀(m j:Nat),o.Slots.length-j=m->j<=o.Slots.length ->
 Run C0 K TH (.loop h25l0 [0,1,2,7,8,9,10,13]) (env25j sp ah L i want k p10 j,st) (.exit 4) (env25k sp ah L i want k,st)
 | 0,j,hm,hj=>Run.loopX (yod sp ah L i want k p10 j e10 (by omega)) (by simp)
 | m+1,j,hm,hj=>by
   have hjl:j<o.Slots.length:=by omega
   exact Run.loopN (yoc C S hb ah hah L i want k p10 j ho hpos hk e10 (v:=o.Slots[j]) (by simp[hjl])) (ylH C S hb ah hah L i want k p10 ho hpos hk e10 m (j+1) (by omega) (by omega))
theorem yoe(C:KE K){st:HSt}{sp wb:Nat}{ws:List Int}(S:SpaceAt st sp wb ws)(hb:ws.length<140737488355328)(ah:HV)(hah:Sh ah)(L:List r26_Object)(hl:L.length<100000)(i:Nat)(want:List Int)(hwl:want.length<100000)(k:Nat){o:r26_Object}(ho:ObjOk ws o)(hpos:0<o.At)(hk:want[k]? = some o.At)
 (x:Nat)(hx:L[x]? = some o)(hf:r26_Find L o.At=some (x:Int)):
 ∃g,Run C0 K TH h25l1 (env25k sp ah L i want k,st) .norm (env25k sp ah L i want (k+1),st++g):=by
 have hkl:k<want.length:=(Ad.1 hk).1
 have hkl':(k:Int)<want.length:=by omega
 have hxl:x<L.length:=(Ad.1 hx).1
 have hxl':(x:Int)<L.length:=by omega
 obtain⟨a,ha⟩:∃a:Nat,o.At=a:=⟨o.At.toNat,by omega⟩
 have hhd:=ho.hd
 rw[ha,Bq] at hhd
 have c1:=yba hk
 rw[ha] at c1
 have c2:((L.flatMap cr26_Object).drop (x*4)).take 4=[.int .i64 o.At,.int .i64 o.Shape.Slots,.int .i64 o.Shape.Mask,.sl o.Slots.length (o.Slots.flatMap (cint .i64))]:=yF yH L x o hx
 have w:=wrN (i:=k) (by omega)
 rw[ha] at hf
 have e21:=fun n st=>k21 C.toKPu hf n st
 let g0:HSt:=[.box [hI o.At,hI o.Shape.Slots,hI o.Shape.Mask,.p (.sl o.Slots.length (o.Slots.flatMap (cint .i64)))]]
 have e22:=fun (g:HSt) n=>yW (C.f22 (S.app g) a (by omega) ho.sh hhd) n
 have hl10:=ylH C (S.app (g0++[.box [hI o.Shape.Slots,hI o.Shape.Mask]]++[.box [hI o.Shape.Slots,hI o.Shape.Mask]])) hb ah hah L i want k st.length ho hpos hk (by rw[yy];rfl) _ 0 rfl (by omega)
 obtain⟨n0,hn0⟩:=Run.all hl10
 have z0:((0:Nat):Int)=0:=rfl
 simp only[env25j,env25k,env25,hI,z0,g0,Bx,Bt] at hn0
 refine⟨g0++[.box [hI o.Shape.Slots,hI o.Shape.Mask]]++[.box [hI o.Shape.Slots,hI o.Shape.Mask]],Run.of (n0+60) ?_⟩
 simp (config:={ maxSteps:=4000000 }) [↓yg,↓yc,yl,h25l1,env25k,env25,hkl,hkl',hxl,hxl',c1,c2,w,e21,e22,hn0,g0]
theorem yof{st:HSt}(sp:Nat)(ah:HV)(L:List r26_Object)(i:Nat)(want:List Int)(k:Nat)(hk:¬k<want.length):Run C0 K TH h25l1 (env25k sp ah L i want k,st) (.exit 2) (env25 sp ah L i,st):=by
 have hk':¬(k:Int)<want.length:=by omega
 refine Run.of 60 ?_
 simp (config:={ maxSteps:=4000000 }) [↓yg,↓yc,yl,h25l1,env25,env25k,hk,hk']
theorem ylI(C:KE K){sp wb:Nat}{ws:List Int}(hb:ws.length<140737488355328)(ah:HV)(hah:Sh ah)(L:List r26_Object)(hl:L.length<100000)(i:Nat)(want:List Int)(hwl:want.length<100000)
 (hw:∀(k:Nat) (p:Int),want[k]? = some p->∃o,o.At=p/\ObjOk ws o/\0<o.At/\∃x:Nat,L[x]? = some o/\r26_Find L o.At=some (x:Int)):∀(m k:Nat) (st:HSt),want.length-k=m->k<=want.length->SpaceAt st sp wb ws ->
 ∃g,Run C0 K TH (.loop h25l1 [0,1,2,7,8,9]) (env25k sp ah L i want k,st) (.exit 2) (env25 sp ah L i,st++g)
 | 0,k,st,hm,hk,S=>⟨[],Run.loopX (by rw[Br];exact yof sp ah L i want k (by omega)) (by simp)⟩
 | m+1,k,st,hm,hk,S=>by
   have hkl:k<want.length:=by omega
   obtain⟨o,ho,h1,h2,x,h3,h4⟩:=hw k want[k] (by simp[hkl])
   obtain⟨g,r1⟩:=yoe C S hb ah hah L hl i want hwl k h1 h2 (by rw[ho];simp[hkl]) x h3 h4
   obtain⟨g2,r2⟩:=ylI C hb ah hah L hl i want hwl hw m (k+1) (st++g) (by omega) (by omega) (S.app g)
   exact⟨g++g2,Run.loopN r1 (by rw[←A4];exact r2)⟩
theorem yjS{ars:List Area}{i:Nat}{a:Area}(h:ars[i]? = some a):((ars.flatMap cArea).drop (i*3)).take 3=[.int .i64 a.Lo,.int .i64 a.Hi,.int .i64 a.Next]:=yF yc1 ars i a h
structure LikeA (ws:List Int) (L:List r26_Object) (a:Area):Prop where
 starts:r26_Starts L a=some ((objsIn L a).map r26_Object.At)
 chain:Chain a.Lo ((objsIn L a).map keyOf) a.Next
 ok:∀o∈objsIn L a,ObjOk ws o/\0<o.At/\∃x:Nat,L[x]? = some o/\r26_Find L o.At=some (x:Int)
theorem yog(C:KE K){st:HSt}{sp wb:Nat}{ws:List Int}(S:SpaceAt st sp wb ws)(hb:ws.length<1000000000)(ah:HV){ars:List Area}(hah:AreasAt st ah ars)(has:ars.length<1000)(L:List r26_Object)(hl:L.length<100000)(i:Nat){a:Area}(ha:ars[i]? = some a)(hn:a.Next<1000000000)(H:LikeA ws L a):
 ∃g,Run C0 K TH h25l2 (env25 sp ah L i,st) .norm (env25 sp ah L (i+1),st++g):=by
 have hil:i<ars.length:=(Ad.1 ha).1
 have hil':(i:Int)<ars.length:=by omega
 have c1:=yjS ha
 have hol:=yd8 L a
 have w:=wrN (i:=i) (by omega)
 obtain⟨ss,hss⟩:∃ss,(objsIn L a).map r26_Object.At=ss:=⟨_,rfl⟩
 have hssl:ss.length<100000:=by rw[←hss,Bh];omega
 have hst:=H.starts
 rw[hss] at hst
 have e26:=fun n st=>k26 C.toKPu hst n st
 obtain⟨g,f76⟩:=C.f76 S hn (fun o ho=>⟨(H.ok o ho).1,(H.ok o ho).2.1⟩) H.chain (by omega)
 rw[hss] at f76
 have e76:=fun n=>yW f76 n
 have e29:=fun n st=>k29 C.toKPu ss (by omega) n st
 obtain⟨g2,r⟩:=ylI C (by omega) ah hah.sh L hl i ss hssl (fun k p hk=>by
  have:p∈(objsIn L a).map r26_Object.At:=by rw[hss];exact Bf hk
  obtain⟨o,ho,rfl⟩:=Bm.1 this
  exact⟨o,rfl,(H.ok o ho).1,(H.ok o ho).2.1,(H.ok o ho).2.2⟩) ss.length 0 (st++g) rfl (by omega) (S.app g)
 obtain⟨n0,hn0⟩:=Run.all r
 have z0:((0:Nat):Int)=0:=rfl
 simp only[env25k,env25,hI,z0,Bx,Bt] at hn0
 refine⟨g++g2,Run.of (n0+60) ?_⟩
 rcases hah with rfl|⟨b,rfl,hbk⟩
 ·simp (config:={ maxSteps:=4000000 }) [↓yg,↓yc,yl,h25l2,env25,hil,hil',c1,w,e26,e76,e29,hn0]
 ·have hbl:b<st.length:=(Ad.1 hbk).1
  have c2:i*3+3<=ars.length*3:=by omega
  have c3:(ars.flatMap cArea).length=ars.length*3:=yam yc1 ars
  have c4:(((ars.flatMap cArea).map HV.p).drop (i*3)).take 3=[hI a.Lo,hI a.Hi,hI a.Next]:=by rw[←List.map_drop,←List.map_take,c1];rfl
  obtain⟨acs,hacs⟩:∃acs,ars.flatMap cArea=acs:=⟨_,rfl⟩
  rw[hacs] at hbk c3 c4
  simp (config:={ maxSteps:=4000000 }) [↓yg,↓yc,yl,h25l2,env25,hil,hil',w,e26,e76,e29,hn0,hbk,c2,c3,c4]
theorem yoh{st:HSt}(sp:Nat)(ah:HV){ars:List Area}(hah:AreasAt st ah ars)(L:List r26_Object)(i:Nat)(h:¬i<ars.length):Run C0 K TH h25l2 (env25 sp ah L i,st) (.exit 0) ([],st):=by
 have h':¬(i:Int)<ars.length:=by omega
 rcases hah with rfl|⟨b,rfl,hbk⟩
 ·refine Run.of 60 ?_
  simp (config:={ maxSteps:=4000000 }) [↓yg,↓yc,yl,h25l2,env25,h,h']
 ·refine Run.of 60 ?_
  simp (config:={ maxSteps:=4000000 }) [↓yg,↓yc,yl,h25l2,env25,h,h']
theorem ylJ(C:KE K){sp wb:Nat}{ws:List Int}(hb:ws.length<1000000000)(ah:HV){ars:List Area}(has:ars.length<1000)(L:List r26_Object)(hl:L.length<100000)(H:∀a∈ars,LikeA ws L a/\a.Next<1000000000):∀(m i:Nat) (st:HSt),ars.length-i=m->i<=ars.length->SpaceAt st sp wb ws->AreasAt st ah ars ->
 ∃g,Run C0 K TH (.loop h25l2 [0,1,2,7]) (env25 sp ah L i,st) (.exit 0) ([],st++g)
 | 0,i,st,hm,hi,S,hA=>⟨[],Run.loopX (by rw[Br];exact yoh sp ah hA L i (by omega)) (by simp)⟩
 | m+1,i,st,hm,hi,S,hA=>by
   have hil:i<ars.length:=by omega
   obtain⟨h1,h2⟩:=H ars[i] (Au hil)
   obtain⟨g,r1⟩:=yog C S hb ah hA has L hl i (a:=ars[i]) (by simp[hil]) h2 h1
   obtain⟨g2,r2⟩:=ylJ C hb ah has L hl H m (i+1) (st++g) (by omega) (by omega) (S.app g) (hA.app g)
   exact⟨g++g2,Run.loopN r1 (by rw[←A4];exact r2)⟩
theorem e25(C:KE K)(hk:∀ws st,K 25 ws st = .none){st:HSt}{sp wb:Nat}{ws:List Int}(S:SpaceAt st sp wb ws)(hb:ws.length<1000000000)(ah:HV){ars:List Area}(hA:AreasAt st ah ars)(has:ars.length<1000)(L:List r26_Object)(hl:L.length<100000)(H:∀a∈ars,LikeA ws L a/\a.Next<1000000000):
 ∃g n0,∀n,n0<=n->evHF C0 K TH n 25 [.ptr sp 0,ah,hL L] st=some (hI 0,st++g):=by
 obtain⟨g,r⟩:=ylJ C hb ah has L hl H ars.length 0 st rfl (by omega) S hA
 obtain⟨n0,hn0⟩:=Run.all r
 have z0:((0:Nat):Int)=0:=rfl
 simp only[env25,hI,z0] at hn0
 refine⟨g,n0+60,fun n hn=>yz hn _ _ _ _ (yD (n:=n0+59) hk (x:=h25) rfl rfl ?_)⟩
 rcases hA.sh with⟨m,cs,rfl⟩|⟨b,o,m,z,rfl⟩
 ·simp (config:={ maxSteps:=4000000 }) [↓yg,↓yc,yl,h25,hn0]
 ·simp (config:={ maxSteps:=4000000 }) [↓yg,↓yc,yl,h25,hn0]
end Go.Ab
