/- WatchWrong: memory that has other bytes is not right: for every setup, every list of choices, every place. No condition. -/
import Derived.Test.YtfcakcaepbmefaaWe
namespace Go.Proofs.Ytfcakcaepbmefaa
open Go Go.AM
set_option linter.unusedSimpArgs false
set_option linter.unusedVariables false
set_option linter.all false
set_option maxRecDepth 100000
set_option maxHeartbeats 4000000
attribute [local simp] run_succ task callTask ev evSeq evRegion_f evOps evCond evBlock exec1 guardOk guardNot notIs exec opMove opPick pickOf opAlloc allocOf opBox boxOf opBuild buildOf opLoad loadAt opStore storeAt putCells opNilCheck nilCheckOf
  opUn unOf opConvert convOf opIface ifaceOf opMakeFunc opMakeSlice makeSliceOf opSlice sliceOf sliceSl sub3 bounds3 boundOf bothOr opFieldAddr fieldAddrOf opField fieldOf opIndexAddr indexAddrOf opIndex indexOf inside opLookup opMapUpdate opExtract extractOf opPanic panicOf makeMapOf
  retV Q.val Q.opt Q.run after setTm putTm opd opds tmV Tr.get_put leaf_get ofV ofVA ofVL opBin binAt binOf binInt binStr eqOp eqInt eqBool eqPtr eqSlice eqMap eqFunc eqIface eqStr eqAgg isNilIface boolIs optV
  opBuildSlice buildSliceOf Env.desc fillV repl pairs opCall callOf extCall builtinOf type1 type2 head1 head2 builtinAppend isIntD lenOf srcOf appendAt roomOk dropN takeN noMore appendOn appendNew lenAt capAt builtinCopy
  afterBody AM.unwind resultsOf one afterCall orRet listTm takeN_all isShift kindEq intOp iAdd iSub iMul iLss iLeq iGtr iGeq iEql iNeq iShl iShr iQuo iRem V.cells V.isCell allCells partOf splice over placeOfField elemPlace knownFs aggOpt zeroOf isU8 isIface
  afterLoop afterScope asCode strOp undefV isConst not_false_eq_true
  List.getElem?_cons_succ List.getElem?_cons_zero S.new S.rd S.wr nat_ne ble_t ble_f beq_t beq_f ltI_t ltI_f eqI_t eqI_f isub_def iadd_def imul_def wrapQ_i64 wrapQ_u32 wrapQ_u8 iAnd_pred inside_in bytes_len bytes_all bytesOf_cells over_bytes repl_len1
attribute [local simp] ng_eq ext_eq
attribute [local simp] fiOfFn fn3 bd3 rs3 nt3 body3 Try.f3 fn4 bd4 rs4 nt4 body4 Try.f4 fn5 bd5 rs5 nt5 body5 Try.f5 fn6 bd6 rs6 nt6 body6 Try.f6 fn7 bd7 rs7 nt7 body7 Try.f7 fn8 bd8 rs8 nt8 body8 Try.f8 fn9 bd9 rs9 nt9 body9 Try.f9 fn10 bd10 rs10 nt10 body10 Try.f10 fn11 bd11 rs11 nt11 body11 Try.f11 fn12 bd12 rs12 nt12 body12 Try.f12 fn13 bd13 rs13 nt13 body13 Try.f13 fn14 bd14 rs14 nt14 body14 Try.f14 fn15 bd15 rs15 nt15 body15 Try.f15 fn16 bd16 rs16 nt16 body16 Try.f16 fn17 bd17 rs17 nt17 body17 Try.f17 fn18 bd18 rs18 nt18 body18 Try.f18 fn19 bd19 rs19 nt19 body19 Try.f19 fn20 bd20 rs20 nt20 body20 Try.f20 fn21 bd21 rs21 nt21 body21 Try.f21 fn22 bd22 rs22 nt22 body22 Try.f22 fn23 bd23 rs23 nt23 body23 Try.f23 fn24 bd24 rs24 nt24 body24 Try.f24 fn25 bd25 rs25 nt25 body25 Try.f25 fn26 bd26 rs26 nt26 body26 Try.f26 fn27 bd27 rs27 nt27 body27 Try.f27 fn28 bd28 rs28 nt28 body28 Try.f28 fn29 bd29 rs29 nt29 body29 Try.f29 fn30 bd30 rs30 nt30 body30 Try.f30 fn31 bd31 rs31 nt31 body31 Try.f31 fn32 bd32 rs32 nt32 body32 Try.f32 fn33 bd33 rs33 nt33 body33 Try.f33 fn34 bd34 rs34 nt34 body34 Try.f34 fn35 bd35 rs35 nt35 body35 Try.f35 fn36 bd36 rs36 nt36 body36 Try.f36 fn37 bd37 rs37 nt37 body37 Try.f37 fn38 bd38 rs38 nt38 body38 Try.f38 fn39 bd39 rs39 nt39 body39 Try.f39 fn40 bd40 rs40 nt40 body40 Try.f40 fn41 bd41 rs41 nt41 body41 Try.f41 fn42 bd42 rs42 nt42 body42 Try.f42 fn43 bd43 rs43 nt43 body43 Try.f43 fn44 bd44 rs44 nt44 body44 Try.f44 fn45 bd45 rs45 nt45 body45 Try.f45 fn46 bd46 rs46 nt46 body46 Try.f46 fn47 bd47 rs47 nt47 body47 Try.f47 fn48 bd48 rs48 nt48 body48 Try.f48 fn49 bd49 rs49 nt49 body49 Try.f49 fn50 bd50 rs50 nt50 body50 Try.f50 fn51 bd51 rs51 nt51 body51 Try.f51 fn52 bd52 rs52 nt52 body52 Try.f52 fn53 bd53 rs53 nt53 body53 Try.f53 fn54 bd54 rs54 nt54 body54 Try.f54 fn55 bd55 rs55 nt55 body55 Try.f55 fn56 bd56 rs56 nt56 body56 Try.f56 fn57 bd57 rs57 nt57 body57 Try.f57 fn58 bd58 rs58 nt58 body58 Try.f58 fn59 bd59 rs59 nt59 body59 Try.f59 fn60 bd60 rs60 nt60 body60 Try.f60 fn61 bd61 rs61 nt61 body61 Try.f61 fn62 bd62 rs62 nt62 body62 Try.f62 fn63 bd63 rs63 nt63 body63 Try.f63 fn64 bd64 rs64 nt64 body64 Try.f64 fn65 bd65 rs65 nt65 body65 Try.f65 fn66 bd66 rs66 nt66 body66 Try.f66 fn67 bd67 rs67 nt67 body67 Try.f67 fn68 bd68 rs68 nt68 body68 Try.f68 fn69 bd69 rs69 nt69 body69 Try.f69 fn70 bd70 rs70 nt70 body70 Try.f70 fn71 bd71 rs71 nt71 body71 Try.f71 fn72 bd72 rs72 nt72 body72 Try.f72 fn73 bd73 rs73 nt73 body73 Try.f73 fn74 bd74 rs74 nt74 body74 Try.f74 fn75 bd75 rs75 nt75 body75 Try.f75 fn76 bd76 rs76 nt76 body76 Try.f76 fn77 bd77 rs77 nt77 body77 Try.f77 fn78 bd78 rs78 nt78 body78 Try.f78 fn79 bd79 rs79 nt79 body79 Try.f79 fn80 bd80 rs80 nt80 body80 Try.f80 fn81 bd81 rs81 nt81 body81 Try.f81 fn82 bd82 rs82 nt82 body82 Try.f82 fn83 bd83 rs83 nt83 body83 Try.f83 fn84 bd84 rs84 nt84 body84 Try.f84 ty2 t2 ty3 t3 ty4 t4 ty5 t5 ty9 t9 ty22 t22 ty23 t23 ty25 t25 ty26 t26 ty27 t27 ty28 t28 ty33 t33 ty34 t34 ty43 t43 ty45 t45 ty46 t46 ty47 t47 ty49 t49 ty51 t51 ty52 t52 ty54 t54 ty57 t57 ty59 t59 ty61 t61 ty66 t66 ty67 t67 ty68 t68 ty69 t69 ty71 t71 ty72 t72 ty73 t73 ty75 t75 ty76 t76 ty78 t78 ty82 t82 ty84 t84 ty87 t87 ty88 t88 ty89 t89 ty90 t90 ty92 t92 ty95 t95 ty98 t98 ty102 t102 ty103 t103 ty112 t112 ty113 t113 ty115 t115 ty120 t120 ty121 t121 ty122 t122 ty124 t124 ty128 t128 ty131 t131 ty133 t133 ty135 t135 ty137 t137 ty139 t139 ty142 t142 ty143 t143 ty145 t145 ty147 t147 ty148 t148 ty151 t151 ty152 t152 ty154 t154 ty158 t158 ty164 t164 ty172 t172 ty173 t173 ty175 t175 ty176 t176 ty178 t178 ty185 t185 ty190 t190 ty193 t193 ty195 t195 ty196 t196 ty213 t213 ty215 t215
attribute [local simp] eqv2 eqv3 eqv4 eqv5 eqv9 eqv22 eqv23 eqv26 eqv27 eqv28 eqv33 eqv34 eqv43 eqv45 eqv46 eqv47 eqv52 eqv57 eqv67 eqv68 eqv69 eqv72 eqv73 eqv76 eqv82 eqv84 eqv87 eqv88 eqv89 eqv90 eqv95 eqv98 eqv103 eqv112 eqv121 eqv122 eqv128 eqv135 eqv143 eqv145 eqv148 eqv151 eqv152 eqv158 eqv176 eqv190 eqv195 eqv196 eqv213
section
section
open Go.ChangeShapes Go.WideShapes Go.ChangeAt Go.RowKit
theorem law_lifted (os : Os) (started : os.Started) (H : Type) (enc : TypeId × Value → H) :
    ReturnsInHanded {} Try.checked os 3 .any (Rows.watchWrongSpec.pre6 enc Try.prog Try.f3 Rows.watchWrongRow.domain false) (Rows.watchWrongSpec.post enc Try.prog Try.f3 false true false false) := by
  refine returnsInHanded_of_change (C := Try.checked) Try.own started (by kernel_rfl) Try.func3
    (ChangeSpec.witness6 (enc := enc) (C := Try.checked) false ⟨#[], #[.agg #[.slice none 0 0, .slice none 0 0, .int .i64 0, .int .i64 0], .slice none 0 0, .int .i64 0], []⟩ 30 (by kernel_rfl) (by kernel_rfl) (by kernel_rfl) (by kernel_rfl)) ?_
  intro W base args ds gs before hval0 hW _ _
  have hval : ∀ (j : Nat) t v, Try.f3.params[j]? = some t → args[j]? = some v → Value.okWide Try.prog W .any base t v := hval0
  have hW' := hW
  obtain ⟨p, q, hA0, _, _, _, _⟩ := hW
  have hA : DataW.TrodAll enc Try.prog W 0 (fun _ => true) true Try.f3.params.toList args.toList ds p := hA0
  rw [Try.params3] at hA hval
  obtain ⟨v0, v1, v2, d0, d1, d2, p0, p1, p2, rfl, rfl, rfl, h0, _, _⟩ := trodAll_three hA
  refine (law_run v0 v1 v2 d0 p0 W base (hval 0 25 v0 rfl rfl) (hval 1 26 v1 rfl rfl) (hval 2 3 v2 rfl rfl) h0).mono fun e W' ⟨he, hb⟩ => ?_
  subst he
  exact ⟨_, rfl, law_post (tb := 4) Try.laidOut (by rw [Try.params3]; intro t ht; simp at ht; rcases ht with rfl | rfl | rfl <;> exact ⟨by kernel_rfl, of_decide_eq_true (by kernel_rfl)⟩) (by kernel_rfl) Try.underlying4 rfl rfl hW' hb⟩
theorem law_holds : Rows.WatchWrongSaid :=
  OpenClaim.holds_of_wide 3 Try.f3 rfl rfl rfl rfl rfl rfl rfl ⟨rfl, rfl, rfl, rfl, rfl⟩ rfl rfl rfl rfl rfl (by kernel_rfl) Try.func3 (by kernel_rfl)
    (of_decide_eq_true (by kernel_rfl)) (by unfold Func.isWrapper; rw [if_neg (of_decide_eq_false (by kernel_rfl))]; exact ⟨rfl, rfl⟩)
    (fun os started H enc _ => law_lifted os started H enc)
#print axioms law_holds
end
end
end Go.Proofs.Ytfcakcaepbmefaa
