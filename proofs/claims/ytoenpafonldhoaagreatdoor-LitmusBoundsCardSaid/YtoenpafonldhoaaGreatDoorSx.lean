/- An abstract machine for the model's programs, its runs, and what they say of the model (part Sx). No condition. -/
import Derived.Test.YtoenpafonldhoaaGreatDoorEnv
import Derived.Test.YtoenpafonldhoaaGreatDoorAmG
namespace Go.Proofs.YtoenpafonldhoaaGreatDoor
open Go Go.AM
noncomputable def FI3 : FI := fiOfFn Tryz.f3
noncomputable def body3 : Code := (fiOfFn Tryz.f3).body
theorem fn3 : E.fn 3 = some FI3 := by kernel_rfl
theorem bd3 : FI3.body = body3 := rfl
theorem rs3 : FI3.results = [.tmp 0] := by kernel_rfl
theorem nt3 : FI3.nt = 130 := by kernel_rfl
noncomputable def FI4 : FI := fiOfFn Tryz.f4
noncomputable def body4 : Code := (fiOfFn Tryz.f4).body
theorem fn4 : E.fn 4 = some FI4 := by kernel_rfl
theorem bd4 : FI4.body = body4 := rfl
theorem rs4 : FI4.results = [.tmp 2] := by kernel_rfl
theorem nt4 : FI4.nt = 42 := by kernel_rfl
noncomputable def FI5 : FI := fiOfFn Tryz.f5
noncomputable def body5 : Code := (fiOfFn Tryz.f5).body
theorem fn5 : E.fn 5 = some FI5 := by kernel_rfl
theorem bd5 : FI5.body = body5 := rfl
theorem rs5 : FI5.results = [.tmp 0] := by kernel_rfl
theorem nt5 : FI5.nt = 119 := by kernel_rfl
noncomputable def FI6 : FI := fiOfFn Tryz.f6
noncomputable def body6 : Code := (fiOfFn Tryz.f6).body
theorem fn6 : E.fn 6 = some FI6 := by kernel_rfl
theorem bd6 : FI6.body = body6 := rfl
theorem rs6 : FI6.results = [.tmp 2] := by kernel_rfl
theorem nt6 : FI6.nt = 46 := by kernel_rfl
noncomputable def FI7 : FI := fiOfFn Tryz.f7
noncomputable def body7 : Code := (fiOfFn Tryz.f7).body
theorem fn7 : E.fn 7 = some FI7 := by kernel_rfl
theorem bd7 : FI7.body = body7 := rfl
theorem rs7 : FI7.results = [.tmp 8] := by kernel_rfl
theorem nt7 : FI7.nt = 100 := by kernel_rfl
noncomputable def FI8 : FI := fiOfFn Tryz.f8
noncomputable def body8 : Code := (fiOfFn Tryz.f8).body
theorem fn8 : E.fn 8 = some FI8 := by kernel_rfl
theorem bd8 : FI8.body = body8 := rfl
theorem rs8 : FI8.results = [.tmp 2] := by kernel_rfl
theorem nt8 : FI8.nt = 61 := by kernel_rfl
noncomputable def FI9 : FI := fiOfFn Tryz.f9
noncomputable def body9 : Code := (fiOfFn Tryz.f9).body
theorem fn9 : E.fn 9 = some FI9 := by kernel_rfl
theorem bd9 : FI9.body = body9 := rfl
theorem rs9 : FI9.results = [.tmp 4] := by kernel_rfl
theorem nt9 : FI9.nt = 107 := by kernel_rfl
noncomputable def FI10 : FI := fiOfFn Tryz.f10
noncomputable def body10 : Code := (fiOfFn Tryz.f10).body
theorem fn10 : E.fn 10 = some FI10 := by kernel_rfl
theorem bd10 : FI10.body = body10 := rfl
theorem rs10 : FI10.results = [.tmp 2] := by kernel_rfl
theorem nt10 : FI10.nt = 48 := by kernel_rfl
noncomputable def FI11 : FI := fiOfFn Tryz.f11
noncomputable def body11 : Code := (fiOfFn Tryz.f11).body
theorem fn11 : E.fn 11 = some FI11 := by kernel_rfl
theorem bd11 : FI11.body = body11 := rfl
theorem rs11 : FI11.results = [.tmp 4] := by kernel_rfl
theorem nt11 : FI11.nt = 64 := by kernel_rfl
noncomputable def FI12 : FI := fiOfFn Tryz.f12
noncomputable def body12 : Code := (fiOfFn Tryz.f12).body
theorem fn12 : E.fn 12 = some FI12 := by kernel_rfl
theorem bd12 : FI12.body = body12 := rfl
theorem rs12 : FI12.results = [.tmp 4] := by kernel_rfl
theorem nt12 : FI12.nt = 74 := by kernel_rfl
noncomputable def FI13 : FI := fiOfFn Tryz.f13
noncomputable def body13 : Code := (fiOfFn Tryz.f13).body
theorem fn13 : E.fn 13 = some FI13 := by kernel_rfl
theorem bd13 : FI13.body = body13 := rfl
theorem rs13 : FI13.results = [.cell 2 22, .tmp 3] := by kernel_rfl
theorem nt13 : FI13.nt = 86 := by kernel_rfl
noncomputable def FI14 : FI := fiOfFn Tryz.f14
noncomputable def body14 : Code := (fiOfFn Tryz.f14).body
theorem fn14 : E.fn 14 = some FI14 := by kernel_rfl
theorem bd14 : FI14.body = body14 := rfl
theorem rs14 : FI14.results = [.cell 2 27, .tmp 3, .tmp 4] := by kernel_rfl
theorem nt14 : FI14.nt = 91 := by kernel_rfl
noncomputable def FI15 : FI := fiOfFn Tryz.f15
noncomputable def body15 : Code := (fiOfFn Tryz.f15).body
theorem fn15 : E.fn 15 = some FI15 := by kernel_rfl
theorem bd15 : FI15.body = body15 := rfl
theorem rs15 : FI15.results = [.tmp 2, .tmp 3] := by kernel_rfl
theorem nt15 : FI15.nt = 36 := by kernel_rfl
noncomputable def FI16 : FI := fiOfFn Tryz.f16
noncomputable def body16 : Code := (fiOfFn Tryz.f16).body
theorem fn16 : E.fn 16 = some FI16 := by kernel_rfl
theorem bd16 : FI16.body = body16 := rfl
theorem rs16 : FI16.results = [.tmp 2] := by kernel_rfl
theorem nt16 : FI16.nt = 4 := by kernel_rfl
noncomputable def FI17 : FI := fiOfFn Tryz.f17
noncomputable def body17 : Code := (fiOfFn Tryz.f17).body
theorem fn17 : E.fn 17 = some FI17 := by kernel_rfl
theorem bd17 : FI17.body = body17 := rfl
theorem rs17 : FI17.results = [.tmp 0] := by kernel_rfl
theorem nt17 : FI17.nt = 27 := by kernel_rfl
noncomputable def FI18 : FI := fiOfFn Tryz.f18
noncomputable def body18 : Code := (fiOfFn Tryz.f18).body
theorem fn18 : E.fn 18 = some FI18 := by kernel_rfl
theorem bd18 : FI18.body = body18 := rfl
theorem rs18 : FI18.results = [.cell 2 27, .tmp 3, .tmp 4] := by kernel_rfl
theorem nt18 : FI18.nt = 109 := by kernel_rfl
noncomputable def FI19 : FI := fiOfFn Tryz.f19
noncomputable def body19 : Code := (fiOfFn Tryz.f19).body
theorem fn19 : E.fn 19 = some FI19 := by kernel_rfl
theorem bd19 : FI19.body = body19 := rfl
theorem rs19 : FI19.results = [.tmp 4] := by kernel_rfl
theorem nt19 : FI19.nt = 61 := by kernel_rfl
noncomputable def FI20 : FI := fiOfFn Tryz.f20
noncomputable def body20 : Code := (fiOfFn Tryz.f20).body
theorem fn20 : E.fn 20 = some FI20 := by kernel_rfl
theorem bd20 : FI20.body = body20 := rfl
theorem rs20 : FI20.results = [.tmp 2] := by kernel_rfl
theorem nt20 : FI20.nt = 72 := by kernel_rfl
noncomputable def FI21 : FI := fiOfFn Tryz.f21
noncomputable def body21 : Code := (fiOfFn Tryz.f21).body
theorem fn21 : E.fn 21 = some FI21 := by kernel_rfl
theorem bd21 : FI21.body = body21 := rfl
theorem rs21 : FI21.results = [.tmp 4] := by kernel_rfl
theorem nt21 : FI21.nt = 17 := by kernel_rfl
noncomputable def FI22 : FI := fiOfFn Tryz.f22
noncomputable def body22 : Code := (fiOfFn Tryz.f22).body
theorem fn22 : E.fn 22 = some FI22 := by kernel_rfl
theorem bd22 : FI22.body = body22 := rfl
theorem rs22 : FI22.results = [.tmp 2] := by kernel_rfl
theorem nt22 : FI22.nt = 68 := by kernel_rfl
noncomputable def FI23 : FI := fiOfFn Tryz.f23
noncomputable def body23 : Code := (fiOfFn Tryz.f23).body
theorem fn23 : E.fn 23 = some FI23 := by kernel_rfl
theorem bd23 : FI23.body = body23 := rfl
theorem rs23 : FI23.results = [.tmp 2] := by kernel_rfl
theorem nt23 : FI23.nt = 128 := by kernel_rfl
noncomputable def FI24 : FI := fiOfFn Tryz.f24
noncomputable def body24 : Code := (fiOfFn Tryz.f24).body
theorem fn24 : E.fn 24 = some FI24 := by kernel_rfl
theorem bd24 : FI24.body = body24 := rfl
theorem rs24 : FI24.results = [.tmp 2, .tmp 3] := by kernel_rfl
theorem nt24 : FI24.nt = 15 := by kernel_rfl
noncomputable def FI25 : FI := fiOfFn Tryz.f25
noncomputable def body25 : Code := (fiOfFn Tryz.f25).body
theorem fn25 : E.fn 25 = some FI25 := by kernel_rfl
theorem bd25 : FI25.body = body25 := rfl
theorem rs25 : FI25.results = [.tmp 4] := by kernel_rfl
theorem nt25 : FI25.nt = 47 := by kernel_rfl
noncomputable def FI26 : FI := fiOfFn Tryz.f26
noncomputable def body26 : Code := (fiOfFn Tryz.f26).body
theorem fn26 : E.fn 26 = some FI26 := by kernel_rfl
theorem bd26 : FI26.body = body26 := rfl
theorem rs26 : FI26.results = [.cell 4 38] := by kernel_rfl
theorem nt26 : FI26.nt = 90 := by kernel_rfl
noncomputable def FI27 : FI := fiOfFn Tryz.f27
noncomputable def body27 : Code := (fiOfFn Tryz.f27).body
theorem fn27 : E.fn 27 = some FI27 := by kernel_rfl
theorem bd27 : FI27.body = body27 := rfl
theorem rs27 : FI27.results = [.tmp 4] := by kernel_rfl
theorem nt27 : FI27.nt = 24 := by kernel_rfl
noncomputable def FI28 : FI := fiOfFn Tryz.f28
noncomputable def body28 : Code := (fiOfFn Tryz.f28).body
theorem fn28 : E.fn 28 = some FI28 := by kernel_rfl
theorem bd28 : FI28.body = body28 := rfl
theorem rs28 : FI28.results = [.tmp 2] := by kernel_rfl
theorem nt28 : FI28.nt = 30 := by kernel_rfl
noncomputable def FI29 : FI := fiOfFn Tryz.f29
noncomputable def body29 : Code := (fiOfFn Tryz.f29).body
theorem fn29 : E.fn 29 = some FI29 := by kernel_rfl
theorem bd29 : FI29.body = body29 := rfl
theorem rs29 : FI29.results = [.tmp 6] := by kernel_rfl
theorem nt29 : FI29.nt = 65 := by kernel_rfl
noncomputable def FI30 : FI := fiOfFn Tryz.f30
noncomputable def body30 : Code := (fiOfFn Tryz.f30).body
theorem fn30 : E.fn 30 = some FI30 := by kernel_rfl
theorem bd30 : FI30.body = body30 := rfl
theorem rs30 : FI30.results = [.cell 4 38, .cell 5 28] := by kernel_rfl
theorem nt30 : FI30.nt = 18 := by kernel_rfl
noncomputable def FI31 : FI := fiOfFn Tryz.f31
noncomputable def body31 : Code := (fiOfFn Tryz.f31).body
theorem fn31 : E.fn 31 = some FI31 := by kernel_rfl
theorem bd31 : FI31.body = body31 := rfl
theorem rs31 : FI31.results = [.tmp 4] := by kernel_rfl
theorem nt31 : FI31.nt = 24 := by kernel_rfl
noncomputable def FI32 : FI := fiOfFn Tryz.f32
noncomputable def body32 : Code := (fiOfFn Tryz.f32).body
theorem fn32 : E.fn 32 = some FI32 := by kernel_rfl
theorem bd32 : FI32.body = body32 := rfl
theorem rs32 : FI32.results = [.tmp 2, .tmp 3] := by kernel_rfl
theorem nt32 : FI32.nt = 36 := by kernel_rfl
noncomputable def FI33 : FI := fiOfFn Tryz.f33
noncomputable def body33 : Code := (fiOfFn Tryz.f33).body
theorem fn33 : E.fn 33 = some FI33 := by kernel_rfl
theorem bd33 : FI33.body = body33 := rfl
theorem rs33 : FI33.results = [.tmp 2] := by kernel_rfl
theorem nt33 : FI33.nt = 111 := by kernel_rfl
noncomputable def FI34 : FI := fiOfFn Tryz.f34
noncomputable def body34 : Code := (fiOfFn Tryz.f34).body
theorem fn34 : E.fn 34 = some FI34 := by kernel_rfl
theorem bd34 : FI34.body = body34 := rfl
theorem rs34 : FI34.results = [.tmp 2] := by kernel_rfl
theorem nt34 : FI34.nt = 86 := by kernel_rfl
noncomputable def FI35 : FI := fiOfFn Tryz.f35
noncomputable def body35 : Code := (fiOfFn Tryz.f35).body
theorem fn35 : E.fn 35 = some FI35 := by kernel_rfl
theorem bd35 : FI35.body = body35 := rfl
theorem rs35 : FI35.results = [.tmp 4] := by kernel_rfl
theorem nt35 : FI35.nt = 10 := by kernel_rfl
noncomputable def FI36 : FI := fiOfFn Tryz.f36
noncomputable def body36 : Code := (fiOfFn Tryz.f36).body
theorem fn36 : E.fn 36 = some FI36 := by kernel_rfl
theorem bd36 : FI36.body = body36 := rfl
theorem rs36 : FI36.results = [.tmp 2] := by kernel_rfl
theorem nt36 : FI36.nt = 38 := by kernel_rfl
noncomputable def FI37 : FI := fiOfFn Tryz.f37
noncomputable def body37 : Code := (fiOfFn Tryz.f37).body
theorem fn37 : E.fn 37 = some FI37 := by kernel_rfl
theorem bd37 : FI37.body = body37 := rfl
theorem rs37 : FI37.results = [.tmp 4, .tmp 5, .tmp 6] := by kernel_rfl
theorem nt37 : FI37.nt = 13 := by kernel_rfl
noncomputable def FI38 : FI := fiOfFn Tryz.f38
noncomputable def body38 : Code := (fiOfFn Tryz.f38).body
theorem fn38 : E.fn 38 = some FI38 := by kernel_rfl
theorem bd38 : FI38.body = body38 := rfl
theorem rs38 : FI38.results = [.cell 2 47, .cell 3 4] := by kernel_rfl
theorem nt38 : FI38.nt = 110 := by kernel_rfl
noncomputable def FI39 : FI := fiOfFn Tryz.f39
noncomputable def body39 : Code := (fiOfFn Tryz.f39).body
theorem fn39 : E.fn 39 = some FI39 := by kernel_rfl
theorem bd39 : FI39.body = body39 := rfl
theorem rs39 : FI39.results = [.tmp 2] := by kernel_rfl
theorem nt39 : FI39.nt = 41 := by kernel_rfl
noncomputable def FI40 : FI := fiOfFn Tryz.f40
noncomputable def body40 : Code := (fiOfFn Tryz.f40).body
theorem fn40 : E.fn 40 = some FI40 := by kernel_rfl
theorem bd40 : FI40.body = body40 := rfl
theorem rs40 : FI40.results = [.tmp 2] := by kernel_rfl
theorem nt40 : FI40.nt = 10 := by kernel_rfl
noncomputable def FI41 : FI := fiOfFn Tryz.f41
noncomputable def body41 : Code := (fiOfFn Tryz.f41).body
theorem fn41 : E.fn 41 = some FI41 := by kernel_rfl
theorem bd41 : FI41.body = body41 := rfl
theorem rs41 : FI41.results = [.cell 4 38] := by kernel_rfl
theorem nt41 : FI41.nt = 76 := by kernel_rfl
noncomputable def FI42 : FI := fiOfFn Tryz.f42
noncomputable def body42 : Code := (fiOfFn Tryz.f42).body
theorem fn42 : E.fn 42 = some FI42 := by kernel_rfl
theorem bd42 : FI42.body = body42 := rfl
theorem rs42 : FI42.results = [] := by kernel_rfl
theorem nt42 : FI42.nt = 14 := by kernel_rfl
noncomputable def FI43 : FI := fiOfFn Tryz.f43
noncomputable def body43 : Code := (fiOfFn Tryz.f43).body
theorem fn43 : E.fn 43 = some FI43 := by kernel_rfl
theorem bd43 : FI43.body = body43 := rfl
theorem rs43 : FI43.results = [.tmp 4] := by kernel_rfl
theorem nt43 : FI43.nt = 33 := by kernel_rfl
noncomputable def FI44 : FI := fiOfFn Tryz.f44
noncomputable def body44 : Code := (fiOfFn Tryz.f44).body
theorem fn44 : E.fn 44 = some FI44 := by kernel_rfl
theorem bd44 : FI44.body = body44 := rfl
theorem rs44 : FI44.results = [.tmp 4] := by kernel_rfl
theorem nt44 : FI44.nt = 66 := by kernel_rfl
noncomputable def FI45 : FI := fiOfFn Tryz.f45
noncomputable def body45 : Code := (fiOfFn Tryz.f45).body
theorem fn45 : E.fn 45 = some FI45 := by kernel_rfl
theorem bd45 : FI45.body = body45 := rfl
theorem rs45 : FI45.results = [.tmp 4] := by kernel_rfl
theorem nt45 : FI45.nt = 9 := by kernel_rfl
noncomputable def FI46 : FI := fiOfFn Tryz.f46
noncomputable def body46 : Code := (fiOfFn Tryz.f46).body
theorem fn46 : E.fn 46 = some FI46 := by kernel_rfl
theorem bd46 : FI46.body = body46 := rfl
theorem rs46 : FI46.results = [.cell 2 47, .tmp 3] := by kernel_rfl
theorem nt46 : FI46.nt = 176 := by kernel_rfl
noncomputable def FI47 : FI := fiOfFn Tryz.f47
noncomputable def body47 : Code := (fiOfFn Tryz.f47).body
theorem fn47 : E.fn 47 = some FI47 := by kernel_rfl
theorem bd47 : FI47.body = body47 := rfl
theorem rs47 : FI47.results = [.tmp 2] := by kernel_rfl
theorem nt47 : FI47.nt = 69 := by kernel_rfl
noncomputable def FI48 : FI := fiOfFn Tryz.f48
noncomputable def body48 : Code := (fiOfFn Tryz.f48).body
theorem fn48 : E.fn 48 = some FI48 := by kernel_rfl
theorem bd48 : FI48.body = body48 := rfl
theorem rs48 : FI48.results = [.tmp 2] := by kernel_rfl
theorem nt48 : FI48.nt = 11 := by kernel_rfl
noncomputable def FI49 : FI := fiOfFn Tryz.f49
noncomputable def body49 : Code := (fiOfFn Tryz.f49).body
theorem fn49 : E.fn 49 = some FI49 := by kernel_rfl
theorem bd49 : FI49.body = body49 := rfl
theorem rs49 : FI49.results = [.tmp 2] := by kernel_rfl
theorem nt49 : FI49.nt = 67 := by kernel_rfl
noncomputable def FI50 : FI := fiOfFn Tryz.f50
noncomputable def body50 : Code := (fiOfFn Tryz.f50).body
theorem fn50 : E.fn 50 = some FI50 := by kernel_rfl
theorem bd50 : FI50.body = body50 := rfl
theorem rs50 : FI50.results = [.tmp 6] := by kernel_rfl
theorem nt50 : FI50.nt = 15 := by kernel_rfl
noncomputable def FI51 : FI := fiOfFn Tryz.f51
noncomputable def body51 : Code := (fiOfFn Tryz.f51).body
theorem fn51 : E.fn 51 = some FI51 := by kernel_rfl
theorem bd51 : FI51.body = body51 := rfl
theorem rs51 : FI51.results = [.tmp 2] := by kernel_rfl
theorem nt51 : FI51.nt = 6 := by kernel_rfl
noncomputable def FI52 : FI := fiOfFn Tryz.f52
noncomputable def body52 : Code := (fiOfFn Tryz.f52).body
theorem fn52 : E.fn 52 = some FI52 := by kernel_rfl
theorem bd52 : FI52.body = body52 := rfl
theorem rs52 : FI52.results = [.tmp 2] := by kernel_rfl
theorem nt52 : FI52.nt = 57 := by kernel_rfl
noncomputable def FI53 : FI := fiOfFn Tryz.f53
noncomputable def body53 : Code := (fiOfFn Tryz.f53).body
theorem fn53 : E.fn 53 = some FI53 := by kernel_rfl
theorem bd53 : FI53.body = body53 := rfl
theorem rs53 : FI53.results = [.tmp 2] := by kernel_rfl
theorem nt53 : FI53.nt = 121 := by kernel_rfl
noncomputable def FI54 : FI := fiOfFn Tryz.f54
noncomputable def body54 : Code := (fiOfFn Tryz.f54).body
theorem fn54 : E.fn 54 = some FI54 := by kernel_rfl
theorem bd54 : FI54.body = body54 := rfl
theorem rs54 : FI54.results = [.cell 2 99] := by kernel_rfl
theorem nt54 : FI54.nt = 162 := by kernel_rfl
noncomputable def FI55 : FI := fiOfFn Tryz.f55
noncomputable def body55 : Code := (fiOfFn Tryz.f55).body
theorem fn55 : E.fn 55 = some FI55 := by kernel_rfl
theorem bd55 : FI55.body = body55 := rfl
theorem rs55 : FI55.results = [.tmp 2] := by kernel_rfl
theorem nt55 : FI55.nt = 85 := by kernel_rfl
noncomputable def FI56 : FI := fiOfFn Tryz.f56
noncomputable def body56 : Code := (fiOfFn Tryz.f56).body
theorem fn56 : E.fn 56 = some FI56 := by kernel_rfl
theorem bd56 : FI56.body = body56 := rfl
theorem rs56 : FI56.results = [.tmp 2] := by kernel_rfl
theorem nt56 : FI56.nt = 103 := by kernel_rfl
noncomputable def FI57 : FI := fiOfFn Tryz.f57
noncomputable def body57 : Code := (fiOfFn Tryz.f57).body
theorem fn57 : E.fn 57 = some FI57 := by kernel_rfl
theorem bd57 : FI57.body = body57 := rfl
theorem rs57 : FI57.results = [.tmp 2] := by kernel_rfl
theorem nt57 : FI57.nt = 11 := by kernel_rfl
noncomputable def FI58 : FI := fiOfFn Tryz.f58
noncomputable def body58 : Code := (fiOfFn Tryz.f58).body
theorem fn58 : E.fn 58 = some FI58 := by kernel_rfl
theorem bd58 : FI58.body = body58 := rfl
theorem rs58 : FI58.results = [.tmp 8, .tmp 9] := by kernel_rfl
theorem nt58 : FI58.nt = 80 := by kernel_rfl
noncomputable def FI59 : FI := fiOfFn Tryz.f59
noncomputable def body59 : Code := (fiOfFn Tryz.f59).body
theorem fn59 : E.fn 59 = some FI59 := by kernel_rfl
theorem bd59 : FI59.body = body59 := rfl
theorem rs59 : FI59.results = [.tmp 2] := by kernel_rfl
theorem nt59 : FI59.nt = 16 := by kernel_rfl
noncomputable def FI60 : FI := fiOfFn Tryz.f60
noncomputable def body60 : Code := (fiOfFn Tryz.f60).body
theorem fn60 : E.fn 60 = some FI60 := by kernel_rfl
theorem bd60 : FI60.body = body60 := rfl
theorem rs60 : FI60.results = [.cell 2 111, .tmp 3] := by kernel_rfl
theorem nt60 : FI60.nt = 44 := by kernel_rfl
noncomputable def FI61 : FI := fiOfFn Tryz.f61
noncomputable def body61 : Code := (fiOfFn Tryz.f61).body
theorem fn61 : E.fn 61 = some FI61 := by kernel_rfl
theorem bd61 : FI61.body = body61 := rfl
theorem rs61 : FI61.results = [.tmp 4] := by kernel_rfl
theorem nt61 : FI61.nt = 71 := by kernel_rfl
noncomputable def FI62 : FI := fiOfFn Tryz.f62
noncomputable def body62 : Code := (fiOfFn Tryz.f62).body
theorem fn62 : E.fn 62 = some FI62 := by kernel_rfl
theorem bd62 : FI62.body = body62 := rfl
theorem rs62 : FI62.results = [.cell 6 70] := by kernel_rfl
theorem nt62 : FI62.nt = 91 := by kernel_rfl
noncomputable def FI63 : FI := fiOfFn Tryz.f63
noncomputable def body63 : Code := (fiOfFn Tryz.f63).body
theorem fn63 : E.fn 63 = some FI63 := by kernel_rfl
theorem bd63 : FI63.body = body63 := rfl
theorem rs63 : FI63.results = [.tmp 6] := by kernel_rfl
theorem nt63 : FI63.nt = 32 := by kernel_rfl
noncomputable def FI64 : FI := fiOfFn Tryz.f64
noncomputable def body64 : Code := (fiOfFn Tryz.f64).body
theorem fn64 : E.fn 64 = some FI64 := by kernel_rfl
theorem bd64 : FI64.body = body64 := rfl
theorem rs64 : FI64.results = [.tmp 4] := by kernel_rfl
theorem nt64 : FI64.nt = 94 := by kernel_rfl
noncomputable def FI65 : FI := fiOfFn Tryz.f65
noncomputable def body65 : Code := (fiOfFn Tryz.f65).body
theorem fn65 : E.fn 65 = some FI65 := by kernel_rfl
theorem bd65 : FI65.body = body65 := rfl
theorem rs65 : FI65.results = [.tmp 4] := by kernel_rfl
theorem nt65 : FI65.nt = 26 := by kernel_rfl
noncomputable def FI66 : FI := fiOfFn Tryz.f66
noncomputable def body66 : Code := (fiOfFn Tryz.f66).body
theorem fn66 : E.fn 66 = some FI66 := by kernel_rfl
theorem bd66 : FI66.body = body66 := rfl
theorem rs66 : FI66.results = [.tmp 6] := by kernel_rfl
theorem nt66 : FI66.nt = 32 := by kernel_rfl
noncomputable def FI67 : FI := fiOfFn Tryz.f67
noncomputable def body67 : Code := (fiOfFn Tryz.f67).body
theorem fn67 : E.fn 67 = some FI67 := by kernel_rfl
theorem bd67 : FI67.body = body67 := rfl
theorem rs67 : FI67.results = [.tmp 4, .tmp 5] := by kernel_rfl
theorem nt67 : FI67.nt = 19 := by kernel_rfl
noncomputable def FI68 : FI := fiOfFn Tryz.f68
noncomputable def body68 : Code := (fiOfFn Tryz.f68).body
theorem fn68 : E.fn 68 = some FI68 := by kernel_rfl
theorem bd68 : FI68.body = body68 := rfl
theorem rs68 : FI68.results = [.tmp 2] := by kernel_rfl
theorem nt68 : FI68.nt = 62 := by kernel_rfl
noncomputable def FI69 : FI := fiOfFn Tryz.f69
noncomputable def body69 : Code := (fiOfFn Tryz.f69).body
theorem fn69 : E.fn 69 = some FI69 := by kernel_rfl
theorem bd69 : FI69.body = body69 := rfl
theorem rs69 : FI69.results = [.tmp 2] := by kernel_rfl
theorem nt69 : FI69.nt = 14 := by kernel_rfl
noncomputable def FI70 : FI := fiOfFn Tryz.f70
noncomputable def body70 : Code := (fiOfFn Tryz.f70).body
theorem fn70 : E.fn 70 = some FI70 := by kernel_rfl
theorem bd70 : FI70.body = body70 := rfl
theorem rs70 : FI70.results = [.tmp 2] := by kernel_rfl
theorem nt70 : FI70.nt = 10 := by kernel_rfl
noncomputable def FI71 : FI := fiOfFn Tryz.f71
noncomputable def body71 : Code := (fiOfFn Tryz.f71).body
theorem fn71 : E.fn 71 = some FI71 := by kernel_rfl
theorem bd71 : FI71.body = body71 := rfl
theorem rs71 : FI71.results = [.tmp 2] := by kernel_rfl
theorem nt71 : FI71.nt = 6 := by kernel_rfl
noncomputable def FI72 : FI := fiOfFn Tryz.f72
noncomputable def body72 : Code := (fiOfFn Tryz.f72).body
theorem fn72 : E.fn 72 = some FI72 := by kernel_rfl
theorem bd72 : FI72.body = body72 := rfl
theorem rs72 : FI72.results = [.tmp 2] := by kernel_rfl
theorem nt72 : FI72.nt = 6 := by kernel_rfl
noncomputable def FI73 : FI := fiOfFn Tryz.f73
noncomputable def body73 : Code := (fiOfFn Tryz.f73).body
theorem fn73 : E.fn 73 = some FI73 := by kernel_rfl
theorem bd73 : FI73.body = body73 := rfl
theorem rs73 : FI73.results = [.tmp 2] := by kernel_rfl
theorem nt73 : FI73.nt = 7 := by kernel_rfl
noncomputable def FI74 : FI := fiOfFn Tryz.f74
noncomputable def body74 : Code := (fiOfFn Tryz.f74).body
theorem fn74 : E.fn 74 = some FI74 := by kernel_rfl
theorem bd74 : FI74.body = body74 := rfl
theorem rs74 : FI74.results = [.tmp 2] := by kernel_rfl
theorem nt74 : FI74.nt = 13 := by kernel_rfl
noncomputable def FI75 : FI := fiOfFn Tryz.f75
noncomputable def body75 : Code := (fiOfFn Tryz.f75).body
theorem fn75 : E.fn 75 = some FI75 := by kernel_rfl
theorem bd75 : FI75.body = body75 := rfl
theorem rs75 : FI75.results = [.tmp 2] := by kernel_rfl
theorem nt75 : FI75.nt = 7 := by kernel_rfl
noncomputable def FI76 : FI := fiOfFn Tryz.f76
noncomputable def body76 : Code := (fiOfFn Tryz.f76).body
theorem fn76 : E.fn 76 = some FI76 := by kernel_rfl
theorem bd76 : FI76.body = body76 := rfl
theorem rs76 : FI76.results = [.tmp 6] := by kernel_rfl
theorem nt76 : FI76.nt = 32 := by kernel_rfl
noncomputable def FI77 : FI := fiOfFn Tryz.f77
noncomputable def body77 : Code := (fiOfFn Tryz.f77).body
theorem fn77 : E.fn 77 = some FI77 := by kernel_rfl
theorem bd77 : FI77.body = body77 := rfl
theorem rs77 : FI77.results = [.tmp 4] := by kernel_rfl
theorem nt77 : FI77.nt = 8 := by kernel_rfl
noncomputable def FI78 : FI := fiOfFn Tryz.f78
noncomputable def body78 : Code := (fiOfFn Tryz.f78).body
theorem fn78 : E.fn 78 = some FI78 := by kernel_rfl
theorem bd78 : FI78.body = body78 := rfl
theorem rs78 : FI78.results = [.tmp 4] := by kernel_rfl
theorem nt78 : FI78.nt = 26 := by kernel_rfl
noncomputable def FI79 : FI := fiOfFn Tryz.f79
noncomputable def body79 : Code := (fiOfFn Tryz.f79).body
theorem fn79 : E.fn 79 = some FI79 := by kernel_rfl
theorem bd79 : FI79.body = body79 := rfl
theorem rs79 : FI79.results = [.tmp 4, .tmp 5, .tmp 6] := by kernel_rfl
theorem nt79 : FI79.nt = 23 := by kernel_rfl
noncomputable def FI80 : FI := fiOfFn Tryz.f80
noncomputable def body80 : Code := (fiOfFn Tryz.f80).body
theorem fn80 : E.fn 80 = some FI80 := by kernel_rfl
theorem bd80 : FI80.body = body80 := rfl
theorem rs80 : FI80.results = [] := by kernel_rfl
theorem nt80 : FI80.nt = 12 := by kernel_rfl
noncomputable def FI81 : FI := fiOfFn Tryz.f81
noncomputable def body81 : Code := (fiOfFn Tryz.f81).body
theorem fn81 : E.fn 81 = some FI81 := by kernel_rfl
theorem bd81 : FI81.body = body81 := rfl
theorem rs81 : FI81.results = [.tmp 4] := by kernel_rfl
theorem nt81 : FI81.nt = 8 := by kernel_rfl
noncomputable def FI82 : FI := fiOfFn Tryz.f82
noncomputable def body82 : Code := (fiOfFn Tryz.f82).body
theorem fn82 : E.fn 82 = some FI82 := by kernel_rfl
theorem bd82 : FI82.body = body82 := rfl
theorem rs82 : FI82.results = [.cell 0 135] := by kernel_rfl
theorem nt82 : FI82.nt = 2 := by kernel_rfl
noncomputable def FI83 : FI := fiOfFn Tryz.f83
noncomputable def body83 : Code := (fiOfFn Tryz.f83).body
theorem fn83 : E.fn 83 = some FI83 := by kernel_rfl
theorem bd83 : FI83.body = body83 := rfl
theorem rs83 : FI83.results = [] := by kernel_rfl
theorem nt83 : FI83.nt = 22 := by kernel_rfl
noncomputable def FI84 : FI := fiOfFn Tryz.f84
noncomputable def body84 : Code := (fiOfFn Tryz.f84).body
theorem fn84 : E.fn 84 = some FI84 := by kernel_rfl
theorem bd84 : FI84.body = body84 := rfl
theorem rs84 : FI84.results = [] := by kernel_rfl
theorem nt84 : FI84.nt = 6 := by kernel_rfl
noncomputable def FI85 : FI := fiOfFn Tryz.f85
noncomputable def body85 : Code := (fiOfFn Tryz.f85).body
theorem fn85 : E.fn 85 = some FI85 := by kernel_rfl
theorem bd85 : FI85.body = body85 := rfl
theorem rs85 : FI85.results = [.tmp 4] := by kernel_rfl
theorem nt85 : FI85.nt = 17 := by kernel_rfl
noncomputable def FI86 : FI := fiOfFn Tryz.f86
noncomputable def body86 : Code := (fiOfFn Tryz.f86).body
theorem fn86 : E.fn 86 = some FI86 := by kernel_rfl
theorem bd86 : FI86.body = body86 := rfl
theorem rs86 : FI86.results = [] := by kernel_rfl
theorem nt86 : FI86.nt = 15 := by kernel_rfl
noncomputable def FI87 : FI := fiOfFn Tryz.f87
noncomputable def body87 : Code := (fiOfFn Tryz.f87).body
theorem fn87 : E.fn 87 = some FI87 := by kernel_rfl
theorem bd87 : FI87.body = body87 := rfl
theorem rs87 : FI87.results = [.tmp 2] := by kernel_rfl
theorem nt87 : FI87.nt = 6 := by kernel_rfl
noncomputable def FI88 : FI := fiOfFn Tryz.f88
noncomputable def body88 : Code := (fiOfFn Tryz.f88).body
theorem fn88 : E.fn 88 = some FI88 := by kernel_rfl
theorem bd88 : FI88.body = body88 := rfl
theorem rs88 : FI88.results = [.tmp 2] := by kernel_rfl
theorem nt88 : FI88.nt = 4 := by kernel_rfl
noncomputable def FI89 : FI := fiOfFn Tryz.f89
noncomputable def body89 : Code := (fiOfFn Tryz.f89).body
theorem fn89 : E.fn 89 = some FI89 := by kernel_rfl
theorem bd89 : FI89.body = body89 := rfl
theorem rs89 : FI89.results = [.tmp 4] := by kernel_rfl
theorem nt89 : FI89.nt = 8 := by kernel_rfl
noncomputable def FI90 : FI := fiOfFn Tryz.f90
noncomputable def body90 : Code := (fiOfFn Tryz.f90).body
theorem fn90 : E.fn 90 = some FI90 := by kernel_rfl
theorem bd90 : FI90.body = body90 := rfl
theorem rs90 : FI90.results = [.tmp 2] := by kernel_rfl
theorem nt90 : FI90.nt = 6 := by kernel_rfl
noncomputable def FI91 : FI := fiOfFn Tryz.f91
noncomputable def body91 : Code := (fiOfFn Tryz.f91).body
theorem fn91 : E.fn 91 = some FI91 := by kernel_rfl
theorem bd91 : FI91.body = body91 := rfl
theorem rs91 : FI91.results = [] := by kernel_rfl
theorem nt91 : FI91.nt = 32 := by kernel_rfl
noncomputable def FI92 : FI := fiOfFn Tryz.f92
noncomputable def body92 : Code := (fiOfFn Tryz.f92).body
theorem fn92 : E.fn 92 = some FI92 := by kernel_rfl
theorem bd92 : FI92.body = body92 := rfl
theorem rs92 : FI92.results = [] := by kernel_rfl
theorem nt92 : FI92.nt = 59 := by kernel_rfl
noncomputable def FI93 : FI := fiOfFn Tryz.f93
noncomputable def body93 : Code := (fiOfFn Tryz.f93).body
theorem fn93 : E.fn 93 = some FI93 := by kernel_rfl
theorem bd93 : FI93.body = body93 := rfl
theorem rs93 : FI93.results = [.tmp 2] := by kernel_rfl
theorem nt93 : FI93.nt = 36 := by kernel_rfl
noncomputable def FI94 : FI := fiOfFn Tryz.f94
noncomputable def body94 : Code := (fiOfFn Tryz.f94).body
theorem fn94 : E.fn 94 = some FI94 := by kernel_rfl
theorem bd94 : FI94.body = body94 := rfl
theorem rs94 : FI94.results = [.tmp 4] := by kernel_rfl
theorem nt94 : FI94.nt = 9 := by kernel_rfl
noncomputable def FI95 : FI := fiOfFn Tryz.f95
noncomputable def body95 : Code := (fiOfFn Tryz.f95).body
theorem fn95 : E.fn 95 = some FI95 := by kernel_rfl
theorem bd95 : FI95.body = body95 := rfl
theorem rs95 : FI95.results = [.tmp 3] := by kernel_rfl
theorem nt95 : FI95.nt = 12 := by kernel_rfl
noncomputable def FI96 : FI := fiOfFn Tryz.f96
noncomputable def body96 : Code := (fiOfFn Tryz.f96).body
theorem fn96 : E.fn 96 = some FI96 := by kernel_rfl
theorem bd96 : FI96.body = body96 := rfl
theorem rs96 : FI96.results = [.tmp 8] := by kernel_rfl
theorem nt96 : FI96.nt = 45 := by kernel_rfl
noncomputable def FI97 : FI := fiOfFn Tryz.f97
noncomputable def body97 : Code := (fiOfFn Tryz.f97).body
theorem fn97 : E.fn 97 = some FI97 := by kernel_rfl
theorem bd97 : FI97.body = body97 := rfl
theorem rs97 : FI97.results = [] := by kernel_rfl
theorem nt97 : FI97.nt = 96 := by kernel_rfl
noncomputable def FI98 : FI := fiOfFn Tryz.f98
noncomputable def body98 : Code := (fiOfFn Tryz.f98).body
theorem fn98 : E.fn 98 = some FI98 := by kernel_rfl
theorem bd98 : FI98.body = body98 := rfl
theorem rs98 : FI98.results = [] := by kernel_rfl
theorem nt98 : FI98.nt = 2 := by kernel_rfl
noncomputable def FI99 : FI := fiOfFn Tryz.f99
noncomputable def body99 : Code := (fiOfFn Tryz.f99).body
theorem fn99 : E.fn 99 = some FI99 := by kernel_rfl
theorem bd99 : FI99.body = body99 := rfl
theorem rs99 : FI99.results = [] := by kernel_rfl
theorem nt99 : FI99.nt = 30 := by kernel_rfl
noncomputable def FI100 : FI := fiOfFn Tryz.f100
noncomputable def body100 : Code := (fiOfFn Tryz.f100).body
theorem fn100 : E.fn 100 = some FI100 := by kernel_rfl
theorem bd100 : FI100.body = body100 := rfl
theorem rs100 : FI100.results = [.tmp 2] := by kernel_rfl
theorem nt100 : FI100.nt = 4 := by kernel_rfl
noncomputable def FI101 : FI := fiOfFn Tryz.f101
noncomputable def body101 : Code := (fiOfFn Tryz.f101).body
theorem fn101 : E.fn 101 = some FI101 := by kernel_rfl
theorem bd101 : FI101.body = body101 := rfl
theorem rs101 : FI101.results = [.cell 4 56, .cell 5 4] := by kernel_rfl
theorem nt101 : FI101.nt = 60 := by kernel_rfl
noncomputable def FI102 : FI := fiOfFn Tryz.f102
noncomputable def body102 : Code := (fiOfFn Tryz.f102).body
theorem fn102 : E.fn 102 = some FI102 := by kernel_rfl
theorem bd102 : FI102.body = body102 := rfl
theorem rs102 : FI102.results = [.tmp 2] := by kernel_rfl
theorem nt102 : FI102.nt = 4 := by kernel_rfl
noncomputable def FI103 : FI := fiOfFn Tryz.f103
noncomputable def body103 : Code := (fiOfFn Tryz.f103).body
theorem fn103 : E.fn 103 = some FI103 := by kernel_rfl
theorem bd103 : FI103.body = body103 := rfl
theorem rs103 : FI103.results = [.tmp 2] := by kernel_rfl
theorem nt103 : FI103.nt = 44 := by kernel_rfl
noncomputable def FI104 : FI := fiOfFn Tryz.f104
noncomputable def body104 : Code := (fiOfFn Tryz.f104).body
theorem fn104 : E.fn 104 = some FI104 := by kernel_rfl
theorem bd104 : FI104.body = body104 := rfl
theorem rs104 : FI104.results = [.tmp 2] := by kernel_rfl
theorem nt104 : FI104.nt = 8 := by kernel_rfl
noncomputable def FI105 : FI := fiOfFn Tryz.f105
noncomputable def body105 : Code := (fiOfFn Tryz.f105).body
theorem fn105 : E.fn 105 = some FI105 := by kernel_rfl
theorem bd105 : FI105.body = body105 := rfl
theorem rs105 : FI105.results = [] := by kernel_rfl
theorem nt105 : FI105.nt = 148 := by kernel_rfl
noncomputable def FI106 : FI := fiOfFn Tryz.f106
noncomputable def body106 : Code := (fiOfFn Tryz.f106).body
theorem fn106 : E.fn 106 = some FI106 := by kernel_rfl
theorem bd106 : FI106.body = body106 := rfl
theorem rs106 : FI106.results = [.tmp 2] := by kernel_rfl
theorem nt106 : FI106.nt = 8 := by kernel_rfl
noncomputable def FI107 : FI := fiOfFn Tryz.f107
noncomputable def body107 : Code := (fiOfFn Tryz.f107).body
theorem fn107 : E.fn 107 = some FI107 := by kernel_rfl
theorem bd107 : FI107.body = body107 := rfl
theorem rs107 : FI107.results = [.tmp 4] := by kernel_rfl
theorem nt107 : FI107.nt = 36 := by kernel_rfl
noncomputable def FI108 : FI := fiOfFn Tryz.f108
noncomputable def body108 : Code := (fiOfFn Tryz.f108).body
theorem fn108 : E.fn 108 = some FI108 := by kernel_rfl
theorem bd108 : FI108.body = body108 := rfl
theorem rs108 : FI108.results = [.tmp 2] := by kernel_rfl
theorem nt108 : FI108.nt = 32 := by kernel_rfl
noncomputable def FI109 : FI := fiOfFn Tryz.f109
noncomputable def body109 : Code := (fiOfFn Tryz.f109).body
theorem fn109 : E.fn 109 = some FI109 := by kernel_rfl
theorem bd109 : FI109.body = body109 := rfl
theorem rs109 : FI109.results = [.tmp 2] := by kernel_rfl
theorem nt109 : FI109.nt = 13 := by kernel_rfl
noncomputable def FI110 : FI := fiOfFn Tryz.f110
noncomputable def body110 : Code := (fiOfFn Tryz.f110).body
theorem fn110 : E.fn 110 = some FI110 := by kernel_rfl
theorem bd110 : FI110.body = body110 := rfl
theorem rs110 : FI110.results = [.tmp 2] := by kernel_rfl
theorem nt110 : FI110.nt = 13 := by kernel_rfl
noncomputable def FI111 : FI := fiOfFn Tryz.f111
noncomputable def body111 : Code := (fiOfFn Tryz.f111).body
theorem fn111 : E.fn 111 = some FI111 := by kernel_rfl
theorem bd111 : FI111.body = body111 := rfl
theorem rs111 : FI111.results = [.tmp 2] := by kernel_rfl
theorem nt111 : FI111.nt = 13 := by kernel_rfl
noncomputable def FI112 : FI := fiOfFn Tryz.f112
noncomputable def body112 : Code := (fiOfFn Tryz.f112).body
theorem fn112 : E.fn 112 = some FI112 := by kernel_rfl
theorem bd112 : FI112.body = body112 := rfl
theorem rs112 : FI112.results = [.tmp 2, .tmp 3] := by kernel_rfl
theorem nt112 : FI112.nt = 14 := by kernel_rfl
noncomputable def FI113 : FI := fiOfFn Tryz.f113
noncomputable def body113 : Code := (fiOfFn Tryz.f113).body
theorem fn113 : E.fn 113 = some FI113 := by kernel_rfl
theorem bd113 : FI113.body = body113 := rfl
theorem rs113 : FI113.results = [.tmp 6] := by kernel_rfl
theorem nt113 : FI113.nt = 15 := by kernel_rfl
noncomputable def FI114 : FI := fiOfFn Tryz.f114
noncomputable def body114 : Code := (fiOfFn Tryz.f114).body
theorem fn114 : E.fn 114 = some FI114 := by kernel_rfl
theorem bd114 : FI114.body = body114 := rfl
theorem rs114 : FI114.results = [.cell 2 47] := by kernel_rfl
theorem nt114 : FI114.nt = 49 := by kernel_rfl
noncomputable def FI115 : FI := fiOfFn Tryz.f115
noncomputable def body115 : Code := (fiOfFn Tryz.f115).body
theorem fn115 : E.fn 115 = some FI115 := by kernel_rfl
theorem bd115 : FI115.body = body115 := rfl
theorem rs115 : FI115.results = [.tmp 2] := by kernel_rfl
theorem nt115 : FI115.nt = 10 := by kernel_rfl
noncomputable def FI116 : FI := fiOfFn Tryz.f116
noncomputable def body116 : Code := (fiOfFn Tryz.f116).body
theorem fn116 : E.fn 116 = some FI116 := by kernel_rfl
theorem bd116 : FI116.body = body116 := rfl
theorem rs116 : FI116.results = [] := by kernel_rfl
theorem nt116 : FI116.nt = 7 := by kernel_rfl
noncomputable def FI117 : FI := fiOfFn Tryz.f117
noncomputable def body117 : Code := (fiOfFn Tryz.f117).body
theorem fn117 : E.fn 117 = some FI117 := by kernel_rfl
theorem bd117 : FI117.body = body117 := rfl
theorem rs117 : FI117.results = [.tmp 2] := by kernel_rfl
theorem nt117 : FI117.nt = 10 := by kernel_rfl
noncomputable def FI118 : FI := fiOfFn Tryz.f118
noncomputable def body118 : Code := (fiOfFn Tryz.f118).body
theorem fn118 : E.fn 118 = some FI118 := by kernel_rfl
theorem bd118 : FI118.body = body118 := rfl
theorem rs118 : FI118.results = [.tmp 4] := by kernel_rfl
theorem nt118 : FI118.nt = 46 := by kernel_rfl
noncomputable def FI119 : FI := fiOfFn Tryz.f119
noncomputable def body119 : Code := (fiOfFn Tryz.f119).body
theorem fn119 : E.fn 119 = some FI119 := by kernel_rfl
theorem bd119 : FI119.body = body119 := rfl
theorem rs119 : FI119.results = [.cell 8 99] := by kernel_rfl
theorem nt119 : FI119.nt = 28 := by kernel_rfl
noncomputable def FI120 : FI := fiOfFn Tryz.f120
noncomputable def body120 : Code := (fiOfFn Tryz.f120).body
theorem fn120 : E.fn 120 = some FI120 := by kernel_rfl
theorem bd120 : FI120.body = body120 := rfl
theorem rs120 : FI120.results = [.tmp 4] := by kernel_rfl
theorem nt120 : FI120.nt = 48 := by kernel_rfl
noncomputable def FI121 : FI := fiOfFn Tryz.f121
noncomputable def body121 : Code := (fiOfFn Tryz.f121).body
theorem fn121 : E.fn 121 = some FI121 := by kernel_rfl
theorem bd121 : FI121.body = body121 := rfl
theorem rs121 : FI121.results = [.tmp 4] := by kernel_rfl
theorem nt121 : FI121.nt = 41 := by kernel_rfl
noncomputable def FI122 : FI := fiOfFn Tryz.f122
noncomputable def body122 : Code := (fiOfFn Tryz.f122).body
theorem fn122 : E.fn 122 = some FI122 := by kernel_rfl
theorem bd122 : FI122.body = body122 := rfl
theorem rs122 : FI122.results = [.tmp 2] := by kernel_rfl
theorem nt122 : FI122.nt = 40 := by kernel_rfl
noncomputable def FI123 : FI := fiOfFn Tryz.f123
noncomputable def body123 : Code := (fiOfFn Tryz.f123).body
theorem fn123 : E.fn 123 = some FI123 := by kernel_rfl
theorem bd123 : FI123.body = body123 := rfl
theorem rs123 : FI123.results = [.cell 2 183] := by kernel_rfl
theorem nt123 : FI123.nt = 11 := by kernel_rfl
noncomputable def FI124 : FI := fiOfFn Tryz.f124
noncomputable def body124 : Code := (fiOfFn Tryz.f124).body
theorem fn124 : E.fn 124 = some FI124 := by kernel_rfl
theorem bd124 : FI124.body = body124 := rfl
theorem rs124 : FI124.results = [.tmp 2] := by kernel_rfl
theorem nt124 : FI124.nt = 64 := by kernel_rfl
noncomputable def FI125 : FI := fiOfFn Tryz.f125
noncomputable def body125 : Code := (fiOfFn Tryz.f125).body
theorem fn125 : E.fn 125 = some FI125 := by kernel_rfl
theorem bd125 : FI125.body = body125 := rfl
theorem rs125 : FI125.results = [.tmp 2] := by kernel_rfl
theorem nt125 : FI125.nt = 10 := by kernel_rfl
noncomputable def FI126 : FI := fiOfFn Tryz.f126
noncomputable def body126 : Code := (fiOfFn Tryz.f126).body
theorem fn126 : E.fn 126 = some FI126 := by kernel_rfl
theorem bd126 : FI126.body = body126 := rfl
theorem rs126 : FI126.results = [.tmp 2] := by kernel_rfl
theorem nt126 : FI126.nt = 84 := by kernel_rfl
noncomputable def FI127 : FI := fiOfFn Tryz.f127
noncomputable def body127 : Code := (fiOfFn Tryz.f127).body
theorem fn127 : E.fn 127 = some FI127 := by kernel_rfl
theorem bd127 : FI127.body = body127 := rfl
theorem rs127 : FI127.results = [] := by kernel_rfl
theorem nt127 : FI127.nt = 20 := by kernel_rfl
noncomputable def FI128 : FI := fiOfFn Tryz.f128
noncomputable def body128 : Code := (fiOfFn Tryz.f128).body
theorem fn128 : E.fn 128 = some FI128 := by kernel_rfl
theorem bd128 : FI128.body = body128 := rfl
theorem rs128 : FI128.results = [.tmp 4] := by kernel_rfl
theorem nt128 : FI128.nt = 8 := by kernel_rfl
noncomputable def FI129 : FI := fiOfFn Tryz.f129
noncomputable def body129 : Code := (fiOfFn Tryz.f129).body
theorem fn129 : E.fn 129 = some FI129 := by kernel_rfl
theorem bd129 : FI129.body = body129 := rfl
theorem rs129 : FI129.results = [.tmp 2] := by kernel_rfl
theorem nt129 : FI129.nt = 9 := by kernel_rfl
noncomputable def FI130 : FI := fiOfFn Tryz.f130
noncomputable def body130 : Code := (fiOfFn Tryz.f130).body
theorem fn130 : E.fn 130 = some FI130 := by kernel_rfl
theorem bd130 : FI130.body = body130 := rfl
theorem rs130 : FI130.results = [.tmp 1] := by kernel_rfl
theorem nt130 : FI130.nt = 10 := by kernel_rfl
noncomputable def FI131 : FI := fiOfFn Tryz.f131
noncomputable def body131 : Code := (fiOfFn Tryz.f131).body
theorem fn131 : E.fn 131 = some FI131 := by kernel_rfl
theorem bd131 : FI131.body = body131 := rfl
theorem rs131 : FI131.results = [.tmp 2] := by kernel_rfl
theorem nt131 : FI131.nt = 7 := by kernel_rfl
noncomputable def FI132 : FI := fiOfFn Tryz.f132
noncomputable def body132 : Code := (fiOfFn Tryz.f132).body
theorem fn132 : E.fn 132 = some FI132 := by kernel_rfl
theorem bd132 : FI132.body = body132 := rfl
theorem rs132 : FI132.results = [.tmp 2] := by kernel_rfl
theorem nt132 : FI132.nt = 9 := by kernel_rfl
noncomputable def FI133 : FI := fiOfFn Tryz.f133
noncomputable def body133 : Code := (fiOfFn Tryz.f133).body
theorem fn133 : E.fn 133 = some FI133 := by kernel_rfl
theorem bd133 : FI133.body = body133 := rfl
theorem rs133 : FI133.results = [.tmp 2] := by kernel_rfl
theorem nt133 : FI133.nt = 14 := by kernel_rfl
noncomputable def FI134 : FI := fiOfFn Tryz.f134
noncomputable def body134 : Code := (fiOfFn Tryz.f134).body
theorem fn134 : E.fn 134 = some FI134 := by kernel_rfl
theorem bd134 : FI134.body = body134 := rfl
theorem rs134 : FI134.results = [.tmp 2] := by kernel_rfl
theorem nt134 : FI134.nt = 14 := by kernel_rfl
noncomputable def FI135 : FI := fiOfFn Tryz.f135
noncomputable def body135 : Code := (fiOfFn Tryz.f135).body
theorem fn135 : E.fn 135 = some FI135 := by kernel_rfl
theorem bd135 : FI135.body = body135 := rfl
theorem rs135 : FI135.results = [.tmp 2] := by kernel_rfl
theorem nt135 : FI135.nt = 14 := by kernel_rfl
noncomputable def FI136 : FI := fiOfFn Tryz.f136
noncomputable def body136 : Code := (fiOfFn Tryz.f136).body
theorem fn136 : E.fn 136 = some FI136 := by kernel_rfl
theorem bd136 : FI136.body = body136 := rfl
theorem rs136 : FI136.results = [.tmp 1] := by kernel_rfl
theorem nt136 : FI136.nt = 6 := by kernel_rfl
noncomputable def FI137 : FI := fiOfFn Tryz.f137
noncomputable def body137 : Code := (fiOfFn Tryz.f137).body
theorem fn137 : E.fn 137 = some FI137 := by kernel_rfl
theorem bd137 : FI137.body = body137 := rfl
theorem rs137 : FI137.results = [.tmp 2] := by kernel_rfl
theorem nt137 : FI137.nt = 5 := by kernel_rfl
noncomputable def FI138 : FI := fiOfFn Tryz.f138
noncomputable def body138 : Code := (fiOfFn Tryz.f138).body
theorem fn138 : E.fn 138 = some FI138 := by kernel_rfl
theorem bd138 : FI138.body = body138 := rfl
theorem rs138 : FI138.results = [.tmp 4] := by kernel_rfl
theorem nt138 : FI138.nt = 143 := by kernel_rfl
noncomputable def FI139 : FI := fiOfFn Tryz.f139
noncomputable def body139 : Code := (fiOfFn Tryz.f139).body
theorem fn139 : E.fn 139 = some FI139 := by kernel_rfl
theorem bd139 : FI139.body = body139 := rfl
theorem rs139 : FI139.results = [.tmp 8] := by kernel_rfl
theorem nt139 : FI139.nt = 66 := by kernel_rfl
noncomputable def FI140 : FI := fiOfFn Tryz.f140
noncomputable def body140 : Code := (fiOfFn Tryz.f140).body
theorem fn140 : E.fn 140 = some FI140 := by kernel_rfl
theorem bd140 : FI140.body = body140 := rfl
theorem rs140 : FI140.results = [.tmp 4] := by kernel_rfl
theorem nt140 : FI140.nt = 19 := by kernel_rfl
noncomputable def FI141 : FI := fiOfFn Tryz.f141
noncomputable def body141 : Code := (fiOfFn Tryz.f141).body
theorem fn141 : E.fn 141 = some FI141 := by kernel_rfl
theorem bd141 : FI141.body = body141 := rfl
theorem rs141 : FI141.results = [] := by kernel_rfl
theorem nt141 : FI141.nt = 36 := by kernel_rfl
noncomputable def FI142 : FI := fiOfFn Tryz.f142
noncomputable def body142 : Code := (fiOfFn Tryz.f142).body
theorem fn142 : E.fn 142 = some FI142 := by kernel_rfl
theorem bd142 : FI142.body = body142 := rfl
theorem rs142 : FI142.results = [.tmp 4] := by kernel_rfl
theorem nt142 : FI142.nt = 18 := by kernel_rfl
noncomputable def FI143 : FI := fiOfFn Tryz.f143
noncomputable def body143 : Code := (fiOfFn Tryz.f143).body
theorem fn143 : E.fn 143 = some FI143 := by kernel_rfl
theorem bd143 : FI143.body = body143 := rfl
theorem rs143 : FI143.results = [.tmp 6, .tmp 7] := by kernel_rfl
theorem nt143 : FI143.nt = 26 := by kernel_rfl
noncomputable def FI144 : FI := fiOfFn Tryz.f144
noncomputable def body144 : Code := (fiOfFn Tryz.f144).body
theorem fn144 : E.fn 144 = some FI144 := by kernel_rfl
theorem bd144 : FI144.body = body144 := rfl
theorem rs144 : FI144.results = [.tmp 4] := by kernel_rfl
theorem nt144 : FI144.nt = 27 := by kernel_rfl
noncomputable def FI145 : FI := fiOfFn Tryz.f145
noncomputable def body145 : Code := (fiOfFn Tryz.f145).body
theorem fn145 : E.fn 145 = some FI145 := by kernel_rfl
theorem bd145 : FI145.body = body145 := rfl
theorem rs145 : FI145.results = [.tmp 4] := by kernel_rfl
theorem nt145 : FI145.nt = 19 := by kernel_rfl
noncomputable def FI146 : FI := fiOfFn Tryz.f146
noncomputable def body146 : Code := (fiOfFn Tryz.f146).body
theorem fn146 : E.fn 146 = some FI146 := by kernel_rfl
theorem bd146 : FI146.body = body146 := rfl
theorem rs146 : FI146.results = [.tmp 3] := by kernel_rfl
theorem nt146 : FI146.nt = 18 := by kernel_rfl
noncomputable def FI147 : FI := fiOfFn Tryz.f147
noncomputable def body147 : Code := (fiOfFn Tryz.f147).body
theorem fn147 : E.fn 147 = some FI147 := by kernel_rfl
theorem bd147 : FI147.body = body147 := rfl
theorem rs147 : FI147.results = [] := by kernel_rfl
theorem nt147 : FI147.nt = 11 := by kernel_rfl
noncomputable def FI148 : FI := fiOfFn Tryz.f148
noncomputable def body148 : Code := (fiOfFn Tryz.f148).body
theorem fn148 : E.fn 148 = some FI148 := by kernel_rfl
theorem bd148 : FI148.body = body148 := rfl
theorem rs148 : FI148.results = [.tmp 2] := by kernel_rfl
theorem nt148 : FI148.nt = 61 := by kernel_rfl
noncomputable def FI149 : FI := fiOfFn Tryz.f149
noncomputable def body149 : Code := (fiOfFn Tryz.f149).body
theorem fn149 : E.fn 149 = some FI149 := by kernel_rfl
theorem bd149 : FI149.body = body149 := rfl
theorem rs149 : FI149.results = [] := by kernel_rfl
theorem nt149 : FI149.nt = 14 := by kernel_rfl
noncomputable def FI150 : FI := fiOfFn Tryz.f150
noncomputable def body150 : Code := (fiOfFn Tryz.f150).body
theorem fn150 : E.fn 150 = some FI150 := by kernel_rfl
theorem bd150 : FI150.body = body150 := rfl
theorem rs150 : FI150.results = [.tmp 6] := by kernel_rfl
theorem nt150 : FI150.nt = 74 := by kernel_rfl
noncomputable def FI151 : FI := fiOfFn Tryz.f151
noncomputable def body151 : Code := (fiOfFn Tryz.f151).body
theorem fn151 : E.fn 151 = some FI151 := by kernel_rfl
theorem bd151 : FI151.body = body151 := rfl
theorem rs151 : FI151.results = [.tmp 2] := by kernel_rfl
theorem nt151 : FI151.nt = 11 := by kernel_rfl
noncomputable def FI152 : FI := fiOfFn Tryz.f152
noncomputable def body152 : Code := (fiOfFn Tryz.f152).body
theorem fn152 : E.fn 152 = some FI152 := by kernel_rfl
theorem bd152 : FI152.body = body152 := rfl
theorem rs152 : FI152.results = [.tmp 2] := by kernel_rfl
theorem nt152 : FI152.nt = 16 := by kernel_rfl
noncomputable def FI153 : FI := fiOfFn Tryz.f153
noncomputable def body153 : Code := (fiOfFn Tryz.f153).body
theorem fn153 : E.fn 153 = some FI153 := by kernel_rfl
theorem bd153 : FI153.body = body153 := rfl
theorem rs153 : FI153.results = [] := by kernel_rfl
theorem nt153 : FI153.nt = 11 := by kernel_rfl
noncomputable def FI154 : FI := fiOfFn Tryz.f154
noncomputable def body154 : Code := (fiOfFn Tryz.f154).body
theorem fn154 : E.fn 154 = some FI154 := by kernel_rfl
theorem bd154 : FI154.body = body154 := rfl
theorem rs154 : FI154.results = [.tmp 2] := by kernel_rfl
theorem nt154 : FI154.nt = 8 := by kernel_rfl
noncomputable def FI155 : FI := fiOfFn Tryz.f155
noncomputable def body155 : Code := (fiOfFn Tryz.f155).body
theorem fn155 : E.fn 155 = some FI155 := by kernel_rfl
theorem bd155 : FI155.body = body155 := rfl
theorem rs155 : FI155.results = [.tmp 6] := by kernel_rfl
theorem nt155 : FI155.nt = 60 := by kernel_rfl
noncomputable def FI156 : FI := fiOfFn Tryz.f156
noncomputable def body156 : Code := (fiOfFn Tryz.f156).body
theorem fn156 : E.fn 156 = some FI156 := by kernel_rfl
theorem bd156 : FI156.body = body156 := rfl
theorem rs156 : FI156.results = [] := by kernel_rfl
theorem nt156 : FI156.nt = 5 := by kernel_rfl
noncomputable def FI157 : FI := fiOfFn Tryz.f157
noncomputable def body157 : Code := (fiOfFn Tryz.f157).body
theorem fn157 : E.fn 157 = some FI157 := by kernel_rfl
theorem bd157 : FI157.body = body157 := rfl
theorem rs157 : FI157.results = [] := by kernel_rfl
theorem nt157 : FI157.nt = 51 := by kernel_rfl
noncomputable def FI158 : FI := fiOfFn Tryz.f158
noncomputable def body158 : Code := (fiOfFn Tryz.f158).body
theorem fn158 : E.fn 158 = some FI158 := by kernel_rfl
theorem bd158 : FI158.body = body158 := rfl
theorem rs158 : FI158.results = [.tmp 4] := by kernel_rfl
theorem nt158 : FI158.nt = 19 := by kernel_rfl
noncomputable def FI159 : FI := fiOfFn Tryz.f159
noncomputable def body159 : Code := (fiOfFn Tryz.f159).body
theorem fn159 : E.fn 159 = some FI159 := by kernel_rfl
theorem bd159 : FI159.body = body159 := rfl
theorem rs159 : FI159.results = [.tmp 4] := by kernel_rfl
theorem nt159 : FI159.nt = 18 := by kernel_rfl
noncomputable def FI160 : FI := fiOfFn Tryz.f160
noncomputable def body160 : Code := (fiOfFn Tryz.f160).body
theorem fn160 : E.fn 160 = some FI160 := by kernel_rfl
theorem bd160 : FI160.body = body160 := rfl
theorem rs160 : FI160.results = [.tmp 6] := by kernel_rfl
theorem nt160 : FI160.nt = 103 := by kernel_rfl
noncomputable def FI161 : FI := fiOfFn Tryz.f161
noncomputable def body161 : Code := (fiOfFn Tryz.f161).body
theorem fn161 : E.fn 161 = some FI161 := by kernel_rfl
theorem bd161 : FI161.body = body161 := rfl
theorem rs161 : FI161.results = [.tmp 2] := by kernel_rfl
theorem nt161 : FI161.nt = 36 := by kernel_rfl
noncomputable def FI162 : FI := fiOfFn Tryz.f162
noncomputable def body162 : Code := (fiOfFn Tryz.f162).body
theorem fn162 : E.fn 162 = some FI162 := by kernel_rfl
theorem bd162 : FI162.body = body162 := rfl
theorem rs162 : FI162.results = [] := by kernel_rfl
theorem nt162 : FI162.nt = 53 := by kernel_rfl
noncomputable def FI163 : FI := fiOfFn Tryz.f163
noncomputable def body163 : Code := (fiOfFn Tryz.f163).body
theorem fn163 : E.fn 163 = some FI163 := by kernel_rfl
theorem bd163 : FI163.body = body163 := rfl
theorem rs163 : FI163.results = [] := by kernel_rfl
theorem nt163 : FI163.nt = 60 := by kernel_rfl
noncomputable def FI164 : FI := fiOfFn Tryz.f164
noncomputable def body164 : Code := (fiOfFn Tryz.f164).body
theorem fn164 : E.fn 164 = some FI164 := by kernel_rfl
theorem bd164 : FI164.body = body164 := rfl
theorem rs164 : FI164.results = [] := by kernel_rfl
theorem nt164 : FI164.nt = 67 := by kernel_rfl
noncomputable def FI165 : FI := fiOfFn Tryz.f165
noncomputable def body165 : Code := (fiOfFn Tryz.f165).body
theorem fn165 : E.fn 165 = some FI165 := by kernel_rfl
theorem bd165 : FI165.body = body165 := rfl
theorem rs165 : FI165.results = [.tmp 8, .tmp 9] := by kernel_rfl
theorem nt165 : FI165.nt = 63 := by kernel_rfl
noncomputable def FI166 : FI := fiOfFn Tryz.f166
noncomputable def body166 : Code := (fiOfFn Tryz.f166).body
theorem fn166 : E.fn 166 = some FI166 := by kernel_rfl
theorem bd166 : FI166.body = body166 := rfl
theorem rs166 : FI166.results = [] := by kernel_rfl
theorem nt166 : FI166.nt = 34 := by kernel_rfl
noncomputable def FI167 : FI := fiOfFn Tryz.f167
noncomputable def body167 : Code := (fiOfFn Tryz.f167).body
theorem fn167 : E.fn 167 = some FI167 := by kernel_rfl
theorem bd167 : FI167.body = body167 := rfl
theorem rs167 : FI167.results = [.tmp 8] := by kernel_rfl
theorem nt167 : FI167.nt = 141 := by kernel_rfl
noncomputable def FI168 : FI := fiOfFn Tryz.f168
noncomputable def body168 : Code := (fiOfFn Tryz.f168).body
theorem fn168 : E.fn 168 = some FI168 := by kernel_rfl
theorem bd168 : FI168.body = body168 := rfl
theorem rs168 : FI168.results = [.tmp 10] := by kernel_rfl
theorem nt168 : FI168.nt = 90 := by kernel_rfl
noncomputable def FI169 : FI := fiOfFn Tryz.f169
noncomputable def body169 : Code := (fiOfFn Tryz.f169).body
theorem fn169 : E.fn 169 = some FI169 := by kernel_rfl
theorem bd169 : FI169.body = body169 := rfl
theorem rs169 : FI169.results = [.tmp 10, .tmp 11] := by kernel_rfl
theorem nt169 : FI169.nt = 178 := by kernel_rfl
noncomputable def FI170 : FI := fiOfFn Tryz.f170
noncomputable def body170 : Code := (fiOfFn Tryz.f170).body
theorem fn170 : E.fn 170 = some FI170 := by kernel_rfl
theorem bd170 : FI170.body = body170 := rfl
theorem rs170 : FI170.results = [.tmp 2] := by kernel_rfl
theorem nt170 : FI170.nt = 19 := by kernel_rfl
noncomputable def FI171 : FI := fiOfFn Tryz.f171
noncomputable def body171 : Code := (fiOfFn Tryz.f171).body
theorem fn171 : E.fn 171 = some FI171 := by kernel_rfl
theorem bd171 : FI171.body = body171 := rfl
theorem rs171 : FI171.results = [.tmp 2] := by kernel_rfl
theorem nt171 : FI171.nt = 25 := by kernel_rfl
noncomputable def FI172 : FI := fiOfFn Tryz.f172
noncomputable def body172 : Code := (fiOfFn Tryz.f172).body
theorem fn172 : E.fn 172 = some FI172 := by kernel_rfl
theorem bd172 : FI172.body = body172 := rfl
theorem rs172 : FI172.results = [.tmp 4] := by kernel_rfl
theorem nt172 : FI172.nt = 20 := by kernel_rfl
noncomputable def FI173 : FI := fiOfFn Tryz.f173
noncomputable def body173 : Code := (fiOfFn Tryz.f173).body
theorem fn173 : E.fn 173 = some FI173 := by kernel_rfl
theorem bd173 : FI173.body = body173 := rfl
theorem rs173 : FI173.results = [.tmp 2] := by kernel_rfl
theorem nt173 : FI173.nt = 24 := by kernel_rfl
noncomputable def FI174 : FI := fiOfFn Tryz.f174
noncomputable def body174 : Code := (fiOfFn Tryz.f174).body
theorem fn174 : E.fn 174 = some FI174 := by kernel_rfl
theorem bd174 : FI174.body = body174 := rfl
theorem rs174 : FI174.results = [.tmp 2] := by kernel_rfl
theorem nt174 : FI174.nt = 26 := by kernel_rfl
noncomputable def FI175 : FI := fiOfFn Tryz.f175
noncomputable def body175 : Code := (fiOfFn Tryz.f175).body
theorem fn175 : E.fn 175 = some FI175 := by kernel_rfl
theorem bd175 : FI175.body = body175 := rfl
theorem rs175 : FI175.results = [.tmp 8] := by kernel_rfl
theorem nt175 : FI175.nt = 93 := by kernel_rfl
noncomputable def FI176 : FI := fiOfFn Tryz.f176
noncomputable def body176 : Code := (fiOfFn Tryz.f176).body
theorem fn176 : E.fn 176 = some FI176 := by kernel_rfl
theorem bd176 : FI176.body = body176 := rfl
theorem rs176 : FI176.results = [.tmp 2] := by kernel_rfl
theorem nt176 : FI176.nt = 84 := by kernel_rfl
noncomputable def FI177 : FI := fiOfFn Tryz.f177
noncomputable def body177 : Code := (fiOfFn Tryz.f177).body
theorem fn177 : E.fn 177 = some FI177 := by kernel_rfl
theorem bd177 : FI177.body = body177 := rfl
theorem rs177 : FI177.results = [.tmp 4] := by kernel_rfl
theorem nt177 : FI177.nt = 67 := by kernel_rfl
noncomputable def FI178 : FI := fiOfFn Tryz.f178
noncomputable def body178 : Code := (fiOfFn Tryz.f178).body
theorem fn178 : E.fn 178 = some FI178 := by kernel_rfl
theorem bd178 : FI178.body = body178 := rfl
theorem rs178 : FI178.results = [.tmp 2] := by kernel_rfl
theorem nt178 : FI178.nt = 8 := by kernel_rfl
noncomputable def FI179 : FI := fiOfFn Tryz.f179
noncomputable def body179 : Code := (fiOfFn Tryz.f179).body
theorem fn179 : E.fn 179 = some FI179 := by kernel_rfl
theorem bd179 : FI179.body = body179 := rfl
theorem rs179 : FI179.results = [.tmp 2] := by kernel_rfl
theorem nt179 : FI179.nt = 8 := by kernel_rfl
noncomputable def FI180 : FI := fiOfFn Tryz.f180
noncomputable def body180 : Code := (fiOfFn Tryz.f180).body
theorem fn180 : E.fn 180 = some FI180 := by kernel_rfl
theorem bd180 : FI180.body = body180 := rfl
theorem rs180 : FI180.results = [.tmp 2] := by kernel_rfl
theorem nt180 : FI180.nt = 8 := by kernel_rfl
noncomputable def FI181 : FI := fiOfFn Tryz.f181
noncomputable def body181 : Code := (fiOfFn Tryz.f181).body
theorem fn181 : E.fn 181 = some FI181 := by kernel_rfl
theorem bd181 : FI181.body = body181 := rfl
theorem rs181 : FI181.results = [.tmp 2] := by kernel_rfl
theorem nt181 : FI181.nt = 8 := by kernel_rfl
noncomputable def FI182 : FI := fiOfFn Tryz.f182
noncomputable def body182 : Code := (fiOfFn Tryz.f182).body
theorem fn182 : E.fn 182 = some FI182 := by kernel_rfl
theorem bd182 : FI182.body = body182 := rfl
theorem rs182 : FI182.results = [.tmp 4] := by kernel_rfl
theorem nt182 : FI182.nt = 52 := by kernel_rfl
noncomputable def FI183 : FI := fiOfFn Tryz.f183
noncomputable def body183 : Code := (fiOfFn Tryz.f183).body
theorem fn183 : E.fn 183 = some FI183 := by kernel_rfl
theorem bd183 : FI183.body = body183 := rfl
theorem rs183 : FI183.results = [.tmp 2] := by kernel_rfl
theorem nt183 : FI183.nt = 36 := by kernel_rfl
noncomputable def FI184 : FI := fiOfFn Tryz.f184
noncomputable def body184 : Code := (fiOfFn Tryz.f184).body
theorem fn184 : E.fn 184 = some FI184 := by kernel_rfl
theorem bd184 : FI184.body = body184 := rfl
theorem rs184 : FI184.results = [.tmp 2] := by kernel_rfl
theorem nt184 : FI184.nt = 62 := by kernel_rfl
noncomputable def FI185 : FI := fiOfFn Tryz.f185
noncomputable def body185 : Code := (fiOfFn Tryz.f185).body
theorem fn185 : E.fn 185 = some FI185 := by kernel_rfl
theorem bd185 : FI185.body = body185 := rfl
theorem rs185 : FI185.results = [.tmp 4, .tmp 5] := by kernel_rfl
theorem nt185 : FI185.nt = 21 := by kernel_rfl
noncomputable def FI186 : FI := fiOfFn Tryz.f186
noncomputable def body186 : Code := (fiOfFn Tryz.f186).body
theorem fn186 : E.fn 186 = some FI186 := by kernel_rfl
theorem bd186 : FI186.body = body186 := rfl
theorem rs186 : FI186.results = [.tmp 4] := by kernel_rfl
theorem nt186 : FI186.nt = 19 := by kernel_rfl
noncomputable def FI188 : FI := fiOfFn Tryz.f188
noncomputable def body188 : Code := (fiOfFn Tryz.f188).body
theorem fn188 : E.fn 188 = some FI188 := by kernel_rfl
theorem bd188 : FI188.body = body188 := rfl
theorem rs188 : FI188.results = [.tmp 4] := by kernel_rfl
theorem nt188 : FI188.nt = 32 := by kernel_rfl
noncomputable def FI189 : FI := fiOfFn Tryz.f189
noncomputable def body189 : Code := (fiOfFn Tryz.f189).body
theorem fn189 : E.fn 189 = some FI189 := by kernel_rfl
theorem bd189 : FI189.body = body189 := rfl
theorem rs189 : FI189.results = [.tmp 2] := by kernel_rfl
theorem nt189 : FI189.nt = 5 := by kernel_rfl
noncomputable def FI190 : FI := fiOfFn Tryz.f190
noncomputable def body190 : Code := (fiOfFn Tryz.f190).body
theorem fn190 : E.fn 190 = some FI190 := by kernel_rfl
theorem bd190 : FI190.body = body190 := rfl
theorem rs190 : FI190.results = [.tmp 4] := by kernel_rfl
theorem nt190 : FI190.nt = 8 := by kernel_rfl
noncomputable def FI192 : FI := fiOfFn Tryz.f192
noncomputable def body192 : Code := (fiOfFn Tryz.f192).body
theorem fn192 : E.fn 192 = some FI192 := by kernel_rfl
theorem bd192 : FI192.body = body192 := rfl
theorem rs192 : FI192.results = [.tmp 2] := by kernel_rfl
theorem nt192 : FI192.nt = 6 := by kernel_rfl
noncomputable def FI193 : FI := fiOfFn Tryz.f193
noncomputable def body193 : Code := (fiOfFn Tryz.f193).body
theorem fn193 : E.fn 193 = some FI193 := by kernel_rfl
theorem bd193 : FI193.body = body193 := rfl
theorem rs193 : FI193.results = [.tmp 4] := by kernel_rfl
theorem nt193 : FI193.nt = 81 := by kernel_rfl
noncomputable def FI194 : FI := fiOfFn Tryz.f194
noncomputable def body194 : Code := (fiOfFn Tryz.f194).body
theorem fn194 : E.fn 194 = some FI194 := by kernel_rfl
theorem bd194 : FI194.body = body194 := rfl
theorem rs194 : FI194.results = [.tmp 4] := by kernel_rfl
theorem nt194 : FI194.nt = 50 := by kernel_rfl
noncomputable def FI195 : FI := fiOfFn Tryz.f195
noncomputable def body195 : Code := (fiOfFn Tryz.f195).body
theorem fn195 : E.fn 195 = some FI195 := by kernel_rfl
theorem bd195 : FI195.body = body195 := rfl
theorem rs195 : FI195.results = [.tmp 4] := by kernel_rfl
theorem nt195 : FI195.nt = 34 := by kernel_rfl
noncomputable def FI196 : FI := fiOfFn Tryz.f196
noncomputable def body196 : Code := (fiOfFn Tryz.f196).body
theorem fn196 : E.fn 196 = some FI196 := by kernel_rfl
theorem bd196 : FI196.body = body196 := rfl
theorem rs196 : FI196.results = [.tmp 4] := by kernel_rfl
theorem nt196 : FI196.nt = 8 := by kernel_rfl
noncomputable def FI197 : FI := fiOfFn Tryz.f197
noncomputable def body197 : Code := (fiOfFn Tryz.f197).body
theorem fn197 : E.fn 197 = some FI197 := by kernel_rfl
theorem bd197 : FI197.body = body197 := rfl
theorem rs197 : FI197.results = [.tmp 6, .tmp 7] := by kernel_rfl
theorem nt197 : FI197.nt = 172 := by kernel_rfl
noncomputable def FI198 : FI := fiOfFn Tryz.f198
noncomputable def body198 : Code := (fiOfFn Tryz.f198).body
theorem fn198 : E.fn 198 = some FI198 := by kernel_rfl
theorem bd198 : FI198.body = body198 := rfl
theorem rs198 : FI198.results = [.tmp 10] := by kernel_rfl
theorem nt198 : FI198.nt = 43 := by kernel_rfl
noncomputable def FI199 : FI := fiOfFn Tryz.f199
noncomputable def body199 : Code := (fiOfFn Tryz.f199).body
theorem fn199 : E.fn 199 = some FI199 := by kernel_rfl
theorem bd199 : FI199.body = body199 := rfl
theorem rs199 : FI199.results = [] := by kernel_rfl
theorem nt199 : FI199.nt = 134 := by kernel_rfl
noncomputable def FI200 : FI := fiOfFn Tryz.f200
noncomputable def body200 : Code := (fiOfFn Tryz.f200).body
theorem fn200 : E.fn 200 = some FI200 := by kernel_rfl
theorem bd200 : FI200.body = body200 := rfl
theorem rs200 : FI200.results = [.tmp 4] := by kernel_rfl
theorem nt200 : FI200.nt = 27 := by kernel_rfl
noncomputable def FI201 : FI := fiOfFn Tryz.f201
noncomputable def body201 : Code := (fiOfFn Tryz.f201).body
theorem fn201 : E.fn 201 = some FI201 := by kernel_rfl
theorem bd201 : FI201.body = body201 := rfl
theorem rs201 : FI201.results = [] := by kernel_rfl
theorem nt201 : FI201.nt = 82 := by kernel_rfl
noncomputable def FI202 : FI := fiOfFn Tryz.f202
noncomputable def body202 : Code := (fiOfFn Tryz.f202).body
theorem fn202 : E.fn 202 = some FI202 := by kernel_rfl
theorem bd202 : FI202.body = body202 := rfl
theorem rs202 : FI202.results = [.tmp 2] := by kernel_rfl
theorem nt202 : FI202.nt = 7 := by kernel_rfl
noncomputable def FI203 : FI := fiOfFn Tryz.f203
noncomputable def body203 : Code := (fiOfFn Tryz.f203).body
theorem fn203 : E.fn 203 = some FI203 := by kernel_rfl
theorem bd203 : FI203.body = body203 := rfl
theorem rs203 : FI203.results = [.tmp 2] := by kernel_rfl
theorem nt203 : FI203.nt = 33 := by kernel_rfl
noncomputable def FI204 : FI := fiOfFn Tryz.f204
noncomputable def body204 : Code := (fiOfFn Tryz.f204).body
theorem fn204 : E.fn 204 = some FI204 := by kernel_rfl
theorem bd204 : FI204.body = body204 := rfl
theorem rs204 : FI204.results = [.tmp 8] := by kernel_rfl
theorem nt204 : FI204.nt = 18 := by kernel_rfl
noncomputable def FI205 : FI := fiOfFn Tryz.f205
noncomputable def body205 : Code := (fiOfFn Tryz.f205).body
theorem fn205 : E.fn 205 = some FI205 := by kernel_rfl
theorem bd205 : FI205.body = body205 := rfl
theorem rs205 : FI205.results = [.tmp 12] := by kernel_rfl
theorem nt205 : FI205.nt = 41 := by kernel_rfl
noncomputable def FI206 : FI := fiOfFn Tryz.f206
noncomputable def body206 : Code := (fiOfFn Tryz.f206).body
theorem fn206 : E.fn 206 = some FI206 := by kernel_rfl
theorem bd206 : FI206.body = body206 := rfl
theorem rs206 : FI206.results = [.tmp 2] := by kernel_rfl
theorem nt206 : FI206.nt = 6 := by kernel_rfl
noncomputable def FI207 : FI := fiOfFn Tryz.f207
noncomputable def body207 : Code := (fiOfFn Tryz.f207).body
theorem fn207 : E.fn 207 = some FI207 := by kernel_rfl
theorem bd207 : FI207.body = body207 := rfl
theorem rs207 : FI207.results = [.tmp 2] := by kernel_rfl
theorem nt207 : FI207.nt = 9 := by kernel_rfl
noncomputable def FI208 : FI := fiOfFn Tryz.f208
noncomputable def body208 : Code := (fiOfFn Tryz.f208).body
theorem fn208 : E.fn 208 = some FI208 := by kernel_rfl
theorem bd208 : FI208.body = body208 := rfl
theorem rs208 : FI208.results = [.tmp 2] := by kernel_rfl
theorem nt208 : FI208.nt = 4 := by kernel_rfl
noncomputable def FI209 : FI := fiOfFn Tryz.f209
noncomputable def body209 : Code := (fiOfFn Tryz.f209).body
theorem fn209 : E.fn 209 = some FI209 := by kernel_rfl
theorem bd209 : FI209.body = body209 := rfl
theorem rs209 : FI209.results = [.tmp 2] := by kernel_rfl
theorem nt209 : FI209.nt = 142 := by kernel_rfl
noncomputable def FI210 : FI := fiOfFn Tryz.f210
noncomputable def body210 : Code := (fiOfFn Tryz.f210).body
theorem fn210 : E.fn 210 = some FI210 := by kernel_rfl
theorem bd210 : FI210.body = body210 := rfl
theorem rs210 : FI210.results = [.tmp 6] := by kernel_rfl
theorem nt210 : FI210.nt = 61 := by kernel_rfl
noncomputable def FI211 : FI := fiOfFn Tryz.f211
noncomputable def body211 : Code := (fiOfFn Tryz.f211).body
theorem fn211 : E.fn 211 = some FI211 := by kernel_rfl
theorem bd211 : FI211.body = body211 := rfl
theorem rs211 : FI211.results = [.tmp 2] := by kernel_rfl
theorem nt211 : FI211.nt = 9 := by kernel_rfl
noncomputable def FI212 : FI := fiOfFn Tryz.f212
noncomputable def body212 : Code := (fiOfFn Tryz.f212).body
theorem fn212 : E.fn 212 = some FI212 := by kernel_rfl
theorem bd212 : FI212.body = body212 := rfl
theorem rs212 : FI212.results = [.tmp 2] := by kernel_rfl
theorem nt212 : FI212.nt = 4 := by kernel_rfl
noncomputable def FI213 : FI := fiOfFn Tryz.f213
noncomputable def body213 : Code := (fiOfFn Tryz.f213).body
theorem fn213 : E.fn 213 = some FI213 := by kernel_rfl
theorem bd213 : FI213.body = body213 := rfl
theorem rs213 : FI213.results = [.tmp 2] := by kernel_rfl
theorem nt213 : FI213.nt = 5 := by kernel_rfl
noncomputable def FI214 : FI := fiOfFn Tryz.f214
noncomputable def body214 : Code := (fiOfFn Tryz.f214).body
theorem fn214 : E.fn 214 = some FI214 := by kernel_rfl
theorem bd214 : FI214.body = body214 := rfl
theorem rs214 : FI214.results = [] := by kernel_rfl
theorem nt214 : FI214.nt = 24 := by kernel_rfl
noncomputable def FI215 : FI := fiOfFn Tryz.f215
noncomputable def body215 : Code := (fiOfFn Tryz.f215).body
theorem fn215 : E.fn 215 = some FI215 := by kernel_rfl
theorem bd215 : FI215.body = body215 := rfl
theorem rs215 : FI215.results = [] := by kernel_rfl
theorem nt215 : FI215.nt = 41 := by kernel_rfl
noncomputable def FI216 : FI := fiOfFn Tryz.f216
noncomputable def body216 : Code := (fiOfFn Tryz.f216).body
theorem fn216 : E.fn 216 = some FI216 := by kernel_rfl
theorem bd216 : FI216.body = body216 := rfl
theorem rs216 : FI216.results = [] := by kernel_rfl
theorem nt216 : FI216.nt = 45 := by kernel_rfl
noncomputable def FI217 : FI := fiOfFn Tryz.f217
noncomputable def body217 : Code := (fiOfFn Tryz.f217).body
theorem fn217 : E.fn 217 = some FI217 := by kernel_rfl
theorem bd217 : FI217.body = body217 := rfl
theorem rs217 : FI217.results = [] := by kernel_rfl
theorem nt217 : FI217.nt = 51 := by kernel_rfl
noncomputable def FI218 : FI := fiOfFn Tryz.f218
noncomputable def body218 : Code := (fiOfFn Tryz.f218).body
theorem fn218 : E.fn 218 = some FI218 := by kernel_rfl
theorem bd218 : FI218.body = body218 := rfl
theorem rs218 : FI218.results = [.tmp 4] := by kernel_rfl
theorem nt218 : FI218.nt = 9 := by kernel_rfl
noncomputable def FI219 : FI := fiOfFn Tryz.f219
noncomputable def body219 : Code := (fiOfFn Tryz.f219).body
theorem fn219 : E.fn 219 = some FI219 := by kernel_rfl
theorem bd219 : FI219.body = body219 := rfl
theorem rs219 : FI219.results = [.tmp 3] := by kernel_rfl
theorem nt219 : FI219.nt = 24 := by kernel_rfl
noncomputable def FI220 : FI := fiOfFn Tryz.f220
noncomputable def body220 : Code := (fiOfFn Tryz.f220).body
theorem fn220 : E.fn 220 = some FI220 := by kernel_rfl
theorem bd220 : FI220.body = body220 := rfl
theorem rs220 : FI220.results = [.tmp 5] := by kernel_rfl
theorem nt220 : FI220.nt = 33 := by kernel_rfl
noncomputable def FI221 : FI := fiOfFn Tryz.f221
noncomputable def body221 : Code := (fiOfFn Tryz.f221).body
theorem fn221 : E.fn 221 = some FI221 := by kernel_rfl
theorem bd221 : FI221.body = body221 := rfl
theorem rs221 : FI221.results = [.tmp 4] := by kernel_rfl
theorem nt221 : FI221.nt = 27 := by kernel_rfl
noncomputable def FI222 : FI := fiOfFn Tryz.f222
noncomputable def body222 : Code := (fiOfFn Tryz.f222).body
theorem fn222 : E.fn 222 = some FI222 := by kernel_rfl
theorem bd222 : FI222.body = body222 := rfl
theorem rs222 : FI222.results = [] := by kernel_rfl
theorem nt222 : FI222.nt = 18 := by kernel_rfl
noncomputable def FI223 : FI := fiOfFn Tryz.f223
noncomputable def body223 : Code := (fiOfFn Tryz.f223).body
theorem fn223 : E.fn 223 = some FI223 := by kernel_rfl
theorem bd223 : FI223.body = body223 := rfl
theorem rs223 : FI223.results = [.tmp 2, .tmp 3] := by kernel_rfl
theorem nt223 : FI223.nt = 45 := by kernel_rfl
noncomputable def FI224 : FI := fiOfFn Tryz.f224
noncomputable def body224 : Code := (fiOfFn Tryz.f224).body
theorem fn224 : E.fn 224 = some FI224 := by kernel_rfl
theorem bd224 : FI224.body = body224 := rfl
theorem rs224 : FI224.results = [.tmp 4] := by kernel_rfl
theorem nt224 : FI224.nt = 12 := by kernel_rfl
noncomputable def FI225 : FI := fiOfFn Tryz.f225
noncomputable def body225 : Code := (fiOfFn Tryz.f225).body
theorem fn225 : E.fn 225 = some FI225 := by kernel_rfl
theorem bd225 : FI225.body = body225 := rfl
theorem rs225 : FI225.results = [.tmp 2] := by kernel_rfl
theorem nt225 : FI225.nt = 4 := by kernel_rfl
noncomputable def FI226 : FI := fiOfFn Tryz.f226
noncomputable def body226 : Code := (fiOfFn Tryz.f226).body
theorem fn226 : E.fn 226 = some FI226 := by kernel_rfl
theorem bd226 : FI226.body = body226 := rfl
theorem rs226 : FI226.results = [.tmp 4] := by kernel_rfl
theorem nt226 : FI226.nt = 20 := by kernel_rfl
noncomputable def FI227 : FI := fiOfFn Tryz.f227
noncomputable def body227 : Code := (fiOfFn Tryz.f227).body
theorem fn227 : E.fn 227 = some FI227 := by kernel_rfl
theorem bd227 : FI227.body = body227 := rfl
theorem rs227 : FI227.results = [.tmp 4, .tmp 5] := by kernel_rfl
theorem nt227 : FI227.nt = 32 := by kernel_rfl
noncomputable def FI228 : FI := fiOfFn Tryz.f228
noncomputable def body228 : Code := (fiOfFn Tryz.f228).body
theorem fn228 : E.fn 228 = some FI228 := by kernel_rfl
theorem bd228 : FI228.body = body228 := rfl
theorem rs228 : FI228.results = [.tmp 2] := by kernel_rfl
theorem nt228 : FI228.nt = 15 := by kernel_rfl
noncomputable def FI229 : FI := fiOfFn Tryz.f229
noncomputable def body229 : Code := (fiOfFn Tryz.f229).body
theorem fn229 : E.fn 229 = some FI229 := by kernel_rfl
theorem bd229 : FI229.body = body229 := rfl
theorem rs229 : FI229.results = [.tmp 2] := by kernel_rfl
theorem nt229 : FI229.nt = 15 := by kernel_rfl
noncomputable def FI230 : FI := fiOfFn Tryz.f230
noncomputable def body230 : Code := (fiOfFn Tryz.f230).body
theorem fn230 : E.fn 230 = some FI230 := by kernel_rfl
theorem bd230 : FI230.body = body230 := rfl
theorem rs230 : FI230.results = [] := by kernel_rfl
theorem nt230 : FI230.nt = 167 := by kernel_rfl
noncomputable def FI231 : FI := fiOfFn Tryz.f231
noncomputable def body231 : Code := (fiOfFn Tryz.f231).body
theorem fn231 : E.fn 231 = some FI231 := by kernel_rfl
theorem bd231 : FI231.body = body231 := rfl
theorem rs231 : FI231.results = [.tmp 10, .tmp 11] := by kernel_rfl
theorem nt231 : FI231.nt = 102 := by kernel_rfl
noncomputable def FI232 : FI := fiOfFn Tryz.f232
noncomputable def body232 : Code := (fiOfFn Tryz.f232).body
theorem fn232 : E.fn 232 = some FI232 := by kernel_rfl
theorem bd232 : FI232.body = body232 := rfl
theorem rs232 : FI232.results = [.tmp 4] := by kernel_rfl
theorem nt232 : FI232.nt = 54 := by kernel_rfl
noncomputable def FI234 : FI := fiOfFn Tryz.f234
noncomputable def body234 : Code := (fiOfFn Tryz.f234).body
theorem fn234 : E.fn 234 = some FI234 := by kernel_rfl
theorem bd234 : FI234.body = body234 := rfl
theorem rs234 : FI234.results = [.tmp 2, .tmp 3] := by kernel_rfl
theorem nt234 : FI234.nt = 39 := by kernel_rfl
noncomputable def FI235 : FI := fiOfFn Tryz.f235
noncomputable def body235 : Code := (fiOfFn Tryz.f235).body
theorem fn235 : E.fn 235 = some FI235 := by kernel_rfl
theorem bd235 : FI235.body = body235 := rfl
theorem rs235 : FI235.results = [.tmp 2] := by kernel_rfl
theorem nt235 : FI235.nt = 10 := by kernel_rfl
noncomputable def FI236 : FI := fiOfFn Tryz.f236
noncomputable def body236 : Code := (fiOfFn Tryz.f236).body
theorem fn236 : E.fn 236 = some FI236 := by kernel_rfl
theorem bd236 : FI236.body = body236 := rfl
theorem rs236 : FI236.results = [.tmp 2, .tmp 3] := by kernel_rfl
theorem nt236 : FI236.nt = 19 := by kernel_rfl
noncomputable def FI238 : FI := fiOfFn Tryz.f238
noncomputable def body238 : Code := (fiOfFn Tryz.f238).body
theorem fn238 : E.fn 238 = some FI238 := by kernel_rfl
theorem bd238 : FI238.body = body238 := rfl
theorem rs238 : FI238.results = [.tmp 2] := by kernel_rfl
theorem nt238 : FI238.nt = 5 := by kernel_rfl
noncomputable def FI239 : FI := fiOfFn Tryz.f239
noncomputable def body239 : Code := (fiOfFn Tryz.f239).body
theorem fn239 : E.fn 239 = some FI239 := by kernel_rfl
theorem bd239 : FI239.body = body239 := rfl
theorem rs239 : FI239.results = [.tmp 2] := by kernel_rfl
theorem nt239 : FI239.nt = 94 := by kernel_rfl
noncomputable def FI240 : FI := fiOfFn Tryz.f240
noncomputable def body240 : Code := (fiOfFn Tryz.f240).body
theorem fn240 : E.fn 240 = some FI240 := by kernel_rfl
theorem bd240 : FI240.body = body240 := rfl
theorem rs240 : FI240.results = [.tmp 4] := by kernel_rfl
theorem nt240 : FI240.nt = 11 := by kernel_rfl
noncomputable def FI241 : FI := fiOfFn Tryz.f241
noncomputable def body241 : Code := (fiOfFn Tryz.f241).body
theorem fn241 : E.fn 241 = some FI241 := by kernel_rfl
theorem bd241 : FI241.body = body241 := rfl
theorem rs241 : FI241.results = [.tmp 4] := by kernel_rfl
theorem nt241 : FI241.nt = 11 := by kernel_rfl
noncomputable def FI242 : FI := fiOfFn Tryz.f242
noncomputable def body242 : Code := (fiOfFn Tryz.f242).body
theorem fn242 : E.fn 242 = some FI242 := by kernel_rfl
theorem bd242 : FI242.body = body242 := rfl
theorem rs242 : FI242.results = [.tmp 6] := by kernel_rfl
theorem nt242 : FI242.nt = 16 := by kernel_rfl
noncomputable def FI243 : FI := fiOfFn Tryz.f243
noncomputable def body243 : Code := (fiOfFn Tryz.f243).body
theorem fn243 : E.fn 243 = some FI243 := by kernel_rfl
theorem bd243 : FI243.body = body243 := rfl
theorem rs243 : FI243.results = [.tmp 6] := by kernel_rfl
theorem nt243 : FI243.nt = 16 := by kernel_rfl
noncomputable def FI244 : FI := fiOfFn Tryz.f244
noncomputable def body244 : Code := (fiOfFn Tryz.f244).body
theorem fn244 : E.fn 244 = some FI244 := by kernel_rfl
theorem bd244 : FI244.body = body244 := rfl
theorem rs244 : FI244.results = [] := by kernel_rfl
theorem nt244 : FI244.nt = 49 := by kernel_rfl
noncomputable def FI245 : FI := fiOfFn Tryz.f245
noncomputable def body245 : Code := (fiOfFn Tryz.f245).body
theorem fn245 : E.fn 245 = some FI245 := by kernel_rfl
theorem bd245 : FI245.body = body245 := rfl
theorem rs245 : FI245.results = [] := by kernel_rfl
theorem nt245 : FI245.nt = 56 := by kernel_rfl
noncomputable def FI246 : FI := fiOfFn Tryz.f246
noncomputable def body246 : Code := (fiOfFn Tryz.f246).body
theorem fn246 : E.fn 246 = some FI246 := by kernel_rfl
theorem bd246 : FI246.body = body246 := rfl
theorem rs246 : FI246.results = [] := by kernel_rfl
theorem nt246 : FI246.nt = 65 := by kernel_rfl
noncomputable def FI247 : FI := fiOfFn Tryz.f247
noncomputable def body247 : Code := (fiOfFn Tryz.f247).body
theorem fn247 : E.fn 247 = some FI247 := by kernel_rfl
theorem bd247 : FI247.body = body247 := rfl
theorem rs247 : FI247.results = [.tmp 6, .tmp 7] := by kernel_rfl
theorem nt247 : FI247.nt = 57 := by kernel_rfl
noncomputable def FI248 : FI := fiOfFn Tryz.f248
noncomputable def body248 : Code := (fiOfFn Tryz.f248).body
theorem fn248 : E.fn 248 = some FI248 := by kernel_rfl
theorem bd248 : FI248.body = body248 := rfl
theorem rs248 : FI248.results = [] := by kernel_rfl
theorem nt248 : FI248.nt = 32 := by kernel_rfl
noncomputable def FI249 : FI := fiOfFn Tryz.f249
noncomputable def body249 : Code := (fiOfFn Tryz.f249).body
theorem fn249 : E.fn 249 = some FI249 := by kernel_rfl
theorem bd249 : FI249.body = body249 := rfl
theorem rs249 : FI249.results = [.tmp 6] := by kernel_rfl
theorem nt249 : FI249.nt = 133 := by kernel_rfl
noncomputable def FI250 : FI := fiOfFn Tryz.f250
noncomputable def body250 : Code := (fiOfFn Tryz.f250).body
theorem fn250 : E.fn 250 = some FI250 := by kernel_rfl
theorem bd250 : FI250.body = body250 := rfl
theorem rs250 : FI250.results = [.tmp 4] := by kernel_rfl
theorem nt250 : FI250.nt = 17 := by kernel_rfl
noncomputable def FI251 : FI := fiOfFn Tryz.f251
noncomputable def body251 : Code := (fiOfFn Tryz.f251).body
theorem fn251 : E.fn 251 = some FI251 := by kernel_rfl
theorem bd251 : FI251.body = body251 := rfl
theorem rs251 : FI251.results = [.tmp 8] := by kernel_rfl
theorem nt251 : FI251.nt = 84 := by kernel_rfl
noncomputable def FI252 : FI := fiOfFn Tryz.f252
noncomputable def body252 : Code := (fiOfFn Tryz.f252).body
theorem fn252 : E.fn 252 = some FI252 := by kernel_rfl
theorem bd252 : FI252.body = body252 := rfl
theorem rs252 : FI252.results = [.tmp 8, .tmp 9] := by kernel_rfl
theorem nt252 : FI252.nt = 168 := by kernel_rfl
noncomputable def FI253 : FI := fiOfFn Tryz.f253
noncomputable def body253 : Code := (fiOfFn Tryz.f253).body
theorem fn253 : E.fn 253 = some FI253 := by kernel_rfl
theorem bd253 : FI253.body = body253 := rfl
theorem rs253 : FI253.results = [.tmp 10, .tmp 11] := by kernel_rfl
theorem nt253 : FI253.nt = 32 := by kernel_rfl
noncomputable def FI254 : FI := fiOfFn Tryz.f254
noncomputable def body254 : Code := (fiOfFn Tryz.f254).body
theorem fn254 : E.fn 254 = some FI254 := by kernel_rfl
theorem bd254 : FI254.body = body254 := rfl
theorem rs254 : FI254.results = [.tmp 2] := by kernel_rfl
theorem nt254 : FI254.nt = 5 := by kernel_rfl
noncomputable def FI255 : FI := fiOfFn Tryz.f255
noncomputable def body255 : Code := (fiOfFn Tryz.f255).body
theorem fn255 : E.fn 255 = some FI255 := by kernel_rfl
theorem bd255 : FI255.body = body255 := rfl
theorem rs255 : FI255.results = [] := by kernel_rfl
theorem nt255 : FI255.nt = 11 := by kernel_rfl
noncomputable def FI256 : FI := fiOfFn Tryz.f256
noncomputable def body256 : Code := (fiOfFn Tryz.f256).body
theorem fn256 : E.fn 256 = some FI256 := by kernel_rfl
theorem bd256 : FI256.body = body256 := rfl
theorem rs256 : FI256.results = [] := by kernel_rfl
theorem nt256 : FI256.nt = 14 := by kernel_rfl
noncomputable def FI257 : FI := fiOfFn Tryz.f257
noncomputable def body257 : Code := (fiOfFn Tryz.f257).body
theorem fn257 : E.fn 257 = some FI257 := by kernel_rfl
theorem bd257 : FI257.body = body257 := rfl
theorem rs257 : FI257.results = [.tmp 2] := by kernel_rfl
theorem nt257 : FI257.nt = 5 := by kernel_rfl
noncomputable def FI258 : FI := fiOfFn Tryz.f258
noncomputable def body258 : Code := (fiOfFn Tryz.f258).body
theorem fn258 : E.fn 258 = some FI258 := by kernel_rfl
theorem bd258 : FI258.body = body258 := rfl
theorem rs258 : FI258.results = [] := by kernel_rfl
theorem nt258 : FI258.nt = 16 := by kernel_rfl
noncomputable def FI259 : FI := fiOfFn Tryz.f259
noncomputable def body259 : Code := (fiOfFn Tryz.f259).body
theorem fn259 : E.fn 259 = some FI259 := by kernel_rfl
theorem bd259 : FI259.body = body259 := rfl
theorem rs259 : FI259.results = [.tmp 4] := by kernel_rfl
theorem nt259 : FI259.nt = 20 := by kernel_rfl
noncomputable def FI260 : FI := fiOfFn Tryz.f260
noncomputable def body260 : Code := (fiOfFn Tryz.f260).body
theorem fn260 : E.fn 260 = some FI260 := by kernel_rfl
theorem bd260 : FI260.body = body260 := rfl
theorem rs260 : FI260.results = [.tmp 4] := by kernel_rfl
theorem nt260 : FI260.nt = 19 := by kernel_rfl
noncomputable def FI261 : FI := fiOfFn Tryz.f261
noncomputable def body261 : Code := (fiOfFn Tryz.f261).body
theorem fn261 : E.fn 261 = some FI261 := by kernel_rfl
theorem bd261 : FI261.body = body261 := rfl
theorem rs261 : FI261.results = [.tmp 6] := by kernel_rfl
theorem nt261 : FI261.nt = 37 := by kernel_rfl
noncomputable def FI262 : FI := fiOfFn Tryz.f262
noncomputable def body262 : Code := (fiOfFn Tryz.f262).body
theorem fn262 : E.fn 262 = some FI262 := by kernel_rfl
theorem bd262 : FI262.body = body262 := rfl
theorem rs262 : FI262.results = [.tmp 6] := by kernel_rfl
theorem nt262 : FI262.nt = 30 := by kernel_rfl
noncomputable def FI263 : FI := fiOfFn Tryz.f263
noncomputable def body263 : Code := (fiOfFn Tryz.f263).body
theorem fn263 : E.fn 263 = some FI263 := by kernel_rfl
theorem bd263 : FI263.body = body263 := rfl
theorem rs263 : FI263.results = [.tmp 2] := by kernel_rfl
theorem nt263 : FI263.nt = 5 := by kernel_rfl
noncomputable def FI264 : FI := fiOfFn Tryz.f264
noncomputable def body264 : Code := (fiOfFn Tryz.f264).body
theorem fn264 : E.fn 264 = some FI264 := by kernel_rfl
theorem bd264 : FI264.body = body264 := rfl
theorem rs264 : FI264.results = [] := by kernel_rfl
theorem nt264 : FI264.nt = 14 := by kernel_rfl
noncomputable def FI265 : FI := fiOfFn Tryz.f265
noncomputable def body265 : Code := (fiOfFn Tryz.f265).body
theorem fn265 : E.fn 265 = some FI265 := by kernel_rfl
theorem bd265 : FI265.body = body265 := rfl
theorem rs265 : FI265.results = [] := by kernel_rfl
theorem nt265 : FI265.nt = 14 := by kernel_rfl
noncomputable def FI266 : FI := fiOfFn Tryz.f266
noncomputable def body266 : Code := (fiOfFn Tryz.f266).body
theorem fn266 : E.fn 266 = some FI266 := by kernel_rfl
theorem bd266 : FI266.body = body266 := rfl
theorem rs266 : FI266.results = [.tmp 4, .tmp 5] := by kernel_rfl
theorem nt266 : FI266.nt = 60 := by kernel_rfl
noncomputable def FI267 : FI := fiOfFn Tryz.f267
noncomputable def body267 : Code := (fiOfFn Tryz.f267).body
theorem fn267 : E.fn 267 = some FI267 := by kernel_rfl
theorem bd267 : FI267.body = body267 := rfl
theorem rs267 : FI267.results = [.tmp 2] := by kernel_rfl
theorem nt267 : FI267.nt = 6 := by kernel_rfl
noncomputable def FI268 : FI := fiOfFn Tryz.f268
noncomputable def body268 : Code := (fiOfFn Tryz.f268).body
theorem fn268 : E.fn 268 = some FI268 := by kernel_rfl
theorem bd268 : FI268.body = body268 := rfl
theorem rs268 : FI268.results = [.tmp 2] := by kernel_rfl
theorem nt268 : FI268.nt = 4 := by kernel_rfl
noncomputable def FI269 : FI := fiOfFn Tryz.f269
noncomputable def body269 : Code := (fiOfFn Tryz.f269).body
theorem fn269 : E.fn 269 = some FI269 := by kernel_rfl
theorem bd269 : FI269.body = body269 := rfl
theorem rs269 : FI269.results = [.tmp 2] := by kernel_rfl
theorem nt269 : FI269.nt = 8 := by kernel_rfl
noncomputable def FI270 : FI := fiOfFn Tryz.f270
noncomputable def body270 : Code := (fiOfFn Tryz.f270).body
theorem fn270 : E.fn 270 = some FI270 := by kernel_rfl
theorem bd270 : FI270.body = body270 := rfl
theorem rs270 : FI270.results = [.tmp 2] := by kernel_rfl
theorem nt270 : FI270.nt = 8 := by kernel_rfl
noncomputable def FI271 : FI := fiOfFn Tryz.f271
noncomputable def body271 : Code := (fiOfFn Tryz.f271).body
theorem fn271 : E.fn 271 = some FI271 := by kernel_rfl
theorem bd271 : FI271.body = body271 := rfl
theorem rs271 : FI271.results = [.tmp 2, .tmp 3] := by kernel_rfl
theorem nt271 : FI271.nt = 117 := by kernel_rfl
noncomputable def FI272 : FI := fiOfFn Tryz.f272
noncomputable def body272 : Code := (fiOfFn Tryz.f272).body
theorem fn272 : E.fn 272 = some FI272 := by kernel_rfl
theorem bd272 : FI272.body = body272 := rfl
theorem rs272 : FI272.results = [.tmp 2] := by kernel_rfl
theorem nt272 : FI272.nt = 18 := by kernel_rfl
noncomputable def FI273 : FI := fiOfFn Tryz.f273
noncomputable def body273 : Code := (fiOfFn Tryz.f273).body
theorem fn273 : E.fn 273 = some FI273 := by kernel_rfl
theorem bd273 : FI273.body = body273 := rfl
theorem rs273 : FI273.results = [.tmp 2] := by kernel_rfl
theorem nt273 : FI273.nt = 7 := by kernel_rfl
noncomputable def FI274 : FI := fiOfFn Tryz.f274
noncomputable def body274 : Code := (fiOfFn Tryz.f274).body
theorem fn274 : E.fn 274 = some FI274 := by kernel_rfl
theorem bd274 : FI274.body = body274 := rfl
theorem rs274 : FI274.results = [] := by kernel_rfl
theorem nt274 : FI274.nt = 76 := by kernel_rfl
noncomputable def FI275 : FI := fiOfFn Tryz.f275
noncomputable def body275 : Code := (fiOfFn Tryz.f275).body
theorem fn275 : E.fn 275 = some FI275 := by kernel_rfl
theorem bd275 : FI275.body = body275 := rfl
theorem rs275 : FI275.results = [.tmp 6] := by kernel_rfl
theorem nt275 : FI275.nt = 15 := by kernel_rfl
noncomputable def FI276 : FI := fiOfFn Tryz.f276
noncomputable def body276 : Code := (fiOfFn Tryz.f276).body
theorem fn276 : E.fn 276 = some FI276 := by kernel_rfl
theorem bd276 : FI276.body = body276 := rfl
theorem rs276 : FI276.results = [.tmp 10] := by kernel_rfl
theorem nt276 : FI276.nt = 36 := by kernel_rfl
noncomputable def FI277 : FI := fiOfFn Tryz.f277
noncomputable def body277 : Code := (fiOfFn Tryz.f277).body
theorem fn277 : E.fn 277 = some FI277 := by kernel_rfl
theorem bd277 : FI277.body = body277 := rfl
theorem rs277 : FI277.results = [.tmp 2] := by kernel_rfl
theorem nt277 : FI277.nt = 6 := by kernel_rfl
noncomputable def FI278 : FI := fiOfFn Tryz.f278
noncomputable def body278 : Code := (fiOfFn Tryz.f278).body
theorem fn278 : E.fn 278 = some FI278 := by kernel_rfl
theorem bd278 : FI278.body = body278 := rfl
theorem rs278 : FI278.results = [.tmp 4] := by kernel_rfl
theorem nt278 : FI278.nt = 13 := by kernel_rfl
noncomputable def FI279 : FI := fiOfFn Tryz.f279
noncomputable def body279 : Code := (fiOfFn Tryz.f279).body
theorem fn279 : E.fn 279 = some FI279 := by kernel_rfl
theorem bd279 : FI279.body = body279 := rfl
theorem rs279 : FI279.results = [] := by kernel_rfl
theorem nt279 : FI279.nt = 134 := by kernel_rfl
noncomputable def FI280 : FI := fiOfFn Tryz.f280
noncomputable def body280 : Code := (fiOfFn Tryz.f280).body
theorem fn280 : E.fn 280 = some FI280 := by kernel_rfl
theorem bd280 : FI280.body = body280 := rfl
theorem rs280 : FI280.results = [.tmp 4] := by kernel_rfl
theorem nt280 : FI280.nt = 13 := by kernel_rfl
noncomputable def FI281 : FI := fiOfFn Tryz.f281
noncomputable def body281 : Code := (fiOfFn Tryz.f281).body
theorem fn281 : E.fn 281 = some FI281 := by kernel_rfl
theorem bd281 : FI281.body = body281 := rfl
theorem rs281 : FI281.results = [.tmp 4] := by kernel_rfl
theorem nt281 : FI281.nt = 35 := by kernel_rfl
noncomputable def FI282 : FI := fiOfFn Tryz.f282
noncomputable def body282 : Code := (fiOfFn Tryz.f282).body
theorem fn282 : E.fn 282 = some FI282 := by kernel_rfl
theorem bd282 : FI282.body = body282 := rfl
theorem rs282 : FI282.results = [.cell 2 318] := by kernel_rfl
theorem nt282 : FI282.nt = 21 := by kernel_rfl
noncomputable def FI283 : FI := fiOfFn Tryz.f283
noncomputable def body283 : Code := (fiOfFn Tryz.f283).body
theorem fn283 : E.fn 283 = some FI283 := by kernel_rfl
theorem bd283 : FI283.body = body283 := rfl
theorem rs283 : FI283.results = [.tmp 4] := by kernel_rfl
theorem nt283 : FI283.nt = 13 := by kernel_rfl
noncomputable def FI284 : FI := fiOfFn Tryz.f284
noncomputable def body284 : Code := (fiOfFn Tryz.f284).body
theorem fn284 : E.fn 284 = some FI284 := by kernel_rfl
theorem bd284 : FI284.body = body284 := rfl
theorem rs284 : FI284.results = [] := by kernel_rfl
theorem nt284 : FI284.nt = 148 := by kernel_rfl
noncomputable def FI285 : FI := fiOfFn Tryz.f285
noncomputable def body285 : Code := (fiOfFn Tryz.f285).body
theorem fn285 : E.fn 285 = some FI285 := by kernel_rfl
theorem bd285 : FI285.body = body285 := rfl
theorem rs285 : FI285.results = [.tmp 2] := by kernel_rfl
theorem nt285 : FI285.nt = 14 := by kernel_rfl
noncomputable def FI286 : FI := fiOfFn Tryz.f286
noncomputable def body286 : Code := (fiOfFn Tryz.f286).body
theorem fn286 : E.fn 286 = some FI286 := by kernel_rfl
theorem bd286 : FI286.body = body286 := rfl
theorem rs286 : FI286.results = [.tmp 2] := by kernel_rfl
theorem nt286 : FI286.nt = 14 := by kernel_rfl
noncomputable def FI287 : FI := fiOfFn Tryz.f287
noncomputable def body287 : Code := (fiOfFn Tryz.f287).body
theorem fn287 : E.fn 287 = some FI287 := by kernel_rfl
theorem bd287 : FI287.body = body287 := rfl
theorem rs287 : FI287.results = [.tmp 8, .tmp 9] := by kernel_rfl
theorem nt287 : FI287.nt = 28 := by kernel_rfl
noncomputable def FI288 : FI := fiOfFn Tryz.f288
noncomputable def body288 : Code := (fiOfFn Tryz.f288).body
theorem fn288 : E.fn 288 = some FI288 := by kernel_rfl
theorem bd288 : FI288.body = body288 := rfl
theorem rs288 : FI288.results = [] := by kernel_rfl
theorem nt288 : FI288.nt = 49 := by kernel_rfl
noncomputable def FI289 : FI := fiOfFn Tryz.f289
noncomputable def body289 : Code := (fiOfFn Tryz.f289).body
theorem fn289 : E.fn 289 = some FI289 := by kernel_rfl
theorem bd289 : FI289.body = body289 := rfl
theorem rs289 : FI289.results = [] := by kernel_rfl
theorem nt289 : FI289.nt = 56 := by kernel_rfl
noncomputable def FI290 : FI := fiOfFn Tryz.f290
noncomputable def body290 : Code := (fiOfFn Tryz.f290).body
theorem fn290 : E.fn 290 = some FI290 := by kernel_rfl
theorem bd290 : FI290.body = body290 := rfl
theorem rs290 : FI290.results = [] := by kernel_rfl
theorem nt290 : FI290.nt = 65 := by kernel_rfl
noncomputable def FI291 : FI := fiOfFn Tryz.f291
noncomputable def body291 : Code := (fiOfFn Tryz.f291).body
theorem fn291 : E.fn 291 = some FI291 := by kernel_rfl
theorem bd291 : FI291.body = body291 := rfl
theorem rs291 : FI291.results = [.tmp 6, .tmp 7] := by kernel_rfl
theorem nt291 : FI291.nt = 57 := by kernel_rfl
noncomputable def FI292 : FI := fiOfFn Tryz.f292
noncomputable def body292 : Code := (fiOfFn Tryz.f292).body
theorem fn292 : E.fn 292 = some FI292 := by kernel_rfl
theorem bd292 : FI292.body = body292 := rfl
theorem rs292 : FI292.results = [] := by kernel_rfl
theorem nt292 : FI292.nt = 32 := by kernel_rfl
noncomputable def FI293 : FI := fiOfFn Tryz.f293
noncomputable def body293 : Code := (fiOfFn Tryz.f293).body
theorem fn293 : E.fn 293 = some FI293 := by kernel_rfl
theorem bd293 : FI293.body = body293 := rfl
theorem rs293 : FI293.results = [.tmp 6] := by kernel_rfl
theorem nt293 : FI293.nt = 133 := by kernel_rfl
noncomputable def FI294 : FI := fiOfFn Tryz.f294
noncomputable def body294 : Code := (fiOfFn Tryz.f294).body
theorem fn294 : E.fn 294 = some FI294 := by kernel_rfl
theorem bd294 : FI294.body = body294 := rfl
theorem rs294 : FI294.results = [.tmp 4] := by kernel_rfl
theorem nt294 : FI294.nt = 17 := by kernel_rfl
noncomputable def FI295 : FI := fiOfFn Tryz.f295
noncomputable def body295 : Code := (fiOfFn Tryz.f295).body
theorem fn295 : E.fn 295 = some FI295 := by kernel_rfl
theorem bd295 : FI295.body = body295 := rfl
theorem rs295 : FI295.results = [.tmp 8] := by kernel_rfl
theorem nt295 : FI295.nt = 84 := by kernel_rfl
noncomputable def FI296 : FI := fiOfFn Tryz.f296
noncomputable def body296 : Code := (fiOfFn Tryz.f296).body
theorem fn296 : E.fn 296 = some FI296 := by kernel_rfl
theorem bd296 : FI296.body = body296 := rfl
theorem rs296 : FI296.results = [.tmp 8, .tmp 9] := by kernel_rfl
theorem nt296 : FI296.nt = 168 := by kernel_rfl
noncomputable def FI297 : FI := fiOfFn Tryz.f297
noncomputable def body297 : Code := (fiOfFn Tryz.f297).body
theorem fn297 : E.fn 297 = some FI297 := by kernel_rfl
theorem bd297 : FI297.body = body297 := rfl
theorem rs297 : FI297.results = [.cell 3 107] := by kernel_rfl
theorem nt297 : FI297.nt = 10 := by kernel_rfl
noncomputable def FI298 : FI := fiOfFn Tryz.f298
noncomputable def body298 : Code := (fiOfFn Tryz.f298).body
theorem fn298 : E.fn 298 = some FI298 := by kernel_rfl
theorem bd298 : FI298.body = body298 := rfl
theorem rs298 : FI298.results = [.tmp 5] := by kernel_rfl
theorem nt298 : FI298.nt = 15 := by kernel_rfl
noncomputable def FI299 : FI := fiOfFn Tryz.f299
noncomputable def body299 : Code := (fiOfFn Tryz.f299).body
theorem fn299 : E.fn 299 = some FI299 := by kernel_rfl
theorem bd299 : FI299.body = body299 := rfl
theorem rs299 : FI299.results = [.tmp 6] := by kernel_rfl
theorem nt299 : FI299.nt = 17 := by kernel_rfl
noncomputable def FI300 : FI := fiOfFn Tryz.f300
noncomputable def body300 : Code := (fiOfFn Tryz.f300).body
theorem fn300 : E.fn 300 = some FI300 := by kernel_rfl
theorem bd300 : FI300.body = body300 := rfl
theorem rs300 : FI300.results = [.tmp 7] := by kernel_rfl
theorem nt300 : FI300.nt = 47 := by kernel_rfl
noncomputable def FI301 : FI := fiOfFn Tryz.f301
noncomputable def body301 : Code := (fiOfFn Tryz.f301).body
theorem fn301 : E.fn 301 = some FI301 := by kernel_rfl
theorem bd301 : FI301.body = body301 := rfl
theorem rs301 : FI301.results = [.tmp 8] := by kernel_rfl
theorem nt301 : FI301.nt = 24 := by kernel_rfl
noncomputable def FI302 : FI := fiOfFn Tryz.f302
noncomputable def body302 : Code := (fiOfFn Tryz.f302).body
theorem fn302 : E.fn 302 = some FI302 := by kernel_rfl
theorem bd302 : FI302.body = body302 := rfl
theorem rs302 : FI302.results = [.tmp 6] := by kernel_rfl
theorem nt302 : FI302.nt = 18 := by kernel_rfl
noncomputable def FI303 : FI := fiOfFn Tryz.f303
noncomputable def body303 : Code := (fiOfFn Tryz.f303).body
theorem fn303 : E.fn 303 = some FI303 := by kernel_rfl
theorem bd303 : FI303.body = body303 := rfl
theorem rs303 : FI303.results = [.tmp 6] := by kernel_rfl
theorem nt303 : FI303.nt = 35 := by kernel_rfl
noncomputable def FI304 : FI := fiOfFn Tryz.f304
noncomputable def body304 : Code := (fiOfFn Tryz.f304).body
theorem fn304 : E.fn 304 = some FI304 := by kernel_rfl
theorem bd304 : FI304.body = body304 := rfl
theorem rs304 : FI304.results = [.tmp 6] := by kernel_rfl
theorem nt304 : FI304.nt = 12 := by kernel_rfl
noncomputable def FI305 : FI := fiOfFn Tryz.f305
noncomputable def body305 : Code := (fiOfFn Tryz.f305).body
theorem fn305 : E.fn 305 = some FI305 := by kernel_rfl
theorem bd305 : FI305.body = body305 := rfl
theorem rs305 : FI305.results = [.tmp 7] := by kernel_rfl
theorem nt305 : FI305.nt = 27 := by kernel_rfl
noncomputable def FI306 : FI := fiOfFn Tryz.f306
noncomputable def body306 : Code := (fiOfFn Tryz.f306).body
theorem fn306 : E.fn 306 = some FI306 := by kernel_rfl
theorem bd306 : FI306.body = body306 := rfl
theorem rs306 : FI306.results = [.tmp 4] := by kernel_rfl
theorem nt306 : FI306.nt = 21 := by kernel_rfl
noncomputable def FI307 : FI := fiOfFn Tryz.f307
noncomputable def body307 : Code := (fiOfFn Tryz.f307).body
theorem fn307 : E.fn 307 = some FI307 := by kernel_rfl
theorem bd307 : FI307.body = body307 := rfl
theorem rs307 : FI307.results = [.tmp 5] := by kernel_rfl
theorem nt307 : FI307.nt = 10 := by kernel_rfl
noncomputable def FI308 : FI := fiOfFn Tryz.f308
noncomputable def body308 : Code := (fiOfFn Tryz.f308).body
theorem fn308 : E.fn 308 = some FI308 := by kernel_rfl
theorem bd308 : FI308.body = body308 := rfl
theorem rs308 : FI308.results = [.tmp 5] := by kernel_rfl
theorem nt308 : FI308.nt = 10 := by kernel_rfl
noncomputable def FI309 : FI := fiOfFn Tryz.f309
noncomputable def body309 : Code := (fiOfFn Tryz.f309).body
theorem fn309 : E.fn 309 = some FI309 := by kernel_rfl
theorem bd309 : FI309.body = body309 := rfl
theorem rs309 : FI309.results = [.tmp 5] := by kernel_rfl
theorem nt309 : FI309.nt = 16 := by kernel_rfl
noncomputable def FI310 : FI := fiOfFn Tryz.f310
noncomputable def body310 : Code := (fiOfFn Tryz.f310).body
theorem fn310 : E.fn 310 = some FI310 := by kernel_rfl
theorem bd310 : FI310.body = body310 := rfl
theorem rs310 : FI310.results = [.tmp 2] := by kernel_rfl
theorem nt310 : FI310.nt = 18 := by kernel_rfl
noncomputable def FI311 : FI := fiOfFn Tryz.f311
noncomputable def body311 : Code := (fiOfFn Tryz.f311).body
theorem fn311 : E.fn 311 = some FI311 := by kernel_rfl
theorem bd311 : FI311.body = body311 := rfl
theorem rs311 : FI311.results = [.tmp 5] := by kernel_rfl
theorem nt311 : FI311.nt = 20 := by kernel_rfl
noncomputable def FI312 : FI := fiOfFn Tryz.f312
noncomputable def body312 : Code := (fiOfFn Tryz.f312).body
theorem fn312 : E.fn 312 = some FI312 := by kernel_rfl
theorem bd312 : FI312.body = body312 := rfl
theorem rs312 : FI312.results = [.tmp 5] := by kernel_rfl
theorem nt312 : FI312.nt = 12 := by kernel_rfl
noncomputable def FI313 : FI := fiOfFn Tryz.f313
noncomputable def body313 : Code := (fiOfFn Tryz.f313).body
theorem fn313 : E.fn 313 = some FI313 := by kernel_rfl
theorem bd313 : FI313.body = body313 := rfl
theorem rs313 : FI313.results = [.tmp 4] := by kernel_rfl
theorem nt313 : FI313.nt = 9 := by kernel_rfl
noncomputable def FI314 : FI := fiOfFn Tryz.f314
noncomputable def body314 : Code := (fiOfFn Tryz.f314).body
theorem fn314 : E.fn 314 = some FI314 := by kernel_rfl
theorem bd314 : FI314.body = body314 := rfl
theorem rs314 : FI314.results = [.tmp 5] := by kernel_rfl
theorem nt314 : FI314.nt = 12 := by kernel_rfl
noncomputable def FI315 : FI := fiOfFn Tryz.f315
noncomputable def body315 : Code := (fiOfFn Tryz.f315).body
theorem fn315 : E.fn 315 = some FI315 := by kernel_rfl
theorem bd315 : FI315.body = body315 := rfl
theorem rs315 : FI315.results = [.tmp 5] := by kernel_rfl
theorem nt315 : FI315.nt = 18 := by kernel_rfl
noncomputable def FI316 : FI := fiOfFn Tryz.f316
noncomputable def body316 : Code := (fiOfFn Tryz.f316).body
theorem fn316 : E.fn 316 = some FI316 := by kernel_rfl
theorem bd316 : FI316.body = body316 := rfl
theorem rs316 : FI316.results = [.tmp 6] := by kernel_rfl
theorem nt316 : FI316.nt = 18 := by kernel_rfl
noncomputable def FI317 : FI := fiOfFn Tryz.f317
noncomputable def body317 : Code := (fiOfFn Tryz.f317).body
theorem fn317 : E.fn 317 = some FI317 := by kernel_rfl
theorem bd317 : FI317.body = body317 := rfl
theorem rs317 : FI317.results = [.tmp 7] := by kernel_rfl
theorem nt317 : FI317.nt = 32 := by kernel_rfl
noncomputable def FI318 : FI := fiOfFn Tryz.f318
noncomputable def body318 : Code := (fiOfFn Tryz.f318).body
theorem fn318 : E.fn 318 = some FI318 := by kernel_rfl
theorem bd318 : FI318.body = body318 := rfl
theorem rs318 : FI318.results = [.tmp 6] := by kernel_rfl
theorem nt318 : FI318.nt = 18 := by kernel_rfl
noncomputable def FI319 : FI := fiOfFn Tryz.f319
noncomputable def body319 : Code := (fiOfFn Tryz.f319).body
theorem fn319 : E.fn 319 = some FI319 := by kernel_rfl
theorem bd319 : FI319.body = body319 := rfl
theorem rs319 : FI319.results = [.tmp 5] := by kernel_rfl
theorem nt319 : FI319.nt = 10 := by kernel_rfl
noncomputable def FI320 : FI := fiOfFn Tryz.f320
noncomputable def body320 : Code := (fiOfFn Tryz.f320).body
theorem fn320 : E.fn 320 = some FI320 := by kernel_rfl
theorem bd320 : FI320.body = body320 := rfl
theorem rs320 : FI320.results = [] := by kernel_rfl
theorem nt320 : FI320.nt = 53 := by kernel_rfl
noncomputable def FI321 : FI := fiOfFn Tryz.f321
noncomputable def body321 : Code := (fiOfFn Tryz.f321).body
theorem fn321 : E.fn 321 = some FI321 := by kernel_rfl
theorem bd321 : FI321.body = body321 := rfl
theorem rs321 : FI321.results = [] := by kernel_rfl
theorem nt321 : FI321.nt = 60 := by kernel_rfl
noncomputable def FI322 : FI := fiOfFn Tryz.f322
noncomputable def body322 : Code := (fiOfFn Tryz.f322).body
theorem fn322 : E.fn 322 = some FI322 := by kernel_rfl
theorem bd322 : FI322.body = body322 := rfl
theorem rs322 : FI322.results = [] := by kernel_rfl
theorem nt322 : FI322.nt = 67 := by kernel_rfl
noncomputable def FI323 : FI := fiOfFn Tryz.f323
noncomputable def body323 : Code := (fiOfFn Tryz.f323).body
theorem fn323 : E.fn 323 = some FI323 := by kernel_rfl
theorem bd323 : FI323.body = body323 := rfl
theorem rs323 : FI323.results = [.tmp 8, .tmp 9] := by kernel_rfl
theorem nt323 : FI323.nt = 63 := by kernel_rfl
noncomputable def FI324 : FI := fiOfFn Tryz.f324
noncomputable def body324 : Code := (fiOfFn Tryz.f324).body
theorem fn324 : E.fn 324 = some FI324 := by kernel_rfl
theorem bd324 : FI324.body = body324 := rfl
theorem rs324 : FI324.results = [] := by kernel_rfl
theorem nt324 : FI324.nt = 34 := by kernel_rfl
noncomputable def FI325 : FI := fiOfFn Tryz.f325
noncomputable def body325 : Code := (fiOfFn Tryz.f325).body
theorem fn325 : E.fn 325 = some FI325 := by kernel_rfl
theorem bd325 : FI325.body = body325 := rfl
theorem rs325 : FI325.results = [.tmp 8] := by kernel_rfl
theorem nt325 : FI325.nt = 141 := by kernel_rfl
noncomputable def FI326 : FI := fiOfFn Tryz.f326
noncomputable def body326 : Code := (fiOfFn Tryz.f326).body
theorem fn326 : E.fn 326 = some FI326 := by kernel_rfl
theorem bd326 : FI326.body = body326 := rfl
theorem rs326 : FI326.results = [.tmp 10] := by kernel_rfl
theorem nt326 : FI326.nt = 90 := by kernel_rfl
noncomputable def FI327 : FI := fiOfFn Tryz.f327
noncomputable def body327 : Code := (fiOfFn Tryz.f327).body
theorem fn327 : E.fn 327 = some FI327 := by kernel_rfl
theorem bd327 : FI327.body = body327 := rfl
theorem rs327 : FI327.results = [.tmp 10, .tmp 11] := by kernel_rfl
theorem nt327 : FI327.nt = 178 := by kernel_rfl
noncomputable def FI328 : FI := fiOfFn Tryz.f328
noncomputable def body328 : Code := (fiOfFn Tryz.f328).body
theorem fn328 : E.fn 328 = some FI328 := by kernel_rfl
theorem bd328 : FI328.body = body328 := rfl
theorem rs328 : FI328.results = [] := by kernel_rfl
theorem nt328 : FI328.nt = 76 := by kernel_rfl
noncomputable def FI329 : FI := fiOfFn Tryz.f329
noncomputable def body329 : Code := (fiOfFn Tryz.f329).body
theorem fn329 : E.fn 329 = some FI329 := by kernel_rfl
theorem bd329 : FI329.body = body329 := rfl
theorem rs329 : FI329.results = [.tmp 6] := by kernel_rfl
theorem nt329 : FI329.nt = 15 := by kernel_rfl
noncomputable def FI330 : FI := fiOfFn Tryz.f330
noncomputable def body330 : Code := (fiOfFn Tryz.f330).body
theorem fn330 : E.fn 330 = some FI330 := by kernel_rfl
theorem bd330 : FI330.body = body330 := rfl
theorem rs330 : FI330.results = [.tmp 10] := by kernel_rfl
theorem nt330 : FI330.nt = 36 := by kernel_rfl
noncomputable def FI331 : FI := fiOfFn Tryz.f331
noncomputable def body331 : Code := (fiOfFn Tryz.f331).body
theorem fn331 : E.fn 331 = some FI331 := by kernel_rfl
theorem bd331 : FI331.body = body331 := rfl
theorem rs331 : FI331.results = [.tmp 6] := by kernel_rfl
theorem nt331 : FI331.nt = 8 := by kernel_rfl
noncomputable def FI332 : FI := fiOfFn Tryz.f332
noncomputable def body332 : Code := (fiOfFn Tryz.f332).body
theorem fn332 : E.fn 332 = some FI332 := by kernel_rfl
theorem bd332 : FI332.body = body332 := rfl
theorem rs332 : FI332.results = [] := by kernel_rfl
theorem nt332 : FI332.nt = 82 := by kernel_rfl
noncomputable def FI333 : FI := fiOfFn Tryz.f333
noncomputable def body333 : Code := (fiOfFn Tryz.f333).body
theorem fn333 : E.fn 333 = some FI333 := by kernel_rfl
theorem bd333 : FI333.body = body333 := rfl
theorem rs333 : FI333.results = [.tmp 8] := by kernel_rfl
theorem nt333 : FI333.nt = 18 := by kernel_rfl
noncomputable def FI334 : FI := fiOfFn Tryz.f334
noncomputable def body334 : Code := (fiOfFn Tryz.f334).body
theorem fn334 : E.fn 334 = some FI334 := by kernel_rfl
theorem bd334 : FI334.body = body334 := rfl
theorem rs334 : FI334.results = [.tmp 12] := by kernel_rfl
theorem nt334 : FI334.nt = 41 := by kernel_rfl
noncomputable def FI335 : FI := fiOfFn Tryz.f335
noncomputable def body335 : Code := (fiOfFn Tryz.f335).body
theorem fn335 : E.fn 335 = some FI335 := by kernel_rfl
theorem bd335 : FI335.body = body335 := rfl
theorem rs335 : FI335.results = [.tmp 8, .tmp 9] := by kernel_rfl
theorem nt335 : FI335.nt = 28 := by kernel_rfl
noncomputable def FI336 : FI := fiOfFn Tryz.f336
noncomputable def body336 : Code := (fiOfFn Tryz.f336).body
theorem fn336 : E.fn 336 = some FI336 := by kernel_rfl
theorem bd336 : FI336.body = body336 := rfl
theorem rs336 : FI336.results = [] := by kernel_rfl
theorem nt336 : FI336.nt = 23 := by kernel_rfl
noncomputable def FI337 : FI := fiOfFn Tryz.f337
noncomputable def body337 : Code := (fiOfFn Tryz.f337).body
theorem fn337 : E.fn 337 = some FI337 := by kernel_rfl
theorem bd337 : FI337.body = body337 := rfl
theorem rs337 : FI337.results = [.tmp 10, .tmp 11] := by kernel_rfl
theorem nt337 : FI337.nt = 32 := by kernel_rfl
theorem ty2 : E.ty 2 = some t2 := by kernel_rfl
theorem ty3 : E.ty 3 = some t3 := by kernel_rfl
theorem ty4 : E.ty 4 = some t4 := by kernel_rfl
theorem ty5 : E.ty 5 = some t5 := by kernel_rfl
theorem ty9 : E.ty 9 = some t9 := by kernel_rfl
theorem ty20 : E.ty 20 = some t20 := by kernel_rfl
theorem ty21 : E.ty 21 = some t21 := by kernel_rfl
theorem ty22 : E.ty 22 = some t22 := by kernel_rfl
theorem ty25 : E.ty 25 = some t25 := by kernel_rfl
theorem ty27 : E.ty 27 = some t27 := by kernel_rfl
theorem ty28 : E.ty 28 = some t28 := by kernel_rfl
theorem ty31 : E.ty 31 = some t31 := by kernel_rfl
theorem ty34 : E.ty 34 = some t34 := by kernel_rfl
theorem ty35 : E.ty 35 = some t35 := by kernel_rfl
theorem ty36 : E.ty 36 = some t36 := by kernel_rfl
theorem ty38 : E.ty 38 = some t38 := by kernel_rfl
theorem ty40 : E.ty 40 = some t40 := by kernel_rfl
theorem ty45 : E.ty 45 = some t45 := by kernel_rfl
theorem ty47 : E.ty 47 = some t47 := by kernel_rfl
theorem ty49 : E.ty 49 = some t49 := by kernel_rfl
theorem ty52 : E.ty 52 = some t52 := by kernel_rfl
theorem ty56 : E.ty 56 = some t56 := by kernel_rfl
theorem ty57 : E.ty 57 = some t57 := by kernel_rfl
theorem ty58 : E.ty 58 = some t58 := by kernel_rfl
theorem ty60 : E.ty 60 = some t60 := by kernel_rfl
theorem ty67 : E.ty 67 = some t67 := by kernel_rfl
theorem ty68 : E.ty 68 = some t68 := by kernel_rfl
theorem ty70 : E.ty 70 = some t70 := by kernel_rfl
theorem ty86 : E.ty 86 = some t86 := by kernel_rfl
theorem ty95 : E.ty 95 = some t95 := by kernel_rfl
theorem ty97 : E.ty 97 = some t97 := by kernel_rfl
theorem ty99 : E.ty 99 = some t99 := by kernel_rfl
theorem ty102 : E.ty 102 = some t102 := by kernel_rfl
theorem ty105 : E.ty 105 = some t105 := by kernel_rfl
theorem ty107 : E.ty 107 = some t107 := by kernel_rfl
theorem ty111 : E.ty 111 = some t111 := by kernel_rfl
theorem ty119 : E.ty 119 = some t119 := by kernel_rfl
theorem ty120 : E.ty 120 = some t120 := by kernel_rfl
theorem ty122 : E.ty 122 = some t122 := by kernel_rfl
theorem ty124 : E.ty 124 = some t124 := by kernel_rfl
theorem ty127 : E.ty 127 = some t127 := by kernel_rfl
theorem ty132 : E.ty 132 = some t132 := by kernel_rfl
theorem ty133 : E.ty 133 = some t133 := by kernel_rfl
theorem ty135 : E.ty 135 = some t135 := by kernel_rfl
theorem ty140 : E.ty 140 = some t140 := by kernel_rfl
theorem ty143 : E.ty 143 = some t143 := by kernel_rfl
theorem ty148 : E.ty 148 = some t148 := by kernel_rfl
theorem ty153 : E.ty 153 = some t153 := by kernel_rfl
theorem ty166 : E.ty 166 = some t166 := by kernel_rfl
theorem ty168 : E.ty 168 = some t168 := by kernel_rfl
theorem ty177 : E.ty 177 = some t177 := by kernel_rfl
theorem ty179 : E.ty 179 = some t179 := by kernel_rfl
theorem ty181 : E.ty 181 = some t181 := by kernel_rfl
theorem ty183 : E.ty 183 = some t183 := by kernel_rfl
theorem ty185 : E.ty 185 = some t185 := by kernel_rfl
theorem ty186 : E.ty 186 = some t186 := by kernel_rfl
theorem ty187 : E.ty 187 = some t187 := by kernel_rfl
theorem ty189 : E.ty 189 = some t189 := by kernel_rfl
theorem ty190 : E.ty 190 = some t190 := by kernel_rfl
theorem ty191 : E.ty 191 = some t191 := by kernel_rfl
theorem ty192 : E.ty 192 = some t192 := by kernel_rfl
theorem ty198 : E.ty 198 = some t198 := by kernel_rfl
theorem ty199 : E.ty 199 = some t199 := by kernel_rfl
theorem ty203 : E.ty 203 = some t203 := by kernel_rfl
theorem ty205 : E.ty 205 = some t205 := by kernel_rfl
theorem ty206 : E.ty 206 = some t206 := by kernel_rfl
theorem ty207 : E.ty 207 = some t207 := by kernel_rfl
theorem ty208 : E.ty 208 = some t208 := by kernel_rfl
theorem ty210 : E.ty 210 = some t210 := by kernel_rfl
theorem ty214 : E.ty 214 = some t214 := by kernel_rfl
theorem ty230 : E.ty 230 = some t230 := by kernel_rfl
theorem ty236 : E.ty 236 = some t236 := by kernel_rfl
theorem ty243 : E.ty 243 = some t243 := by kernel_rfl
theorem ty250 : E.ty 250 = some t250 := by kernel_rfl
theorem ty264 : E.ty 264 = some t264 := by kernel_rfl
theorem ty265 : E.ty 265 = some t265 := by kernel_rfl
theorem ty266 : E.ty 266 = some t266 := by kernel_rfl
theorem ty268 : E.ty 268 = some t268 := by kernel_rfl
theorem ty277 : E.ty 277 = some t277 := by kernel_rfl
theorem ty286 : E.ty 286 = some t286 := by kernel_rfl
theorem ty288 : E.ty 288 = some t288 := by kernel_rfl
theorem ty294 : E.ty 294 = some t294 := by kernel_rfl
theorem ty303 : E.ty 303 = some t303 := by kernel_rfl
theorem ty307 : E.ty 307 = some t307 := by kernel_rfl
theorem ty308 : E.ty 308 = some t308 := by kernel_rfl
theorem ty311 : E.ty 311 = some t311 := by kernel_rfl
theorem ty318 : E.ty 318 = some t318 := by kernel_rfl
theorem ty322 : E.ty 322 = some t322 := by kernel_rfl
theorem ty324 : E.ty 324 = some t324 := by kernel_rfl
theorem ty325 : E.ty 325 = some t325 := by kernel_rfl
theorem ty326 : E.ty 326 = some t326 := by kernel_rfl
theorem ty328 : E.ty 328 = some t328 := by kernel_rfl
theorem ty336 : E.ty 336 = some t336 := by kernel_rfl
theorem ty338 : E.ty 338 = some t338 := by kernel_rfl
theorem ty345 : E.ty 345 = some t345 := by kernel_rfl
theorem ty346 : E.ty 346 = some t346 := by kernel_rfl
theorem ng_eq : E.ng = 8 := rfl
end Go.Proofs.YtoenpafonldhoaaGreatDoor

