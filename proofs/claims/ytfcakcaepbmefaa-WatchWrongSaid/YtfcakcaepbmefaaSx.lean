/- Words for walks: the functions' bodies, results, the types. No condition. -/
import Derived.Test.YtfcakcaepbmefaaEnv
import Derived.Test.YtfcakcaepbmefaaAmG
namespace Go.Proofs.Ytfcakcaepbmefaa
open Go Go.AM
noncomputable def FI3 : FI := fiOfFn Try.f3
noncomputable def body3 : Code := (fiOfFn Try.f3).body
theorem fn3 : E.fn 3 = some FI3 := by kernel_rfl
theorem bd3 : FI3.body = body3 := rfl
theorem rs3 : FI3.results = [.tmp 6] := by kernel_rfl
theorem nt3 : FI3.nt = 73 := by kernel_rfl
noncomputable def FI4 : FI := fiOfFn Try.f4
noncomputable def body4 : Code := (fiOfFn Try.f4).body
theorem fn4 : E.fn 4 = some FI4 := by kernel_rfl
theorem bd4 : FI4.body = body4 := rfl
theorem rs4 : FI4.results = [.tmp 2, .tmp 3, .tmp 4] := by kernel_rfl
theorem nt4 : FI4.nt = 52 := by kernel_rfl
noncomputable def FI5 : FI := fiOfFn Try.f5
noncomputable def body5 : Code := (fiOfFn Try.f5).body
theorem fn5 : E.fn 5 = some FI5 := by kernel_rfl
theorem bd5 : FI5.body = body5 := rfl
theorem rs5 : FI5.results = [.tmp 4] := by kernel_rfl
theorem nt5 : FI5.nt = 37 := by kernel_rfl
noncomputable def FI6 : FI := fiOfFn Try.f6
noncomputable def body6 : Code := (fiOfFn Try.f6).body
theorem fn6 : E.fn 6 = some FI6 := by kernel_rfl
theorem bd6 : FI6.body = body6 := rfl
theorem rs6 : FI6.results = [.tmp 0] := by kernel_rfl
theorem nt6 : FI6.nt = 55 := by kernel_rfl
noncomputable def FI7 : FI := fiOfFn Try.f7
noncomputable def body7 : Code := (fiOfFn Try.f7).body
theorem fn7 : E.fn 7 = some FI7 := by kernel_rfl
theorem bd7 : FI7.body = body7 := rfl
theorem rs7 : FI7.results = [.tmp 2, .tmp 3] := by kernel_rfl
theorem nt7 : FI7.nt = 22 := by kernel_rfl
noncomputable def FI8 : FI := fiOfFn Try.f8
noncomputable def body8 : Code := (fiOfFn Try.f8).body
theorem fn8 : E.fn 8 = some FI8 := by kernel_rfl
theorem bd8 : FI8.body = body8 := rfl
theorem rs8 : FI8.results = [.tmp 4, .tmp 5] := by kernel_rfl
theorem nt8 : FI8.nt = 42 := by kernel_rfl
noncomputable def FI9 : FI := fiOfFn Try.f9
noncomputable def body9 : Code := (fiOfFn Try.f9).body
theorem fn9 : E.fn 9 = some FI9 := by kernel_rfl
theorem bd9 : FI9.body = body9 := rfl
theorem rs9 : FI9.results = [.tmp 4] := by kernel_rfl
theorem nt9 : FI9.nt = 41 := by kernel_rfl
noncomputable def FI10 : FI := fiOfFn Try.f10
noncomputable def body10 : Code := (fiOfFn Try.f10).body
theorem fn10 : E.fn 10 = some FI10 := by kernel_rfl
theorem bd10 : FI10.body = body10 := rfl
theorem rs10 : FI10.results = [.tmp 8, .tmp 9] := by kernel_rfl
theorem nt10 : FI10.nt = 97 := by kernel_rfl
noncomputable def FI11 : FI := fiOfFn Try.f11
noncomputable def body11 : Code := (fiOfFn Try.f11).body
theorem fn11 : E.fn 11 = some FI11 := by kernel_rfl
theorem bd11 : FI11.body = body11 := rfl
theorem rs11 : FI11.results = [.tmp 2, .tmp 3] := by kernel_rfl
theorem nt11 : FI11.nt = 21 := by kernel_rfl
noncomputable def FI12 : FI := fiOfFn Try.f12
noncomputable def body12 : Code := (fiOfFn Try.f12).body
theorem fn12 : E.fn 12 = some FI12 := by kernel_rfl
theorem bd12 : FI12.body = body12 := rfl
theorem rs12 : FI12.results = [.tmp 4, .tmp 5] := by kernel_rfl
theorem nt12 : FI12.nt = 47 := by kernel_rfl
noncomputable def FI13 : FI := fiOfFn Try.f13
noncomputable def body13 : Code := (fiOfFn Try.f13).body
theorem fn13 : E.fn 13 = some FI13 := by kernel_rfl
theorem bd13 : FI13.body = body13 := rfl
theorem rs13 : FI13.results = [.tmp 2] := by kernel_rfl
theorem nt13 : FI13.nt = 10 := by kernel_rfl
noncomputable def FI14 : FI := fiOfFn Try.f14
noncomputable def body14 : Code := (fiOfFn Try.f14).body
theorem fn14 : E.fn 14 = some FI14 := by kernel_rfl
theorem bd14 : FI14.body = body14 := rfl
theorem rs14 : FI14.results = [.tmp 6, .tmp 7] := by kernel_rfl
theorem nt14 : FI14.nt = 17 := by kernel_rfl
noncomputable def FI15 : FI := fiOfFn Try.f15
noncomputable def body15 : Code := (fiOfFn Try.f15).body
theorem fn15 : E.fn 15 = some FI15 := by kernel_rfl
theorem bd15 : FI15.body = body15 := rfl
theorem rs15 : FI15.results = [.tmp 2] := by kernel_rfl
theorem nt15 : FI15.nt = 9 := by kernel_rfl
noncomputable def FI16 : FI := fiOfFn Try.f16
noncomputable def body16 : Code := (fiOfFn Try.f16).body
theorem fn16 : E.fn 16 = some FI16 := by kernel_rfl
theorem bd16 : FI16.body = body16 := rfl
theorem rs16 : FI16.results = [.tmp 2] := by kernel_rfl
theorem nt16 : FI16.nt = 28 := by kernel_rfl
noncomputable def FI17 : FI := fiOfFn Try.f17
noncomputable def body17 : Code := (fiOfFn Try.f17).body
theorem fn17 : E.fn 17 = some FI17 := by kernel_rfl
theorem bd17 : FI17.body = body17 := rfl
theorem rs17 : FI17.results = [.tmp 2] := by kernel_rfl
theorem nt17 : FI17.nt = 12 := by kernel_rfl
noncomputable def FI18 : FI := fiOfFn Try.f18
noncomputable def body18 : Code := (fiOfFn Try.f18).body
theorem fn18 : E.fn 18 = some FI18 := by kernel_rfl
theorem bd18 : FI18.body = body18 := rfl
theorem rs18 : FI18.results = [.tmp 4] := by kernel_rfl
theorem nt18 : FI18.nt = 26 := by kernel_rfl
noncomputable def FI19 : FI := fiOfFn Try.f19
noncomputable def body19 : Code := (fiOfFn Try.f19).body
theorem fn19 : E.fn 19 = some FI19 := by kernel_rfl
theorem bd19 : FI19.body = body19 := rfl
theorem rs19 : FI19.results = [.tmp 2] := by kernel_rfl
theorem nt19 : FI19.nt = 10 := by kernel_rfl
noncomputable def FI20 : FI := fiOfFn Try.f20
noncomputable def body20 : Code := (fiOfFn Try.f20).body
theorem fn20 : E.fn 20 = some FI20 := by kernel_rfl
theorem bd20 : FI20.body = body20 := rfl
theorem rs20 : FI20.results = [.tmp 8] := by kernel_rfl
theorem nt20 : FI20.nt = 90 := by kernel_rfl
noncomputable def FI21 : FI := fiOfFn Try.f21
noncomputable def body21 : Code := (fiOfFn Try.f21).body
theorem fn21 : E.fn 21 = some FI21 := by kernel_rfl
theorem bd21 : FI21.body = body21 := rfl
theorem rs21 : FI21.results = [.tmp 2] := by kernel_rfl
theorem nt21 : FI21.nt = 27 := by kernel_rfl
noncomputable def FI22 : FI := fiOfFn Try.f22
noncomputable def body22 : Code := (fiOfFn Try.f22).body
theorem fn22 : E.fn 22 = some FI22 := by kernel_rfl
theorem bd22 : FI22.body = body22 := rfl
theorem rs22 : FI22.results = [.tmp 2, .tmp 3] := by kernel_rfl
theorem nt22 : FI22.nt = 13 := by kernel_rfl
noncomputable def FI23 : FI := fiOfFn Try.f23
noncomputable def body23 : Code := (fiOfFn Try.f23).body
theorem fn23 : E.fn 23 = some FI23 := by kernel_rfl
theorem bd23 : FI23.body = body23 := rfl
theorem rs23 : FI23.results = [.tmp 2, .tmp 3] := by kernel_rfl
theorem nt23 : FI23.nt = 13 := by kernel_rfl
noncomputable def FI24 : FI := fiOfFn Try.f24
noncomputable def body24 : Code := (fiOfFn Try.f24).body
theorem fn24 : E.fn 24 = some FI24 := by kernel_rfl
theorem bd24 : FI24.body = body24 := rfl
theorem rs24 : FI24.results = [.tmp 6, .tmp 7] := by kernel_rfl
theorem nt24 : FI24.nt = 36 := by kernel_rfl
noncomputable def FI25 : FI := fiOfFn Try.f25
noncomputable def body25 : Code := (fiOfFn Try.f25).body
theorem fn25 : E.fn 25 = some FI25 := by kernel_rfl
theorem bd25 : FI25.body = body25 := rfl
theorem rs25 : FI25.results = [.tmp 6, .tmp 7] := by kernel_rfl
theorem nt25 : FI25.nt = 30 := by kernel_rfl
noncomputable def FI26 : FI := fiOfFn Try.f26
noncomputable def body26 : Code := (fiOfFn Try.f26).body
theorem fn26 : E.fn 26 = some FI26 := by kernel_rfl
theorem bd26 : FI26.body = body26 := rfl
theorem rs26 : FI26.results = [.tmp 4] := by kernel_rfl
theorem nt26 : FI26.nt = 27 := by kernel_rfl
noncomputable def FI27 : FI := fiOfFn Try.f27
noncomputable def body27 : Code := (fiOfFn Try.f27).body
theorem fn27 : E.fn 27 = some FI27 := by kernel_rfl
theorem bd27 : FI27.body = body27 := rfl
theorem rs27 : FI27.results = [.tmp 6] := by kernel_rfl
theorem nt27 : FI27.nt = 184 := by kernel_rfl
noncomputable def FI28 : FI := fiOfFn Try.f28
noncomputable def body28 : Code := (fiOfFn Try.f28).body
theorem fn28 : E.fn 28 = some FI28 := by kernel_rfl
theorem bd28 : FI28.body = body28 := rfl
theorem rs28 : FI28.results = [.tmp 6] := by kernel_rfl
theorem nt28 : FI28.nt = 86 := by kernel_rfl
noncomputable def FI29 : FI := fiOfFn Try.f29
noncomputable def body29 : Code := (fiOfFn Try.f29).body
theorem fn29 : E.fn 29 = some FI29 := by kernel_rfl
theorem bd29 : FI29.body = body29 := rfl
theorem rs29 : FI29.results = [.tmp 8] := by kernel_rfl
theorem nt29 : FI29.nt = 52 := by kernel_rfl
noncomputable def FI30 : FI := fiOfFn Try.f30
noncomputable def body30 : Code := (fiOfFn Try.f30).body
theorem fn30 : E.fn 30 = some FI30 := by kernel_rfl
theorem bd30 : FI30.body = body30 := rfl
theorem rs30 : FI30.results = [] := by kernel_rfl
theorem nt30 : FI30.nt = 20 := by kernel_rfl
noncomputable def FI31 : FI := fiOfFn Try.f31
noncomputable def body31 : Code := (fiOfFn Try.f31).body
theorem fn31 : E.fn 31 = some FI31 := by kernel_rfl
theorem bd31 : FI31.body = body31 := rfl
theorem rs31 : FI31.results = [.tmp 2] := by kernel_rfl
theorem nt31 : FI31.nt = 12 := by kernel_rfl
noncomputable def FI32 : FI := fiOfFn Try.f32
noncomputable def body32 : Code := (fiOfFn Try.f32).body
theorem fn32 : E.fn 32 = some FI32 := by kernel_rfl
theorem bd32 : FI32.body = body32 := rfl
theorem rs32 : FI32.results = [.tmp 2] := by kernel_rfl
theorem nt32 : FI32.nt = 10 := by kernel_rfl
noncomputable def FI33 : FI := fiOfFn Try.f33
noncomputable def body33 : Code := (fiOfFn Try.f33).body
theorem fn33 : E.fn 33 = some FI33 := by kernel_rfl
theorem bd33 : FI33.body = body33 := rfl
theorem rs33 : FI33.results = [.tmp 2] := by kernel_rfl
theorem nt33 : FI33.nt = 12 := by kernel_rfl
noncomputable def FI34 : FI := fiOfFn Try.f34
noncomputable def body34 : Code := (fiOfFn Try.f34).body
theorem fn34 : E.fn 34 = some FI34 := by kernel_rfl
theorem bd34 : FI34.body = body34 := rfl
theorem rs34 : FI34.results = [.tmp 2] := by kernel_rfl
theorem nt34 : FI34.nt = 10 := by kernel_rfl
noncomputable def FI35 : FI := fiOfFn Try.f35
noncomputable def body35 : Code := (fiOfFn Try.f35).body
theorem fn35 : E.fn 35 = some FI35 := by kernel_rfl
theorem bd35 : FI35.body = body35 := rfl
theorem rs35 : FI35.results = [.tmp 2] := by kernel_rfl
theorem nt35 : FI35.nt = 4 := by kernel_rfl
noncomputable def FI36 : FI := fiOfFn Try.f36
noncomputable def body36 : Code := (fiOfFn Try.f36).body
theorem fn36 : E.fn 36 = some FI36 := by kernel_rfl
theorem bd36 : FI36.body = body36 := rfl
theorem rs36 : FI36.results = [.tmp 6] := by kernel_rfl
theorem nt36 : FI36.nt = 11 := by kernel_rfl
noncomputable def FI37 : FI := fiOfFn Try.f37
noncomputable def body37 : Code := (fiOfFn Try.f37).body
theorem fn37 : E.fn 37 = some FI37 := by kernel_rfl
theorem bd37 : FI37.body = body37 := rfl
theorem rs37 : FI37.results = [.tmp 4] := by kernel_rfl
theorem nt37 : FI37.nt = 10 := by kernel_rfl
noncomputable def FI38 : FI := fiOfFn Try.f38
noncomputable def body38 : Code := (fiOfFn Try.f38).body
theorem fn38 : E.fn 38 = some FI38 := by kernel_rfl
theorem bd38 : FI38.body = body38 := rfl
theorem rs38 : FI38.results = [.cell 4 113, .tmp 5] := by kernel_rfl
theorem nt38 : FI38.nt = 14 := by kernel_rfl
noncomputable def FI39 : FI := fiOfFn Try.f39
noncomputable def body39 : Code := (fiOfFn Try.f39).body
theorem fn39 : E.fn 39 = some FI39 := by kernel_rfl
theorem bd39 : FI39.body = body39 := rfl
theorem rs39 : FI39.results = [.tmp 2] := by kernel_rfl
theorem nt39 : FI39.nt = 13 := by kernel_rfl
noncomputable def FI40 : FI := fiOfFn Try.f40
noncomputable def body40 : Code := (fiOfFn Try.f40).body
theorem fn40 : E.fn 40 = some FI40 := by kernel_rfl
theorem bd40 : FI40.body = body40 := rfl
theorem rs40 : FI40.results = [.cell 4 124, .tmp 5] := by kernel_rfl
theorem nt40 : FI40.nt = 20 := by kernel_rfl
noncomputable def FI41 : FI := fiOfFn Try.f41
noncomputable def body41 : Code := (fiOfFn Try.f41).body
theorem fn41 : E.fn 41 = some FI41 := by kernel_rfl
theorem bd41 : FI41.body = body41 := rfl
theorem rs41 : FI41.results = [.tmp 4] := by kernel_rfl
theorem nt41 : FI41.nt = 34 := by kernel_rfl
noncomputable def FI42 : FI := fiOfFn Try.f42
noncomputable def body42 : Code := (fiOfFn Try.f42).body
theorem fn42 : E.fn 42 = some FI42 := by kernel_rfl
theorem bd42 : FI42.body = body42 := rfl
theorem rs42 : FI42.results = [.tmp 2] := by kernel_rfl
theorem nt42 : FI42.nt = 11 := by kernel_rfl
noncomputable def FI43 : FI := fiOfFn Try.f43
noncomputable def body43 : Code := (fiOfFn Try.f43).body
theorem fn43 : E.fn 43 = some FI43 := by kernel_rfl
theorem bd43 : FI43.body = body43 := rfl
theorem rs43 : FI43.results = [.cell 2 133] := by kernel_rfl
theorem nt43 : FI43.nt = 11 := by kernel_rfl
noncomputable def FI44 : FI := fiOfFn Try.f44
noncomputable def body44 : Code := (fiOfFn Try.f44).body
theorem fn44 : E.fn 44 = some FI44 := by kernel_rfl
theorem bd44 : FI44.body = body44 := rfl
theorem rs44 : FI44.results = [.tmp 2] := by kernel_rfl
theorem nt44 : FI44.nt = 8 := by kernel_rfl
noncomputable def FI45 : FI := fiOfFn Try.f45
noncomputable def body45 : Code := (fiOfFn Try.f45).body
theorem fn45 : E.fn 45 = some FI45 := by kernel_rfl
theorem bd45 : FI45.body = body45 := rfl
theorem rs45 : FI45.results = [.tmp 0] := by kernel_rfl
theorem nt45 : FI45.nt = 3 := by kernel_rfl
noncomputable def FI46 : FI := fiOfFn Try.f46
noncomputable def body46 : Code := (fiOfFn Try.f46).body
theorem fn46 : E.fn 46 = some FI46 := by kernel_rfl
theorem bd46 : FI46.body = body46 := rfl
theorem rs46 : FI46.results = [.tmp 4, .tmp 5] := by kernel_rfl
theorem nt46 : FI46.nt = 32 := by kernel_rfl
noncomputable def FI47 : FI := fiOfFn Try.f47
noncomputable def body47 : Code := (fiOfFn Try.f47).body
theorem fn47 : E.fn 47 = some FI47 := by kernel_rfl
theorem bd47 : FI47.body = body47 := rfl
theorem rs47 : FI47.results = [.tmp 6] := by kernel_rfl
theorem nt47 : FI47.nt = 112 := by kernel_rfl
noncomputable def FI48 : FI := fiOfFn Try.f48
noncomputable def body48 : Code := (fiOfFn Try.f48).body
theorem fn48 : E.fn 48 = some FI48 := by kernel_rfl
theorem bd48 : FI48.body = body48 := rfl
theorem rs48 : FI48.results = [] := by kernel_rfl
theorem nt48 : FI48.nt = 45 := by kernel_rfl
noncomputable def FI49 : FI := fiOfFn Try.f49
noncomputable def body49 : Code := (fiOfFn Try.f49).body
theorem fn49 : E.fn 49 = some FI49 := by kernel_rfl
theorem bd49 : FI49.body = body49 := rfl
theorem rs49 : FI49.results = [.cell 2 59] := by kernel_rfl
theorem nt49 : FI49.nt = 13 := by kernel_rfl
noncomputable def FI50 : FI := fiOfFn Try.f50
noncomputable def body50 : Code := (fiOfFn Try.f50).body
theorem fn50 : E.fn 50 = some FI50 := by kernel_rfl
theorem bd50 : FI50.body = body50 := rfl
theorem rs50 : FI50.results = [.tmp 6, .tmp 7] := by kernel_rfl
theorem nt50 : FI50.nt = 62 := by kernel_rfl
noncomputable def FI51 : FI := fiOfFn Try.f51
noncomputable def body51 : Code := (fiOfFn Try.f51).body
theorem fn51 : E.fn 51 = some FI51 := by kernel_rfl
theorem bd51 : FI51.body = body51 := rfl
theorem rs51 : FI51.results = [.tmp 2] := by kernel_rfl
theorem nt51 : FI51.nt = 8 := by kernel_rfl
noncomputable def FI52 : FI := fiOfFn Try.f52
noncomputable def body52 : Code := (fiOfFn Try.f52).body
theorem fn52 : E.fn 52 = some FI52 := by kernel_rfl
theorem bd52 : FI52.body = body52 := rfl
theorem rs52 : FI52.results = [.tmp 2] := by kernel_rfl
theorem nt52 : FI52.nt = 12 := by kernel_rfl
noncomputable def FI53 : FI := fiOfFn Try.f53
noncomputable def body53 : Code := (fiOfFn Try.f53).body
theorem fn53 : E.fn 53 = some FI53 := by kernel_rfl
theorem bd53 : FI53.body = body53 := rfl
theorem rs53 : FI53.results = [] := by kernel_rfl
theorem nt53 : FI53.nt = 104 := by kernel_rfl
noncomputable def FI54 : FI := fiOfFn Try.f54
noncomputable def body54 : Code := (fiOfFn Try.f54).body
theorem fn54 : E.fn 54 = some FI54 := by kernel_rfl
theorem bd54 : FI54.body = body54 := rfl
theorem rs54 : FI54.results = [.tmp 5] := by kernel_rfl
theorem nt54 : FI54.nt = 21 := by kernel_rfl
noncomputable def FI55 : FI := fiOfFn Try.f55
noncomputable def body55 : Code := (fiOfFn Try.f55).body
theorem fn55 : E.fn 55 = some FI55 := by kernel_rfl
theorem bd55 : FI55.body = body55 := rfl
theorem rs55 : FI55.results = [.tmp 2] := by kernel_rfl
theorem nt55 : FI55.nt = 10 := by kernel_rfl
noncomputable def FI56 : FI := fiOfFn Try.f56
noncomputable def body56 : Code := (fiOfFn Try.f56).body
theorem fn56 : E.fn 56 = some FI56 := by kernel_rfl
theorem bd56 : FI56.body = body56 := rfl
theorem rs56 : FI56.results = [.cell 2 115, .tmp 3] := by kernel_rfl
theorem nt56 : FI56.nt = 20 := by kernel_rfl
noncomputable def FI57 : FI := fiOfFn Try.f57
noncomputable def body57 : Code := (fiOfFn Try.f57).body
theorem fn57 : E.fn 57 = some FI57 := by kernel_rfl
theorem bd57 : FI57.body = body57 := rfl
theorem rs57 : FI57.results = [.tmp 6] := by kernel_rfl
theorem nt57 : FI57.nt = 36 := by kernel_rfl
noncomputable def FI58 : FI := fiOfFn Try.f58
noncomputable def body58 : Code := (fiOfFn Try.f58).body
theorem fn58 : E.fn 58 = some FI58 := by kernel_rfl
theorem bd58 : FI58.body = body58 := rfl
theorem rs58 : FI58.results = [] := by kernel_rfl
theorem nt58 : FI58.nt = 6 := by kernel_rfl
noncomputable def FI59 : FI := fiOfFn Try.f59
noncomputable def body59 : Code := (fiOfFn Try.f59).body
theorem fn59 : E.fn 59 = some FI59 := by kernel_rfl
theorem bd59 : FI59.body = body59 := rfl
theorem rs59 : FI59.results = [] := by kernel_rfl
theorem nt59 : FI59.nt = 6 := by kernel_rfl
noncomputable def FI60 : FI := fiOfFn Try.f60
noncomputable def body60 : Code := (fiOfFn Try.f60).body
theorem fn60 : E.fn 60 = some FI60 := by kernel_rfl
theorem bd60 : FI60.body = body60 := rfl
theorem rs60 : FI60.results = [.tmp 2] := by kernel_rfl
theorem nt60 : FI60.nt = 37 := by kernel_rfl
noncomputable def FI61 : FI := fiOfFn Try.f61
noncomputable def body61 : Code := (fiOfFn Try.f61).body
theorem fn61 : E.fn 61 = some FI61 := by kernel_rfl
theorem bd61 : FI61.body = body61 := rfl
theorem rs61 : FI61.results = [.tmp 2] := by kernel_rfl
theorem nt61 : FI61.nt = 11 := by kernel_rfl
noncomputable def FI62 : FI := fiOfFn Try.f62
noncomputable def body62 : Code := (fiOfFn Try.f62).body
theorem fn62 : E.fn 62 = some FI62 := by kernel_rfl
theorem bd62 : FI62.body = body62 := rfl
theorem rs62 : FI62.results = [.cell 4 124] := by kernel_rfl
theorem nt62 : FI62.nt = 19 := by kernel_rfl
noncomputable def FI63 : FI := fiOfFn Try.f63
noncomputable def body63 : Code := (fiOfFn Try.f63).body
theorem fn63 : E.fn 63 = some FI63 := by kernel_rfl
theorem bd63 : FI63.body = body63 := rfl
theorem rs63 : FI63.results = [.tmp 2] := by kernel_rfl
theorem nt63 : FI63.nt = 48 := by kernel_rfl
noncomputable def FI64 : FI := fiOfFn Try.f64
noncomputable def body64 : Code := (fiOfFn Try.f64).body
theorem fn64 : E.fn 64 = some FI64 := by kernel_rfl
theorem bd64 : FI64.body = body64 := rfl
theorem rs64 : FI64.results = [.tmp 2] := by kernel_rfl
theorem nt64 : FI64.nt = 12 := by kernel_rfl
noncomputable def FI65 : FI := fiOfFn Try.f65
noncomputable def body65 : Code := (fiOfFn Try.f65).body
theorem fn65 : E.fn 65 = some FI65 := by kernel_rfl
theorem bd65 : FI65.body = body65 := rfl
theorem rs65 : FI65.results = [.tmp 2] := by kernel_rfl
theorem nt65 : FI65.nt = 5 := by kernel_rfl
noncomputable def FI66 : FI := fiOfFn Try.f66
noncomputable def body66 : Code := (fiOfFn Try.f66).body
theorem fn66 : E.fn 66 = some FI66 := by kernel_rfl
theorem bd66 : FI66.body = body66 := rfl
theorem rs66 : FI66.results = [.tmp 2] := by kernel_rfl
theorem nt66 : FI66.nt = 6 := by kernel_rfl
noncomputable def FI67 : FI := fiOfFn Try.f67
noncomputable def body67 : Code := (fiOfFn Try.f67).body
theorem fn67 : E.fn 67 = some FI67 := by kernel_rfl
theorem bd67 : FI67.body = body67 := rfl
theorem rs67 : FI67.results = [.tmp 2] := by kernel_rfl
theorem nt67 : FI67.nt = 12 := by kernel_rfl
noncomputable def FI68 : FI := fiOfFn Try.f68
noncomputable def body68 : Code := (fiOfFn Try.f68).body
theorem fn68 : E.fn 68 = some FI68 := by kernel_rfl
theorem bd68 : FI68.body = body68 := rfl
theorem rs68 : FI68.results = [.tmp 4] := by kernel_rfl
theorem nt68 : FI68.nt = 61 := by kernel_rfl
noncomputable def FI69 : FI := fiOfFn Try.f69
noncomputable def body69 : Code := (fiOfFn Try.f69).body
theorem fn69 : E.fn 69 = some FI69 := by kernel_rfl
theorem bd69 : FI69.body = body69 := rfl
theorem rs69 : FI69.results = [.tmp 4, .tmp 5] := by kernel_rfl
theorem nt69 : FI69.nt = 44 := by kernel_rfl
noncomputable def FI70 : FI := fiOfFn Try.f70
noncomputable def body70 : Code := (fiOfFn Try.f70).body
theorem fn70 : E.fn 70 = some FI70 := by kernel_rfl
theorem bd70 : FI70.body = body70 := rfl
theorem rs70 : FI70.results = [.tmp 8] := by kernel_rfl
theorem nt70 : FI70.nt = 14 := by kernel_rfl
noncomputable def FI71 : FI := fiOfFn Try.f71
noncomputable def body71 : Code := (fiOfFn Try.f71).body
theorem fn71 : E.fn 71 = some FI71 := by kernel_rfl
theorem bd71 : FI71.body = body71 := rfl
theorem rs71 : FI71.results = [.tmp 4] := by kernel_rfl
theorem nt71 : FI71.nt = 8 := by kernel_rfl
noncomputable def FI72 : FI := fiOfFn Try.f72
noncomputable def body72 : Code := (fiOfFn Try.f72).body
theorem fn72 : E.fn 72 = some FI72 := by kernel_rfl
theorem bd72 : FI72.body = body72 := rfl
theorem rs72 : FI72.results = [.tmp 4] := by kernel_rfl
theorem nt72 : FI72.nt = 8 := by kernel_rfl
noncomputable def FI73 : FI := fiOfFn Try.f73
noncomputable def body73 : Code := (fiOfFn Try.f73).body
theorem fn73 : E.fn 73 = some FI73 := by kernel_rfl
theorem bd73 : FI73.body = body73 := rfl
theorem rs73 : FI73.results = [.tmp 4] := by kernel_rfl
theorem nt73 : FI73.nt = 10 := by kernel_rfl
noncomputable def FI74 : FI := fiOfFn Try.f74
noncomputable def body74 : Code := (fiOfFn Try.f74).body
theorem fn74 : E.fn 74 = some FI74 := by kernel_rfl
theorem bd74 : FI74.body = body74 := rfl
theorem rs74 : FI74.results = [.tmp 4] := by kernel_rfl
theorem nt74 : FI74.nt = 8 := by kernel_rfl
noncomputable def FI75 : FI := fiOfFn Try.f75
noncomputable def body75 : Code := (fiOfFn Try.f75).body
theorem fn75 : E.fn 75 = some FI75 := by kernel_rfl
theorem bd75 : FI75.body = body75 := rfl
theorem rs75 : FI75.results = [.tmp 2] := by kernel_rfl
theorem nt75 : FI75.nt = 12 := by kernel_rfl
noncomputable def FI76 : FI := fiOfFn Try.f76
noncomputable def body76 : Code := (fiOfFn Try.f76).body
theorem fn76 : E.fn 76 = some FI76 := by kernel_rfl
theorem bd76 : FI76.body = body76 := rfl
theorem rs76 : FI76.results = [.tmp 2] := by kernel_rfl
theorem nt76 : FI76.nt = 8 := by kernel_rfl
noncomputable def FI77 : FI := fiOfFn Try.f77
noncomputable def body77 : Code := (fiOfFn Try.f77).body
theorem fn77 : E.fn 77 = some FI77 := by kernel_rfl
theorem bd77 : FI77.body = body77 := rfl
theorem rs77 : FI77.results = [.cell 2 124] := by kernel_rfl
theorem nt77 : FI77.nt = 8 := by kernel_rfl
noncomputable def FI78 : FI := fiOfFn Try.f78
noncomputable def body78 : Code := (fiOfFn Try.f78).body
theorem fn78 : E.fn 78 = some FI78 := by kernel_rfl
theorem bd78 : FI78.body = body78 := rfl
theorem rs78 : FI78.results = [.tmp 2] := by kernel_rfl
theorem nt78 : FI78.nt = 40 := by kernel_rfl
noncomputable def FI79 : FI := fiOfFn Try.f79
noncomputable def body79 : Code := (fiOfFn Try.f79).body
theorem fn79 : E.fn 79 = some FI79 := by kernel_rfl
theorem bd79 : FI79.body = body79 := rfl
theorem rs79 : FI79.results = [.tmp 4] := by kernel_rfl
theorem nt79 : FI79.nt = 13 := by kernel_rfl
noncomputable def FI80 : FI := fiOfFn Try.f80
noncomputable def body80 : Code := (fiOfFn Try.f80).body
theorem fn80 : E.fn 80 = some FI80 := by kernel_rfl
theorem bd80 : FI80.body = body80 := rfl
theorem rs80 : FI80.results = [] := by kernel_rfl
theorem nt80 : FI80.nt = 30 := by kernel_rfl
noncomputable def FI81 : FI := fiOfFn Try.f81
noncomputable def body81 : Code := (fiOfFn Try.f81).body
theorem fn81 : E.fn 81 = some FI81 := by kernel_rfl
theorem bd81 : FI81.body = body81 := rfl
theorem rs81 : FI81.results = [] := by kernel_rfl
theorem nt81 : FI81.nt = 18 := by kernel_rfl
noncomputable def FI82 : FI := fiOfFn Try.f82
noncomputable def body82 : Code := (fiOfFn Try.f82).body
theorem fn82 : E.fn 82 = some FI82 := by kernel_rfl
theorem bd82 : FI82.body = body82 := rfl
theorem rs82 : FI82.results = [.tmp 4] := by kernel_rfl
theorem nt82 : FI82.nt = 8 := by kernel_rfl
noncomputable def FI83 : FI := fiOfFn Try.f83
noncomputable def body83 : Code := (fiOfFn Try.f83).body
theorem fn83 : E.fn 83 = some FI83 := by kernel_rfl
theorem bd83 : FI83.body = body83 := rfl
theorem rs83 : FI83.results = [.tmp 2] := by kernel_rfl
theorem nt83 : FI83.nt = 12 := by kernel_rfl
noncomputable def FI84 : FI := fiOfFn Try.f84
noncomputable def body84 : Code := (fiOfFn Try.f84).body
theorem fn84 : E.fn 84 = some FI84 := by kernel_rfl
theorem bd84 : FI84.body = body84 := rfl
theorem rs84 : FI84.results = [.tmp 2] := by kernel_rfl
theorem nt84 : FI84.nt = 8 := by kernel_rfl
theorem ty2 : E.ty 2 = some t2 := by kernel_rfl
theorem ty3 : E.ty 3 = some t3 := by kernel_rfl
theorem ty4 : E.ty 4 = some t4 := by kernel_rfl
theorem ty5 : E.ty 5 = some t5 := by kernel_rfl
theorem ty9 : E.ty 9 = some t9 := by kernel_rfl
theorem ty22 : E.ty 22 = some t22 := by kernel_rfl
theorem ty23 : E.ty 23 = some t23 := by kernel_rfl
theorem ty25 : E.ty 25 = some t25 := by kernel_rfl
theorem ty26 : E.ty 26 = some t26 := by kernel_rfl
theorem ty27 : E.ty 27 = some t27 := by kernel_rfl
theorem ty28 : E.ty 28 = some t28 := by kernel_rfl
theorem ty33 : E.ty 33 = some t33 := by kernel_rfl
theorem ty34 : E.ty 34 = some t34 := by kernel_rfl
theorem ty43 : E.ty 43 = some t43 := by kernel_rfl
theorem ty45 : E.ty 45 = some t45 := by kernel_rfl
theorem ty46 : E.ty 46 = some t46 := by kernel_rfl
theorem ty47 : E.ty 47 = some t47 := by kernel_rfl
theorem ty49 : E.ty 49 = some t49 := by kernel_rfl
theorem ty51 : E.ty 51 = some t51 := by kernel_rfl
theorem ty52 : E.ty 52 = some t52 := by kernel_rfl
theorem ty54 : E.ty 54 = some t54 := by kernel_rfl
theorem ty57 : E.ty 57 = some t57 := by kernel_rfl
theorem ty59 : E.ty 59 = some t59 := by kernel_rfl
theorem ty61 : E.ty 61 = some t61 := by kernel_rfl
theorem ty66 : E.ty 66 = some t66 := by kernel_rfl
theorem ty67 : E.ty 67 = some t67 := by kernel_rfl
theorem ty68 : E.ty 68 = some t68 := by kernel_rfl
theorem ty69 : E.ty 69 = some t69 := by kernel_rfl
theorem ty71 : E.ty 71 = some t71 := by kernel_rfl
theorem ty72 : E.ty 72 = some t72 := by kernel_rfl
theorem ty73 : E.ty 73 = some t73 := by kernel_rfl
theorem ty75 : E.ty 75 = some t75 := by kernel_rfl
theorem ty76 : E.ty 76 = some t76 := by kernel_rfl
theorem ty78 : E.ty 78 = some t78 := by kernel_rfl
theorem ty82 : E.ty 82 = some t82 := by kernel_rfl
theorem ty84 : E.ty 84 = some t84 := by kernel_rfl
theorem ty87 : E.ty 87 = some t87 := by kernel_rfl
theorem ty88 : E.ty 88 = some t88 := by kernel_rfl
theorem ty89 : E.ty 89 = some t89 := by kernel_rfl
theorem ty90 : E.ty 90 = some t90 := by kernel_rfl
theorem ty92 : E.ty 92 = some t92 := by kernel_rfl
theorem ty95 : E.ty 95 = some t95 := by kernel_rfl
theorem ty98 : E.ty 98 = some t98 := by kernel_rfl
theorem ty102 : E.ty 102 = some t102 := by kernel_rfl
theorem ty103 : E.ty 103 = some t103 := by kernel_rfl
theorem ty112 : E.ty 112 = some t112 := by kernel_rfl
theorem ty113 : E.ty 113 = some t113 := by kernel_rfl
theorem ty115 : E.ty 115 = some t115 := by kernel_rfl
theorem ty120 : E.ty 120 = some t120 := by kernel_rfl
theorem ty121 : E.ty 121 = some t121 := by kernel_rfl
theorem ty122 : E.ty 122 = some t122 := by kernel_rfl
theorem ty124 : E.ty 124 = some t124 := by kernel_rfl
theorem ty128 : E.ty 128 = some t128 := by kernel_rfl
theorem ty131 : E.ty 131 = some t131 := by kernel_rfl
theorem ty133 : E.ty 133 = some t133 := by kernel_rfl
theorem ty135 : E.ty 135 = some t135 := by kernel_rfl
theorem ty137 : E.ty 137 = some t137 := by kernel_rfl
theorem ty139 : E.ty 139 = some t139 := by kernel_rfl
theorem ty142 : E.ty 142 = some t142 := by kernel_rfl
theorem ty143 : E.ty 143 = some t143 := by kernel_rfl
theorem ty145 : E.ty 145 = some t145 := by kernel_rfl
theorem ty147 : E.ty 147 = some t147 := by kernel_rfl
theorem ty148 : E.ty 148 = some t148 := by kernel_rfl
theorem ty151 : E.ty 151 = some t151 := by kernel_rfl
theorem ty152 : E.ty 152 = some t152 := by kernel_rfl
theorem ty154 : E.ty 154 = some t154 := by kernel_rfl
theorem ty158 : E.ty 158 = some t158 := by kernel_rfl
theorem ty164 : E.ty 164 = some t164 := by kernel_rfl
theorem ty172 : E.ty 172 = some t172 := by kernel_rfl
theorem ty173 : E.ty 173 = some t173 := by kernel_rfl
theorem ty175 : E.ty 175 = some t175 := by kernel_rfl
theorem ty176 : E.ty 176 = some t176 := by kernel_rfl
theorem ty178 : E.ty 178 = some t178 := by kernel_rfl
theorem ty185 : E.ty 185 = some t185 := by kernel_rfl
theorem ty190 : E.ty 190 = some t190 := by kernel_rfl
theorem ty193 : E.ty 193 = some t193 := by kernel_rfl
theorem ty195 : E.ty 195 = some t195 := by kernel_rfl
theorem ty196 : E.ty 196 = some t196 := by kernel_rfl
theorem ty213 : E.ty 213 = some t213 := by kernel_rfl
theorem ty215 : E.ty 215 = some t215 := by kernel_rfl
theorem ng_eq : E.ng = 0 := rfl
theorem ext_eq (f : Nat) : E.ext f = .none := rfl
end Go.Proofs.Ytfcakcaepbmefaa
