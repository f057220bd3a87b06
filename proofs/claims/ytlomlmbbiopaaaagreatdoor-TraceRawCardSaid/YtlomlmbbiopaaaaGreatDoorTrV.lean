/-
  Several texts in one: TrY1, TrK2a, TrK2b, TrK2c, TrY2, TrK3a, TrK3b, TrY3, TrK4a, TrY4, TrK5a, TrY5, TrW.
-/
import Derived.Test.YtlomlmbbiopaaaaGreatDoorTrK1p
import Derived.Test.YtlomlmbbiopaaaaGreatDoorTrK1q
import Derived.Test.YtlomlmbbiopaaaaGreatDoorTrK1r
import Derived.Test.YtlomlmbbiopaaaaGreatDoorTrK1s
namespace Go.Proofs.YtlomlmbbiopaaaaGreatDoor
open Go.RowKit Go.Sx Go.Ev
set_option linter.unusedVariables false
set_option linter.unusedSimpArgs false
set_option linter.unnecessarySimpa false
set_option maxRecDepth 100000
noncomputable def tab1:List Key:=[k88_13,k316_1238,k316_1361,k316_1488,k316_1611,k88_2036,k316_3261,k316_3384,k316_3511,k316_3634,k88_4059,k316_5284,k316_5407,k316_5534,k316_5657,k289_6320,k88_6879,k316_8104,k316_8227,k316_8354,k316_8477,k88_8902,k316_10127,k316_10250,k316_10377,k316_10500,k88_10925,k316_12150,k316_12273,k316_12400,k316_12523,k289_13187]
theorem tab1_ok:∀ e∈tab1,KeyOK Tryz.prog tabG e:=by
 intro e he
 simp only [tab1,List.mem_cons,List.not_mem_nil,or_false] at he
 rcases he with rfl|rfl|rfl|rfl|rfl|rfl|rfl|rfl|rfl|rfl|rfl|rfl|rfl|rfl|rfl|rfl|rfl|rfl|rfl|rfl|rfl|rfl|rfl|rfl|rfl|rfl|rfl|rfl|rfl|rfl|rfl|rfl
 ·exact k88_13_ok
 ·exact k316_1238_ok
 ·exact k316_1361_ok
 ·exact k316_1488_ok
 ·exact k316_1611_ok
 ·exact k88_2036_ok
 ·exact k316_3261_ok
 ·exact k316_3384_ok
 ·exact k316_3511_ok
 ·exact k316_3634_ok
 ·exact k88_4059_ok
 ·exact k316_5284_ok
 ·exact k316_5407_ok
 ·exact k316_5534_ok
 ·exact k316_5657_ok
 ·exact k289_6320_ok
 ·exact k88_6879_ok
 ·exact k316_8104_ok
 ·exact k316_8227_ok
 ·exact k316_8354_ok
 ·exact k316_8477_ok
 ·exact k88_8902_ok
 ·exact k316_10127_ok
 ·exact k316_10250_ok
 ·exact k316_10377_ok
 ·exact k316_10500_ok
 ·exact k88_10925_ok
 ·exact k316_12150_ok
 ·exact k316_12273_ok
 ·exact k316_12400_ok
 ·exact k316_12523_ok
 ·exact k289_13187_ok
noncomputable def Y1:Specs:=withKeys Tryz.prog tabG plans X1 100000 tab1
theorem y1_ok:SpecsOK Tryz.prog tabG Y1:=withKeys_ok x1_ok hpl mix 100000 tab1_ok
noncomputable def k162_1113:Key:=⟨162,[.ptr 12 0,.num .i64 0],[(10,dB1),(11,dB1),(12,dB0)],1113,.tup [.ptr 1113 0,.num .i64 0],[(10,dB1),(11,dB1),(12,dB0),(1113,dB2),(1235,.cells [])],1361⟩
theorem k162_1113_ok:KeyOK Tryz.prog tabG k162_1113:=KeyOK.of y1_ok hpl mix 100000 (by kernel_rfl) (by kernel_rfl:knownB Tryz.prog tabG plans Y1 100000 k162_1113=true)
noncomputable def k162_1363:Key:=⟨162,[.ptr 12 0,.num .i64 20],[(10,dB1),(11,dB1),(12,dB0)],1363,.tup [.ptr 1363 0,.num .i64 0],[(10,dB1),(11,dB1),(12,dB0),(1363,.cells [.ptr 12 0,.num .i64 20,.sl 1485 0 0 0 true,.num .i64 0,.bool false]),(1485,.cells [])],1611⟩
theorem k162_1363_ok:KeyOK Tryz.prog tabG k162_1363:=KeyOK.of y1_ok hpl mix 100000 (by kernel_rfl) (by kernel_rfl:knownB Tryz.prog tabG plans Y1 100000 k162_1363=true)
noncomputable def k162_3136:Key:=⟨162,[.ptr 2035 0,.num .i64 0],[(2033,dB1),(2034,dB1),(2035,dB5)],3136,.tup [.ptr 3136 0,.num .i64 0],[(2033,dB1),(2034,dB1),(2035,dB5),(3136,dB6),(3258,.cells [])],3384⟩
theorem k162_3136_ok:KeyOK Tryz.prog tabG k162_3136:=KeyOK.of y1_ok hpl mix 100000 (by kernel_rfl) (by kernel_rfl:knownB Tryz.prog tabG plans Y1 100000 k162_3136=true)
noncomputable def k162_3386:Key:=⟨162,[.ptr 2035 0,.num .i64 20],[(2033,dB1),(2034,dB1),(2035,dB5)],3386,.tup [.ptr 3386 0,.num .i64 0],[(2033,dB1),(2034,dB1),(2035,dB5),(3386,.cells [.ptr 2035 0,.num .i64 20,.sl 3508 0 0 0 true,.num .i64 0,.bool false]),(3508,.cells [])],3634⟩
theorem k162_3386_ok:KeyOK Tryz.prog tabG k162_3386:=KeyOK.of y1_ok hpl mix 100000 (by kernel_rfl) (by kernel_rfl:knownB Tryz.prog tabG plans Y1 100000 k162_3386=true)
noncomputable def k162_5159:Key:=⟨162,[.ptr 4058 0,.num .i64 0],[(4056,dB1),(4057,dB1),(4058,dB8)],5159,.tup [.ptr 5159 0,.num .i64 0],[(4056,dB1),(4057,dB1),(4058,dB8),(5159,dB9),(5281,.cells [])],5407⟩
theorem k162_5159_ok:KeyOK Tryz.prog tabG k162_5159:=KeyOK.of y1_ok hpl mix 100000 (by kernel_rfl) (by kernel_rfl:knownB Tryz.prog tabG plans Y1 100000 k162_5159=true)
noncomputable def k162_5409:Key:=⟨162,[.ptr 4058 0,.num .i64 20],[(4056,dB1),(4057,dB1),(4058,dB8)],5409,.tup [.ptr 5409 0,.num .i64 0],[(4056,dB1),(4057,dB1),(4058,dB8),(5409,.cells [.ptr 4058 0,.num .i64 20,.sl 5531 0 0 0 true,.num .i64 0,.bool false]),(5531,.cells [])],5657⟩
theorem k162_5409_ok:KeyOK Tryz.prog tabG k162_5409:=KeyOK.of y1_ok hpl mix 100000 (by kernel_rfl) (by kernel_rfl:knownB Tryz.prog tabG plans Y1 100000 k162_5409=true)
noncomputable def k162_7979:Key:=⟨162,[.ptr 6878 0,.num .i64 0],[(6876,dB1),(6877,dB1),(6878,dB26)],7979,.tup [.ptr 7979 0,.num .i64 0],[(6876,dB1),(6877,dB1),(6878,dB26),(7979,dB27),(8101,.cells [])],8227⟩
theorem k162_7979_ok:KeyOK Tryz.prog tabG k162_7979:=KeyOK.of y1_ok hpl mix 100000 (by kernel_rfl) (by kernel_rfl:knownB Tryz.prog tabG plans Y1 100000 k162_7979=true)
noncomputable def k162_8229:Key:=⟨162,[.ptr 6878 0,.num .i64 20],[(6876,dB1),(6877,dB1),(6878,dB26)],8229,.tup [.ptr 8229 0,.num .i64 0],[(6876,dB1),(6877,dB1),(6878,dB26),(8229,.cells [.ptr 6878 0,.num .i64 20,.sl 8351 0 0 0 true,.num .i64 0,.bool false]),(8351,.cells [])],8477⟩
theorem k162_8229_ok:KeyOK Tryz.prog tabG k162_8229:=KeyOK.of y1_ok hpl mix 100000 (by kernel_rfl) (by kernel_rfl:knownB Tryz.prog tabG plans Y1 100000 k162_8229=true)
noncomputable def k162_10002:Key:=⟨162,[.ptr 8901 0,.num .i64 0],[(8899,dB1),(8900,dB1),(8901,dB29)],10002,.tup [.ptr 10002 0,.num .i64 0],[(8899,dB1),(8900,dB1),(8901,dB29),(10002,dB30),(10124,.cells [])],10250⟩
theorem k162_10002_ok:KeyOK Tryz.prog tabG k162_10002:=KeyOK.of y1_ok hpl mix 100000 (by kernel_rfl) (by kernel_rfl:knownB Tryz.prog tabG plans Y1 100000 k162_10002=true)
noncomputable def k162_10252:Key:=⟨162,[.ptr 8901 0,.num .i64 20],[(8899,dB1),(8900,dB1),(8901,dB29)],10252,.tup [.ptr 10252 0,.num .i64 0],[(8899,dB1),(8900,dB1),(8901,dB29),(10252,.cells [.ptr 8901 0,.num .i64 20,.sl 10374 0 0 0 true,.num .i64 0,.bool false]),(10374,.cells [])],10500⟩
theorem k162_10252_ok:KeyOK Tryz.prog tabG k162_10252:=KeyOK.of y1_ok hpl mix 100000 (by kernel_rfl) (by kernel_rfl:knownB Tryz.prog tabG plans Y1 100000 k162_10252=true)
noncomputable def k162_12025:Key:=⟨162,[.ptr 10924 0,.num .i64 0],[(10922,dB1),(10923,dB1),(10924,dB32)],12025,.tup [.ptr 12025 0,.num .i64 0],[(10922,dB1),(10923,dB1),(10924,dB32),(12025,dB33),(12147,.cells [])],12273⟩
theorem k162_12025_ok:KeyOK Tryz.prog tabG k162_12025:=KeyOK.of y1_ok hpl mix 100000 (by kernel_rfl) (by kernel_rfl:knownB Tryz.prog tabG plans Y1 100000 k162_12025=true)
noncomputable def k162_12275:Key:=⟨162,[.ptr 10924 0,.num .i64 20],[(10922,dB1),(10923,dB1),(10924,dB32)],12275,.tup [.ptr 12275 0,.num .i64 0],[(10922,dB1),(10923,dB1),(10924,dB32),(12275,.cells [.ptr 10924 0,.num .i64 20,.sl 12397 0 0 0 true,.num .i64 0,.bool false]),(12397,.cells [])],12523⟩
theorem k162_12275_ok:KeyOK Tryz.prog tabG k162_12275:=KeyOK.of y1_ok hpl mix 100000 (by kernel_rfl) (by kernel_rfl:knownB Tryz.prog tabG plans Y1 100000 k162_12275=true)
noncomputable def tab2:List Key:=[k162_1113,k162_1363,k162_3136,k162_3386,k162_5159,k162_5409,k162_7979,k162_8229,k162_10002,k162_10252,k162_12025,k162_12275]
theorem tab2_ok:∀ e∈tab2,KeyOK Tryz.prog tabG e:=by
 intro e he
 simp only [tab2,List.mem_cons,List.not_mem_nil,or_false] at he
 rcases he with rfl|rfl|rfl|rfl|rfl|rfl|rfl|rfl|rfl|rfl|rfl|rfl
 ·exact k162_1113_ok
 ·exact k162_1363_ok
 ·exact k162_3136_ok
 ·exact k162_3386_ok
 ·exact k162_5159_ok
 ·exact k162_5409_ok
 ·exact k162_7979_ok
 ·exact k162_8229_ok
 ·exact k162_10002_ok
 ·exact k162_10252_ok
 ·exact k162_12025_ok
 ·exact k162_12275_ok
noncomputable def Y2:Specs:=withKeys Tryz.prog tabG plans Y1 100000 tab2
theorem y2_ok:SpecsOK Tryz.prog tabG Y2:=withKeys_ok y1_ok hpl mix 100000 tab2_ok
noncomputable def k117_1363:Key:=⟨117,[.ptr 12 0,.num .i64 20,.num .i64 8192],[(10,dB1),(11,dB1),(12,dB0)],1363,.tup [.ptr 2014 0,.flat (.slice none 0 0),.num .i64 0],[(10,dB3),(11,dB3),(12,dB0),(2014,dB4)],2026⟩
theorem k117_1363_ok:KeyOK Tryz.prog tabG k117_1363:=KeyOK.of y2_ok hpl mix 100000 (by kernel_rfl) (by kernel_rfl:knownB Tryz.prog tabG plans Y2 100000 k117_1363=true)
noncomputable def k117_3386:Key:=⟨117,[.ptr 2035 0,.num .i64 20,.num .i64 8192],[(2033,dB1),(2034,dB1),(2035,dB5)],3386,.tup [.ptr 4037 0,.flat (.slice none 0 0),.num .i64 0],[(2033,dB3),(2034,dB3),(2035,dB5),(4037,dB7)],4049⟩
theorem k117_3386_ok:KeyOK Tryz.prog tabG k117_3386:=KeyOK.of y2_ok hpl mix 100000 (by kernel_rfl) (by kernel_rfl:knownB Tryz.prog tabG plans Y2 100000 k117_3386=true)
noncomputable def k117_5409:Key:=⟨117,[.ptr 4058 0,.num .i64 20,.num .i64 8192],[(4056,dB1),(4057,dB1),(4058,dB8)],5409,.tup [.ptr 6060 0,.flat (.slice none 0 0),.num .i64 0],[(4056,dB3),(4057,dB3),(4058,dB8),(6060,dB10)],6072⟩
theorem k117_5409_ok:KeyOK Tryz.prog tabG k117_5409:=KeyOK.of y2_ok hpl mix 100000 (by kernel_rfl) (by kernel_rfl:knownB Tryz.prog tabG plans Y2 100000 k117_5409=true)
noncomputable def k117_8229:Key:=⟨117,[.ptr 6878 0,.num .i64 20,.num .i64 8192],[(6876,dB1),(6877,dB1),(6878,dB26)],8229,.tup [.ptr 8880 0,.flat (.slice none 0 0),.num .i64 0],[(6876,dB3),(6877,dB3),(6878,dB26),(8880,dB28)],8892⟩
theorem k117_8229_ok:KeyOK Tryz.prog tabG k117_8229:=KeyOK.of y2_ok hpl mix 100000 (by kernel_rfl) (by kernel_rfl:knownB Tryz.prog tabG plans Y2 100000 k117_8229=true)
noncomputable def k117_10252:Key:=⟨117,[.ptr 8901 0,.num .i64 20,.num .i64 8192],[(8899,dB1),(8900,dB1),(8901,dB29)],10252,.tup [.ptr 10903 0,.flat (.slice none 0 0),.num .i64 0],[(8899,dB3),(8900,dB3),(8901,dB29),(10903,dB31)],10915⟩
theorem k117_10252_ok:KeyOK Tryz.prog tabG k117_10252:=KeyOK.of y2_ok hpl mix 100000 (by kernel_rfl) (by kernel_rfl:knownB Tryz.prog tabG plans Y2 100000 k117_10252=true)
noncomputable def k117_12275:Key:=⟨117,[.ptr 10924 0,.num .i64 20,.num .i64 8192],[(10922,dB1),(10923,dB1),(10924,dB32)],12275,.tup [.ptr 12926 0,.flat (.slice none 0 0),.num .i64 0],[(10922,dB3),(10923,dB3),(10924,dB32),(12926,dB34)],12938⟩
theorem k117_12275_ok:KeyOK Tryz.prog tabG k117_12275:=KeyOK.of y2_ok hpl mix 100000 (by kernel_rfl) (by kernel_rfl:knownB Tryz.prog tabG plans Y2 100000 k117_12275=true)
noncomputable def tab3:List Key:=[k117_1363,k117_3386,k117_5409,k117_8229,k117_10252,k117_12275]
theorem tab3_ok:∀ e∈tab3,KeyOK Tryz.prog tabG e:=by
 intro e he
 simp only [tab3,List.mem_cons,List.not_mem_nil,or_false] at he
 rcases he with rfl|rfl|rfl|rfl|rfl|rfl
 ·exact k117_1363_ok
 ·exact k117_3386_ok
 ·exact k117_5409_ok
 ·exact k117_8229_ok
 ·exact k117_10252_ok
 ·exact k117_12275_ok
noncomputable def Y3:Specs:=withKeys Tryz.prog tabG plans Y2 100000 tab3
theorem y3_ok:SpecsOK Tryz.prog tabG Y3:=withKeys_ok y2_ok hpl mix 100000 tab3_ok
noncomputable def k50_0:Key:=⟨50,[.num .i64 3],[],0,.tup [.ptr 1 0,.num .i64 0],[(0,dB11),(1,.cells [.sl 6078 0 3 0 false,.ptr 2 0,.ptr 3 0,.ptr 4 0,.ptr 5 0,.ptr 6 0,.ptr 7 0,.ptr 8 0,.ptr 9 0,.ptr 0 0,.num .u64 0]),(2,dB12),(3,dB13),(4,dB14),(5,dB15),(6,dB16),(7,dB17),(8,dB18),(9,dB19),(10,dB3),(11,dB3),(12,dB0),(992,.cells [.num .i64 3,.num .i64 1,.ptr 1007 0,.ptr 1361 0,.ptr 2014 0,.num .i64 0]),(998,.map [] 0),(999,.cells [.mp 998]),(1000,.map [] 0),(1001,.cells [.mp 1000]),(1002,dB20),(1003,.cells [.ptr 1001 0,.ptr 1002 0,.num .u64 0]),(1004,.map [] 0),(1005,.cells [.flat (.slice none 0 0),.ptr 1003 0,.flat (.slice none 0 0),.mp 1004]),(1006,dB21),(1007,.cells [.num .i64 3,.num .i64 1,.ptr 1011 0,.ptr 999 0,.ptr 1016 0,.ptr 1033 0,.ptr 1035 0,.ptr 1005 0,.ptr 1006 0,.flat (.slice none 0 0),.flat (.slice none 0 0),.num .u64 0]),(1011,dB22),(1012,.map [((.int .u64 (0)),.ptr 1014 0,0)] 1),(1013,.map [] 0),(1014,.cells [.num .u64 0,.num .i64 0,.flat (.slice none 0 0),.flat (.slice none 0 0),.mp 1013]),(1015,dB23),(1016,.cells (ap [.num .i64 3] (ap (rp 11 (.num .u64 0)) [.mp 1012,.sl 1031 0 3 0 false,.sl 1015 0 3 3 true]))),(1017,.cells [.num .u64 0]),(1018,dB24),(1019,.cells [.num .u64 0,.sl 1017 0 1 1 true,.mp 1018]),(1022,.cells [.num .u64 0]),(1023,dB24),(1024,.cells [.num .u64 0,.sl 1022 0 1 1 true,.mp 1023]),(1027,.cells [.num .u64 0]),(1028,dB24),(1029,.cells [.num .u64 0,.sl 1027 0 1 1 true,.mp 1028]),(1031,.buf [.ptr 1019 0,.ptr 1024 0,.ptr 1029 0] 1),(1032,.map [] 0),(1033,.cells [.num .i64 3,.mp 1032]),(1035,dB25),(1113,dB2),(1235,.cells []),(1361,.cells [.ptr 1113 0,.num .i64 1,.num .u64 0,.flat (.slice none 0 0)]),(2014,dB4),(2030,.cells [.ptr 12 0,.ptr 992 0]),(2033,dB3),(2034,dB3),(2035,dB5),(3015,.cells [.num .i64 3,.num .i64 2,.ptr 3030 0,.ptr 3384 0,.ptr 4037 0,.num .i64 0]),(3021,.map [] 0),(3022,.cells [.mp 3021]),(3023,.map [] 0),(3024,.cells [.mp 3023]),(3025,dB20),(3026,.cells [.ptr 3024 0,.ptr 3025 0,.num .u64 0]),(3027,.map [] 0),(3028,.cells [.flat (.slice none 0 0),.ptr 3026 0,.flat (.slice none 0 0),.mp 3027]),(3029,dB21),(3030,.cells [.num .i64 3,.num .i64 2,.ptr 3034 0,.ptr 3022 0,.ptr 3039 0,.ptr 3056 0,.ptr 3058 0,.ptr 3028 0,.ptr 3029 0,.flat (.slice none 0 0),.flat (.slice none 0 0),.num .u64 0]),(3034,dB22),(3035,.map [((.int .u64 (0)),.ptr 3037 0,0)] 1),(3036,.map [] 0),(3037,.cells [.num .u64 0,.num .i64 0,.flat (.slice none 0 0),.flat (.slice none 0 0),.mp 3036]),(3038,dB23),(3039,.cells (ap [.num .i64 3] (ap (rp 11 (.num .u64 0)) [.mp 3035,.sl 3054 0 3 0 false,.sl 3038 0 3 3 true]))),(3040,.cells [.num .u64 0]),(3041,dB24),(3042,.cells [.num .u64 0,.sl 3040 0 1 1 true,.mp 3041]),(3045,.cells [.num .u64 0]),(3046,dB24),(3047,.cells [.num .u64 0,.sl 3045 0 1 1 true,.mp 3046]),(3050,.cells [.num .u64 0]),(3051,dB24),(3052,.cells [.num .u64 0,.sl 3050 0 1 1 true,.mp 3051]),(3054,.buf [.ptr 3042 0,.ptr 3047 0,.ptr 3052 0] 1),(3055,.map [] 0),(3056,.cells [.num .i64 3,.mp 3055]),(3058,dB25),(3136,dB6),(3258,.cells []),(3384,.cells [.ptr 3136 0,.num .i64 2,.num .u64 0,.flat (.slice none 0 0)]),(4037,dB7),(4053,.cells [.ptr 2035 0,.ptr 3015 0]),(4056,dB3),(4057,dB3),(4058,dB8),(5038,.cells [.num .i64 3,.num .i64 3,.ptr 5053 0,.ptr 5407 0,.ptr 6060 0,.num .i64 0]),(5044,.map [] 0),(5045,.cells [.mp 5044]),(5046,.map [] 0),(5047,.cells [.mp 5046]),(5048,dB20),(5049,.cells [.ptr 5047 0,.ptr 5048 0,.num .u64 0]),(5050,.map [] 0),(5051,.cells [.flat (.slice none 0 0),.ptr 5049 0,.flat (.slice none 0 0),.mp 5050]),(5052,dB21),(5053,.cells [.num .i64 3,.num .i64 3,.ptr 5057 0,.ptr 5045 0,.ptr 5062 0,.ptr 5079 0,.ptr 5081 0,.ptr 5051 0,.ptr 5052 0,.flat (.slice none 0 0),.flat (.slice none 0 0),.num .u64 0]),(5057,dB22),(5058,.map [((.int .u64 (0)),.ptr 5060 0,0)] 1),(5059,.map [] 0),(5060,.cells [.num .u64 0,.num .i64 0,.flat (.slice none 0 0),.flat (.slice none 0 0),.mp 5059]),(5061,dB23),(5062,.cells (ap [.num .i64 3] (ap (rp 11 (.num .u64 0)) [.mp 5058,.sl 5077 0 3 0 false,.sl 5061 0 3 3 true]))),(5063,.cells [.num .u64 0]),(5064,dB24),(5065,.cells [.num .u64 0,.sl 5063 0 1 1 true,.mp 5064]),(5068,.cells [.num .u64 0]),(5069,dB24),(5070,.cells [.num .u64 0,.sl 5068 0 1 1 true,.mp 5069]),(5073,.cells [.num .u64 0]),(5074,dB24),(5075,.cells [.num .u64 0,.sl 5073 0 1 1 true,.mp 5074]),(5077,.buf [.ptr 5065 0,.ptr 5070 0,.ptr 5075 0] 1),(5078,.map [] 0),(5079,.cells [.num .i64 3,.mp 5078]),(5081,dB25),(5159,dB9),(5281,.cells []),(5407,.cells [.ptr 5159 0,.num .i64 3,.num .u64 0,.flat (.slice none 0 0)]),(6060,dB10),(6076,.cells [.ptr 4058 0,.ptr 5038 0]),(6078,.buf [.ptr 2030 0,.ptr 4053 0,.ptr 6076 0] 1)],6079⟩
theorem k50_0_ok:KeyOK Tryz.prog tabG k50_0:=KeyOK.of y3_ok hpl mix 100000 (by kernel_rfl) (by kernel_rfl:knownB Tryz.prog tabG plans Y3 100000 k50_0=true)
noncomputable def k50_6866:Key:=⟨50,[.num .i64 3],[],6866,.tup [.ptr 6867 0,.num .i64 0],[(6866,dB11),(6867,dB35),(6868,dB12),(6869,dB13),(6870,dB14),(6871,dB15),(6872,dB16),(6873,dB17),(6874,dB18),(6875,dB19),(6876,dB3),(6877,dB3),(6878,dB26),(7858,dB36),(7864,.map [] 0),(7865,.cells [.mp 7864]),(7866,.map [] 0),(7867,.cells [.mp 7866]),(7868,dB20),(7869,dB37),(7870,.map [] 0),(7871,dB38),(7872,dB21),(7873,dB39),(7877,dB22),(7878,dB40),(7879,.map [] 0),(7880,dB41),(7881,dB23),(7882,dB42),(7883,.cells [.num .u64 0]),(7884,dB24),(7885,dB43),(7888,.cells [.num .u64 0]),(7889,dB24),(7890,dB44),(7893,.cells [.num .u64 0]),(7894,dB24),(7895,dB45),(7897,dB46),(7898,.map [] 0),(7899,.cells [.num .i64 3,.mp 7898]),(7901,dB25),(7979,dB27),(8101,.cells []),(8227,dB47),(8880,dB28),(8896,.cells [.ptr 6878 0,.ptr 7858 0]),(8899,dB3),(8900,dB3),(8901,dB29),(9881,dB48),(9887,.map [] 0),(9888,.cells [.mp 9887]),(9889,.map [] 0),(9890,.cells [.mp 9889]),(9891,dB20),(9892,dB49),(9893,.map [] 0),(9894,dB50),(9895,dB21),(9896,dB51),(9900,dB22),(9901,dB52),(9902,.map [] 0),(9903,dB53),(9904,dB23),(9905,dB54),(9906,.cells [.num .u64 0]),(9907,dB24),(9908,dB55),(9911,.cells [.num .u64 0]),(9912,dB24),(9913,dB56),(9916,.cells [.num .u64 0]),(9917,dB24),(9918,dB57),(9920,dB58),(9921,.map [] 0),(9922,.cells [.num .i64 3,.mp 9921]),(9924,dB25),(10002,dB30),(10124,.cells []),(10250,dB59),(10903,dB31),(10919,.cells [.ptr 8901 0,.ptr 9881 0]),(10922,dB3),(10923,dB3),(10924,dB32),(11904,dB60),(11910,.map [] 0),(11911,.cells [.mp 11910]),(11912,.map [] 0),(11913,.cells [.mp 11912]),(11914,dB20),(11915,dB61),(11916,.map [] 0),(11917,dB62),(11918,dB21),(11919,dB63),(11923,dB22),(11924,dB64),(11925,.map [] 0),(11926,dB65),(11927,dB23),(11928,dB66),(11929,.cells [.num .u64 0]),(11930,dB24),(11931,dB67),(11934,.cells [.num .u64 0]),(11935,dB24),(11936,dB68),(11939,.cells [.num .u64 0]),(11940,dB24),(11941,dB69),(11943,dB70),(11944,.map [] 0),(11945,.cells [.num .i64 3,.mp 11944]),(11947,dB25),(12025,dB33),(12147,.cells []),(12273,dB71),(12926,dB34),(12942,.cells [.ptr 10924 0,.ptr 11904 0]),(12944,dB72)],12945⟩
theorem k50_6866_ok:KeyOK Tryz.prog tabG k50_6866:=KeyOK.of y3_ok hpl mix 100000 (by kernel_rfl) (by kernel_rfl:knownB Tryz.prog tabG plans Y3 100000 k50_6866=true)
noncomputable def tab4:List Key:=[k50_0,k50_6866]
theorem tab4_ok:∀ e∈tab4,KeyOK Tryz.prog tabG e:=by
 intro e he
 simp only [tab4,List.mem_cons,List.not_mem_nil,or_false] at he
 rcases he with rfl|rfl
 ·exact k50_0_ok
 ·exact k50_6866_ok
noncomputable def Y4:Specs:=withKeys Tryz.prog tabG plans Y3 100000 tab4
theorem y4_ok:SpecsOK Tryz.prog tabG Y4:=withKeys_ok y3_ok hpl mix 100000 tab4_ok
noncomputable def k11_6625:Key:=⟨11,[.sl 6624 0 83 0 false],[(6624,dB73)],6625,.tup [.ptr 12946 0,.sl 13484 0 1 0 false,.num .i64 0],[(6624,dB73),(6866,dB11),(6867,dB35),(6868,.cells [.num .i64 3,.num .i64 1,.num .u64 1,.bool true,.num .i64 1,.num .u64 1,.num .u8 2,.flat (.string ⟨#[97]⟩),.flat (.string ⟨#[49]⟩),.flat (.string ⟨#[]⟩),.flat (.string ⟨#[]⟩),.num .u64 0,.num .u8 18,.num .u8 71,.num .u8 57,.num .u8 66,.num .u8 140,.num .u8 84,.num .u8 199,.num .u8 250,.num .u8 179,.num .u8 72,.num .u8 66,.num .u8 17,.num .u8 252,.num .u8 175,.num .u8 62,.num .u8 1,.num .u8 134,.num .u8 61,.num .u8 32,.num .u8 207,.num .u8 144,.num .u8 148,.num .u8 3,.num .u8 95,.num .u8 153,.num .u8 188,.num .u8 73,.num .u8 203,.num .u8 49,.num .u8 103,.num .u8 152,.num .u8 126,.bool false,.num .i64 0,.num .u64 0,.num .i64 0,.flat (.string ⟨#[]⟩),.num .u64 0,.bool false,.num .i64 0,.num .u64 0,.num .i64 0,.flat (.string ⟨#[]⟩),.num .u64 0,.bool false,.num .i64 0,.num .u64 0,.num .i64 0,.flat (.string ⟨#[]⟩),.num .u64 0,.bool false,.num .i64 0,.num .u64 0,.num .i64 0,.flat (.string ⟨#[]⟩),.num .u64 0,.bool false,.num .i64 0,.num .u64 0,.num .i64 0,.flat (.string ⟨#[]⟩),.num .u64 0,.bool false,.num .i64 0,.num .u64 0,.num .i64 0,.flat (.string ⟨#[]⟩),.num .u64 0,.bool false,.num .i64 0,.num .u64 0,.num .i64 0,.flat (.string ⟨#[]⟩),.num .u64 0,.bool false,.num .i64 0,.num .u64 0,.num .i64 0,.flat (.string ⟨#[]⟩),.num .u64 0,.bool false,.num .i64 0,.num .u64 0,.num .i64 0,.flat (.string ⟨#[]⟩),.num .u64 0,.bool false,.num .i64 0,.num .u64 0,.num .i64 0,.flat (.string ⟨#[]⟩),.num .u64 0,.bool false,.num .i64 0,.num .u64 0,.num .i64 0,.flat (.string ⟨#[]⟩),.num .u64 0]),(6869,dB13),(6870,dB14),(6871,dB15),(6872,dB16),(6873,dB17),(6874,dB18),(6875,dB19),(6876,dB3),(6877,dB3),(6878,dB26),(7858,dB36),(7864,.map [] 0),(7865,.cells [.mp 7864]),(7866,.map [] 0),(7867,.cells [.mp 7866]),(7868,dB20),(7869,dB37),(7870,.map [] 0),(7871,dB38),(7872,dB21),(7873,dB39),(7877,dB22),(7878,dB40),(7879,.map [] 0),(7880,dB41),(7881,dB23),(7882,dB42),(7883,.cells [.num .u64 0]),(7884,dB24),(7885,dB43),(7888,.cells [.num .u64 0]),(7889,dB24),(7890,dB44),(7893,.cells [.num .u64 0]),(7894,dB24),(7895,dB45),(7897,dB46),(7898,.map [] 0),(7899,.cells [.num .i64 3,.mp 7898]),(7901,dB25),(7979,dB27),(8101,.cells []),(8227,dB47),(8880,dB28),(8896,.cells [.ptr 6878 0,.ptr 7858 0]),(8899,dB3),(8900,dB3),(8901,dB29),(9881,dB48),(9887,.map [] 0),(9888,.cells [.mp 9887]),(9889,.map [] 0),(9890,.cells [.mp 9889]),(9891,dB20),(9892,dB49),(9893,.map [] 0),(9894,dB50),(9895,dB21),(9896,dB51),(9900,dB22),(9901,dB52),(9902,.map [] 0),(9903,dB53),(9904,dB23),(9905,dB54),(9906,.cells [.num .u64 0]),(9907,dB24),(9908,dB55),(9911,.cells [.num .u64 0]),(9912,dB24),(9913,dB56),(9916,.cells [.num .u64 0]),(9917,dB24),(9918,dB57),(9920,dB58),(9921,.map [] 0),(9922,.cells [.num .i64 3,.mp 9921]),(9924,dB25),(10002,dB30),(10124,.cells []),(10250,dB59),(10903,dB31),(10919,.cells [.ptr 8901 0,.ptr 9881 0]),(10922,dB3),(10923,dB3),(10924,dB32),(11904,dB60),(11910,.map [] 0),(11911,.cells [.mp 11910]),(11912,.map [] 0),(11913,.cells [.mp 11912]),(11914,dB20),(11915,dB61),(11916,.map [] 0),(11917,dB62),(11918,dB21),(11919,dB63),(11923,dB22),(11924,dB64),(11925,.map [] 0),(11926,dB65),(11927,dB23),(11928,dB66),(11929,.cells [.num .u64 0]),(11930,dB24),(11931,dB67),(11934,.cells [.num .u64 0]),(11935,dB24),(11936,dB68),(11939,.cells [.num .u64 0]),(11940,dB24),(11941,dB69),(11943,dB70),(11944,.map [] 0),(11945,.cells [.num .i64 3,.mp 11944]),(11947,dB25),(12025,dB33),(12147,.cells []),(12273,dB71),(12926,dB34),(12942,.cells [.ptr 10924 0,.ptr 11904 0]),(12944,dB72),(12945,.cells [.num .i64 3,.ptr 6867 0,.flat (.slice none 0 0),.bool false,.flat (.slice none 0 0)]),(12946,.cells [.ptr 12945 0,.num .i64 3,.sl 13168 0 1 0 false]),(13166,.buf (ap (b8 [1,0,0,0,0,0,0,0,2,0,0,0,0,0,0,0,1,0,0,0,0,0,0,0,1,0,0,0,0,0,0,0,1,0,0,0,0,0,0,0,1,2]) (ap (z8 9) (ap (b8 [1,97,0,1,49]) (z8 24)))) 1),(13168,.buf [.sl 13166 0 80 0 false] 1),(13484,.buf (ap [.num .i64 0,.num .i64 1,.num .u64 1,.num .u8 2,.flat (.string ⟨#[97]⟩),.flat (.string ⟨#[49]⟩),.flat (.string ⟨#[]⟩),.flat (.string ⟨#[]⟩),.num .u64 0,.num .u8 18,.num .u8 71,.num .u8 57,.num .u8 66,.num .u8 140,.num .u8 84,.num .u8 199,.num .u8 250,.num .u8 179,.num .u8 72,.num .u8 66,.num .u8 17,.num .u8 252,.num .u8 175,.num .u8 62,.num .u8 1,.num .u8 134,.num .u8 61,.num .u8 32,.num .u8 207,.num .u8 144,.num .u8 148,.num .u8 3,.num .u8 95,.num .u8 153,.num .u8 188,.num .u8 73,.num .u8 203,.num .u8 49,.num .u8 103,.num .u8 152,.num .u8 126,.num .i64 0] (ap (rp 12 (.num .u64 0)) (ap [.num .u8 0,.num .u64 0,.num .u64 0,.num .i64 0,.num .u64 0,.num .u8 0,.flat (.string ⟨#[]⟩),.flat (.string ⟨#[]⟩),.flat (.string ⟨#[]⟩),.flat (.string ⟨#[]⟩),.num .u64 0] (ap (z8 32) (ap [.flat (.slice none 0 0)] (ap (z8 64) [.flat (.slice none 0 0)])))))) 163)],13485⟩
theorem k11_6625_ok:KeyOK Tryz.prog tabG k11_6625:=KeyOK.of y4_ok hpl mix 100000 (by kernel_rfl) (by kernel_rfl:knownB Tryz.prog tabG plans Y4 100000 k11_6625=true)
noncomputable def tab5:List Key:=[k11_6625]
theorem tab5_ok:∀ e∈tab5,KeyOK Tryz.prog tabG e:=by
 intro e he
 simp only [tab5,List.mem_cons,List.not_mem_nil,or_false] at he
 rcases he with rfl
 ·exact k11_6625_ok
noncomputable def Y5:Specs:=withKeys Tryz.prog tabG plans Y4 100000 tab5
theorem y5_ok:SpecsOK Tryz.prog tabG Y5:=withKeys_ok y4_ok hpl mix 100000 tab5_ok
theorem trworks_run:(callK Tryz.prog tabG Y5 (execD Tryz.prog tabG plans Y5 100000) 5 [] ⟨.nil,0⟩).map (·.1)=some (.bool true):=by kernel_rfl
theorem trworks_spec {w w0:World}{L:List Asn}(hG:GOK tabG w0 L) (hs:St w0 L w):Calls Tryz.prog 5 #[] w (Ret fun rv w'=>rv=.bool true∧St w0 L w') :=
 ev_callG y5_ok 100000 (by kernel_rfl) (avs:=[]) (vs:=[]) (by rw [← execD_eq];exact trworks_run) rfl rfl hG hs
end Go.Proofs.YtlomlmbbiopaaaaGreatDoor
