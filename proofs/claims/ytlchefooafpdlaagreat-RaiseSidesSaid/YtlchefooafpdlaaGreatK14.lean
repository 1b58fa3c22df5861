/- Tab Lf5 -/
import Derived.Test.YtlchefooafpdlaaGreatK13
import Derived.Test.YtlchefooafpdlaaGreatRows
namespace Go.Proofs.YtlchefooafpdlaaGreat
open Go.Am
def tabL : List (Nat × TI):=[
  (1,{kind:=.func,size:=1,zero:=[.nilf]}),
  (2,{kind:=.int .i64,size:=1,zero:=[.int .i64 0]}),
  (3,{kind:=.int .i64,size:=1,zero:=[.int .i64 0]}),
  (4,{kind:=.bool,size:=1,zero:=[.bool false]}),
  (5,{kind:=.int .u8,size:=1,zero:=[.int .u8 0]}),
  (6,{kind:=.int .u8,size:=1,zero:=[.int .u8 0]}),
  (7,{kind:=.struct,size:=4,zero:=[.int .i64 0,.int .i64 0,.bool false,.int .u8 0],flds:=[(0,1,false),(1,1,false),(2,1,false),(3,1,false)],eqs:=some [some .i64,some .i64,none,some .u8]}),
  (8,{kind:=.struct,size:=4,zero:=[.int .i64 0,.int .i64 0,.bool false,.int .u8 0],flds:=[(0,1,false),(1,1,false),(2,1,false),(3,1,false)],eqs:=some [some .i64,some .i64,none,some .u8]}),
  (9,{kind:=.str,size:=1,zero:=[.str ByteArray.empty]}),
  (10,{kind:=.str,size:=1,zero:=[.str ByteArray.empty]}),
  (11,{kind:=.str,size:=1,zero:=[.str ByteArray.empty]}),
  (12,{kind:=.int .u64,size:=1,zero:=[.int .u64 0]}),
  (13,{kind:=.struct,size:=2,zero:=[.str ByteArray.empty,.int .u64 0],flds:=[(0,1,false),(1,1,false)],eqs:=none}),
  (14,{kind:=.struct,size:=2,zero:=[.str ByteArray.empty,.int .u64 0],flds:=[(0,1,false),(1,1,false)],eqs:=none}),
  (15,{kind:=.ptr,size:=1,zero:=[.nilp]}),
  (16,{kind:=.ptr,size:=1,zero:=[.nilp]}),
  (17,{kind:=.ptr,size:=1,zero:=[.nilp]}),
  (18,{kind:=.struct,size:=1,zero:=[.nilp],flds:=[(0,1,false)],eqs:=none}),
  (19,{kind:=.struct,size:=1,zero:=[.nilp],flds:=[(0,1,false)],eqs:=none}),
  (21,{kind:=.int .i32,size:=1,zero:=[.int .i32 0]}),
  (22,{kind:=.slice,size:=1,zero:=[.nilsl],esize:=4,eagg:=true,ebytes:=32,ezero:=[.int .i64 0,.int .i64 0,.int .i64 0,.int .i64 0]}),
  (23,{kind:=.slice,size:=1,zero:=[.nilsl],esize:=4,eagg:=true,ebytes:=32,ezero:=[.int .i64 0,.int .i64 0,.int .i64 0,.int .i64 0]}),
  (24,{kind:=.func,size:=1,zero:=[.nilf]}),
  (25,{kind:=.slice,size:=1,zero:=[.nilsl],esize:=6,eagg:=true,ebytes:=48,ezero:=[.int .i64 0,.int .i64 0,.int .i64 0,.int .i64 0,.int .i64 0,.int .i64 0]}),
  (26,{kind:=.slice,size:=1,zero:=[.nilsl],esize:=6,eagg:=true,ebytes:=48,ezero:=[.int .i64 0,.int .i64 0,.int .i64 0,.int .i64 0,.int .i64 0,.int .i64 0]}),
  (27,{kind:=.int .i64,size:=1,zero:=[.int .i64 0]}),
  (29,{kind:=.func,size:=1,zero:=[.nilf]}),
  (30,{kind:=.func,size:=1,zero:=[.nilf]}),
  (31,{kind:=.slice,size:=1,zero:=[.nilsl],esize:=2,eagg:=true,ebytes:=32,ezero:=[.nilsl,.int .i64 0]}),
  (32,{kind:=.struct,size:=2,zero:=[.nilsl,.int .i64 0],flds:=[(0,1,false),(1,1,false)],eqs:=none}),
  (33,{kind:=.struct,size:=2,zero:=[.nilsl,.int .i64 0],flds:=[(0,1,false),(1,1,false)],eqs:=none}),
  (34,{kind:=.struct,size:=4,zero:=[.int .i64 0,.int .i64 0,.int .i64 0,.int .i64 0],flds:=[(0,1,false),(1,1,false),(2,1,false),(3,1,false)],eqs:=some [some .i64,some .i64,some .i64,some .i64]}),
  (35,{kind:=.struct,size:=4,zero:=[.int .i64 0,.int .i64 0,.int .i64 0,.int .i64 0],flds:=[(0,1,false),(1,1,false),(2,1,false),(3,1,false)],eqs:=some [some .i64,some .i64,some .i64,some .i64]}),
  (36,{kind:=.func,size:=1,zero:=[.nilf]}),
  (38,{kind:=.func,size:=1,zero:=[.nilf]}),
  (39,{kind:=.struct,size:=3,zero:=[.int .i64 0,.int .i64 0,.int .i64 0],flds:=[(0,1,false),(1,1,false),(2,1,false)],eqs:=some [some .i64,some .i64,some .i64]}),
  (40,{kind:=.struct,size:=3,zero:=[.int .i64 0,.int .i64 0,.int .i64 0],flds:=[(0,1,false),(1,1,false),(2,1,false)],eqs:=some [some .i64,some .i64,some .i64]}),
  (41,{kind:=.struct,size:=6,zero:=[.int .i64 0,.int .i64 0,.int .i64 0,.int .i64 0,.int .i64 0,.int .i64 0],flds:=[(0,3,true),(3,3,true)],eqs:=some [some .i64,some .i64,some .i64,some .i64,some .i64,some .i64]}),
  (42,{kind:=.struct,size:=6,zero:=[.int .i64 0,.int .i64 0,.int .i64 0,.int .i64 0,.int .i64 0,.int .i64 0],flds:=[(0,3,true),(3,3,true)],eqs:=some [some .i64,some .i64,some .i64,some .i64,some .i64,some .i64]}),
  (43,{kind:=.struct,size:=4,zero:=[.int .u8 0,.int .i64 0,.int .i64 0,.int .i64 0],flds:=[(0,1,false),(1,3,true)],eqs:=some [some .u8,some .i64,some .i64,some .i64]}),
  (44,{kind:=.struct,size:=4,zero:=[.int .u8 0,.int .i64 0,.int .i64 0,.int .i64 0],flds:=[(0,1,false),(1,3,true)],eqs:=some [some .u8,some .i64,some .i64,some .i64]}),
  (45,{kind:=.struct,size:=7,zero:=[.int .u8 0,.int .i64 0,.int .i64 0,.int .i64 0,.int .i64 0,.int .i64 0,.int .i64 0],flds:=[(0,4,true),(4,3,true)],eqs:=some [some .u8,some .i64,some .i64,some .i64,some .i64,some .i64,some .i64]}),
  (46,{kind:=.struct,size:=7,zero:=[.int .u8 0,.int .i64 0,.int .i64 0,.int .i64 0,.int .i64 0,.int .i64 0,.int .i64 0],flds:=[(0,4,true),(4,3,true)],eqs:=some [some .u8,some .i64,some .i64,some .i64,some .i64,some .i64,some .i64]}),
  (47,{kind:=.array,size:=42,zero:=[.int .u8 0,.int .i64 0,.int .i64 0,.int .i64 0,.int .i64 0,.int .i64 0,.int .i64 0,.int .u8 0,.int .i64 0,.int .i64 0,.int .i64 0,.int .i64 0,.int .i64 0,.int .i64 0,.int .u8 0,.int .i64 0,.int .i64 0,.int .i64 0,.int .i64 0,.int .i64 0,.int .i64 0,.int .u8 0,.int .i64 0,.int .i64 0,.int .i64 0,.int .i64 0,.int .i64 0,.int .i64 0,.int .u8 0,.int .i64 0,.int .i64 0,.int .i64 0,.int .i64 0,.int .i64 0,.int .i64 0,.int .u8 0,.int .i64 0,.int .i64 0,.int .i64 0,.int .i64 0,.int .i64 0,.int .i64 0],len:=6,esize:=7,eagg:=true,eqs:=some [some .u8,some .i64,some .i64,some .i64,some .i64,some .i64,some .i64,some .u8,some .i64,some .i64,some .i64,some .i64,some .i64,some .i64,some .u8,some .i64,some .i64,some .i64,some .i64,some .i64,some .i64,some .u8,some .i64,some .i64,some .i64,some .i64,some .i64,some .i64,some .u8,some .i64,some .i64,some .i64,some .i64,some .i64,some .i64,some .u8,some .i64,some .i64,some .i64,some .i64,some .i64,some .i64]}),
  (49,{kind:=.func,size:=1,zero:=[.nilf]}),
  (51,{kind:=.func,size:=1,zero:=[.nilf]}),
  (52,{kind:=.func,size:=1,zero:=[.nilf]}),
  (53,{kind:=.func,size:=1,zero:=[.nilf]}),
  (54,{kind:=.func,size:=1,zero:=[.nilf]}),
  (55,{kind:=.func,size:=1,zero:=[.nilf]}),
  (56,{kind:=.func,size:=1,zero:=[.nilf]}),
  (57,{kind:=.func,size:=1,zero:=[.nilf]}),
  (58,{kind:=.func,size:=1,zero:=[.nilf]}),
  (59,{kind:=.func,size:=1,zero:=[.nilf]}),
  (60,{kind:=.func,size:=1,zero:=[.nilf]}),
  (61,{kind:=.func,size:=1,zero:=[.nilf]}),
  (62,{kind:=.func,size:=1,zero:=[.nilf]}),
  (63,{kind:=.func,size:=1,zero:=[.nilf]}),
  (64,{kind:=.func,size:=1,zero:=[.nilf]}),
  (66,{kind:=.func,size:=1,zero:=[.nilf]}),
  (67,{kind:=.slice,size:=1,zero:=[.nilsl],esize:=2,eagg:=true,ebytes:=16,ezero:=[.int .i64 0,.int .i64 0]}),
  (69,{kind:=.func,size:=1,zero:=[.nilf]}),
  (71,{kind:=.func,size:=1,zero:=[.nilf]}),
  (73,{kind:=.func,size:=1,zero:=[.nilf]}),
  (74,{kind:=.func,size:=1,zero:=[.nilf]}),
  (75,{kind:=.func,size:=1,zero:=[.nilf]}),
  (76,{kind:=.func,size:=1,zero:=[.nilf]}),
  (77,{kind:=.func,size:=1,zero:=[.nilf]}),
  (78,{kind:=.func,size:=1,zero:=[.nilf]}),
  (80,{kind:=.func,size:=1,zero:=[.nilf]}),
  (81,{kind:=.func,size:=1,zero:=[.nilf]}),
  (82,{kind:=.func,size:=1,zero:=[.nilf]}),
  (83,{kind:=.func,size:=1,zero:=[.nilf]}),
  (84,{kind:=.func,size:=1,zero:=[.nilf]}),
  (85,{kind:=.func,size:=1,zero:=[.nilf]}),
  (87,{kind:=.func,size:=1,zero:=[.nilf]}),
  (88,{kind:=.func,size:=1,zero:=[.nilf]}),
  (89,{kind:=.func,size:=1,zero:=[.nilf]}),
  (90,{kind:=.func,size:=1,zero:=[.nilf]}),
  (92,{kind:=.func,size:=1,zero:=[.nilf]}),
  (93,{kind:=.func,size:=1,zero:=[.nilf]}),
  (94,{kind:=.func,size:=1,zero:=[.nilf]}),
  (95,{kind:=.func,size:=1,zero:=[.nilf]}),
  (96,{kind:=.struct,size:=4,zero:=[.nilsl,.nilsl,.int .i64 0,.int .i64 0],flds:=[(0,1,false),(1,1,false),(2,1,false),(3,1,false)],eqs:=none}),
  (97,{kind:=.struct,size:=4,zero:=[.nilsl,.nilsl,.int .i64 0,.int .i64 0],flds:=[(0,1,false),(1,1,false),(2,1,false),(3,1,false)],eqs:=none}),
  (98,{kind:=.func,size:=1,zero:=[.nilf]}),
  (99,{kind:=.func,size:=1,zero:=[.nilf]}),
  (100,{kind:=.func,size:=1,zero:=[.nilf]}),
  (101,{kind:=.func,size:=1,zero:=[.nilf]}),
  (102,{kind:=.func,size:=1,zero:=[.nilf]}),
  (103,{kind:=.func,size:=1,zero:=[.nilf]}),
  (104,{kind:=.func,size:=1,zero:=[.nilf]}),
  (105,{kind:=.struct,size:=2,zero:=[.int .i64 0,.int .i64 0],flds:=[(0,1,false),(1,1,false)],eqs:=some [some .i64,some .i64]}),
  (106,{kind:=.struct,size:=2,zero:=[.int .i64 0,.int .i64 0],flds:=[(0,1,false),(1,1,false)],eqs:=some [some .i64,some .i64]}),
  (107,{kind:=.func,size:=1,zero:=[.nilf]}),
  (108,{kind:=.func,size:=1,zero:=[.nilf]}),
  (110,{kind:=.func,size:=1,zero:=[.nilf]}),
  (111,{kind:=.func,size:=1,zero:=[.nilf]}),
  (112,{kind:=.func,size:=1,zero:=[.nilf]}),
  (113,{kind:=.func,size:=1,zero:=[.nilf]}),
  (115,{kind:=.func,size:=1,zero:=[.nilf]}),
  (116,{kind:=.func,size:=1,zero:=[.nilf]}),
  (118,{kind:=.func,size:=1,zero:=[.nilf]}),
  (119,{kind:=.func,size:=1,zero:=[.nilf]}),
  (120,{kind:=.func,size:=1,zero:=[.nilf]}),
  (121,{kind:=.func,size:=1,zero:=[.nilf]}),
  (122,{kind:=.func,size:=1,zero:=[.nilf]}),
  (123,{kind:=.func,size:=1,zero:=[.nilf]}),
  (124,{kind:=.func,size:=1,zero:=[.nilf]}),
  (125,{kind:=.struct,size:=1,zero:=[.nilf],flds:=[(0,1,false)],eqs:=none}),
  (126,{kind:=.struct,size:=1,zero:=[.nilf],flds:=[(0,1,false)],eqs:=none}),
  (127,{kind:=.func,size:=1,zero:=[.nilf]}),
  (128,{kind:=.func,size:=1,zero:=[.nilf]}),
  (129,{kind:=.func,size:=1,zero:=[.nilf]}),
  (130,{kind:=.func,size:=1,zero:=[.nilf]}),
  (131,{kind:=.slice,size:=1,zero:=[.nilsl],esize:=1,eagg:=false,ebytes:=8,ezero:=[.int .i64 0]}),
  (132,{kind:=.func,size:=1,zero:=[.nilf]}),
  (133,{kind:=.slice,size:=1,zero:=[.nilsl],esize:=1,eagg:=false,ebytes:=1,ezero:=[.bool false]}),
  (134,{kind:=.func,size:=1,zero:=[.nilf]}),
  (135,{kind:=.func,size:=1,zero:=[.nilf]}),
  (136,{kind:=.func,size:=1,zero:=[.nilf]}),
  (137,{kind:=.func,size:=1,zero:=[.nilf]}),
  (138,{kind:=.func,size:=1,zero:=[.nilf]}),
  (140,{kind:=.func,size:=1,zero:=[.nilf]}),
  (141,{kind:=.func,size:=1,zero:=[.nilf]}),
  (142,{kind:=.func,size:=1,zero:=[.nilf]}),
  (143,{kind:=.func,size:=1,zero:=[.nilf]}),
  (144,{kind:=.array,size:=24,zero:=[.int .i64 0,.int .i64 0,.int .i64 0,.int .i64 0,.int .i64 0,.int .i64 0,.int .i64 0,.int .i64 0,.int .i64 0,.int .i64 0,.int .i64 0,.int .i64 0,.int .i64 0,.int .i64 0,.int .i64 0,.int .i64 0,.int .i64 0,.int .i64 0,.int .i64 0,.int .i64 0,.int .i64 0,.int .i64 0,.int .i64 0,.int .i64 0],len:=8,esize:=3,eagg:=true,eqs:=some [some .i64,some .i64,some .i64,some .i64,some .i64,some .i64,some .i64,some .i64,some .i64,some .i64,some .i64,some .i64,some .i64,some .i64,some .i64,some .i64,some .i64,some .i64,some .i64,some .i64,some .i64,some .i64,some .i64,some .i64]}),
  (146,{kind:=.func,size:=1,zero:=[.nilf]}),
  (147,{kind:=.func,size:=1,zero:=[.nilf]}),
  (148,{kind:=.func,size:=1,zero:=[.nilf]}),
  (149,{kind:=.ptr,size:=1,zero:=[.nilp]}),
  (150,{kind:=.func,size:=1,zero:=[.nilf]}),
  (151,{kind:=.func,size:=1,zero:=[.nilf]}),
  (152,{kind:=.func,size:=1,zero:=[.nilf]}),
  (153,{kind:=.func,size:=1,zero:=[.nilf]}),
  (154,{kind:=.func,size:=1,zero:=[.nilf]}),
  (155,{kind:=.struct,size:=7,zero:=[.int .u8 0,.int .i64 0,.int .i64 0,.int .i64 0,.int .i64 0,.int .i64 0,.int .i64 0],flds:=[(0,1,false),(1,3,true),(4,3,true)],eqs:=some [some .u8,some .i64,some .i64,some .i64,some .i64,some .i64,some .i64]}),
  (156,{kind:=.array,size:=42,zero:=[.int .u8 0,.int .i64 0,.int .i64 0,.int .i64 0,.int .i64 0,.int .i64 0,.int .i64 0,.int .u8 0,.int .i64 0,.int .i64 0,.int .i64 0,.int .i64 0,.int .i64 0,.int .i64 0,.int .u8 0,.int .i64 0,.int .i64 0,.int .i64 0,.int .i64 0,.int .i64 0,.int .i64 0,.int .u8 0,.int .i64 0,.int .i64 0,.int .i64 0,.int .i64 0,.int .i64 0,.int .i64 0,.int .u8 0,.int .i64 0,.int .i64 0,.int .i64 0,.int .i64 0,.int .i64 0,.int .i64 0,.int .u8 0,.int .i64 0,.int .i64 0,.int .i64 0,.int .i64 0,.int .i64 0,.int .i64 0],len:=6,esize:=7,eagg:=true,eqs:=some [some .u8,some .i64,some .i64,some .i64,some .i64,some .i64,some .i64,some .u8,some .i64,some .i64,some .i64,some .i64,some .i64,some .i64,some .u8,some .i64,some .i64,some .i64,some .i64,some .i64,some .i64,some .u8,some .i64,some .i64,some .i64,some .i64,some .i64,some .i64,some .u8,some .i64,some .i64,some .i64,some .i64,some .i64,some .i64,some .u8,some .i64,some .i64,some .i64,some .i64,some .i64,some .i64]}),
  (157,{kind:=.func,size:=1,zero:=[.nilf]}),
  (159,{kind:=.func,size:=1,zero:=[.nilf]}),
  (161,{kind:=.func,size:=1,zero:=[.nilf]}),
  (162,{kind:=.func,size:=1,zero:=[.nilf]}),
  (163,{kind:=.func,size:=1,zero:=[.nilf]}),
  (164,{kind:=.struct,size:=3,zero:=[.int .i64 0,.int .i64 0,.nilsl],flds:=[(0,1,false),(1,1,false),(2,1,false)],eqs:=none}),
  (165,{kind:=.struct,size:=3,zero:=[.int .i64 0,.int .i64 0,.nilsl],flds:=[(0,1,false),(1,1,false),(2,1,false)],eqs:=none}),
  (166,{kind:=.func,size:=1,zero:=[.nilf]}),
  (167,{kind:=.func,size:=1,zero:=[.nilf]}),
  (168,{kind:=.array,size:=2,zero:=[.nilsl,.nilsl],len:=2,esize:=1,eagg:=false,eqs:=none}),
  (169,{kind:=.func,size:=1,zero:=[.nilf]}),
  (170,{kind:=.func,size:=1,zero:=[.nilf]}),
  (171,{kind:=.func,size:=1,zero:=[.nilf]}),
  (172,{kind:=.func,size:=1,zero:=[.nilf]}),
  (173,{kind:=.func,size:=1,zero:=[.nilf]}),
  (174,{kind:=.func,size:=1,zero:=[.nilf]}),
  (175,{kind:=.func,size:=1,zero:=[.nilf]}),
  (176,{kind:=.func,size:=1,zero:=[.nilf]}),
  (177,{kind:=.func,size:=1,zero:=[.nilf]}),
  (178,{kind:=.func,size:=1,zero:=[.nilf]}),
  (179,{kind:=.func,size:=1,zero:=[.nilf]}),
  (180,{kind:=.func,size:=1,zero:=[.nilf]}),
  (181,{kind:=.func,size:=1,zero:=[.nilf]}),
  (182,{kind:=.func,size:=1,zero:=[.nilf]}),
  (183,{kind:=.func,size:=1,zero:=[.nilf]}),
  (184,{kind:=.struct,size:=4,zero:=[.nilsl,.nilsl,.int .i64 0,.int .i64 0],flds:=[(0,1,false),(1,1,false),(2,1,false),(3,1,false)],eqs:=none}),
  (185,{kind:=.struct,size:=4,zero:=[.nilsl,.nilsl,.int .i64 0,.int .i64 0],flds:=[(0,1,false),(1,1,false),(2,1,false),(3,1,false)],eqs:=none}),
  (186,{kind:=.func,size:=1,zero:=[.nilf]}),
  (187,{kind:=.func,size:=1,zero:=[.nilf]}),
  (188,{kind:=.slice,size:=1,zero:=[.nilsl],esize:=1,eagg:=false,ebytes:=24,ezero:=[.nilsl]}),
  (189,{kind:=.struct,size:=3,zero:=[.int .i64 0,.int .i64 0,.nilsl],flds:=[(0,1,false),(1,1,false),(2,1,false)],eqs:=none}),
  (190,{kind:=.struct,size:=3,zero:=[.int .i64 0,.int .i64 0,.nilsl],flds:=[(0,1,false),(1,1,false),(2,1,false)],eqs:=none}),
  (191,{kind:=.func,size:=1,zero:=[.nilf]}),
  (192,{kind:=.func,size:=1,zero:=[.nilf]}),
  (193,{kind:=.func,size:=1,zero:=[.nilf]}),
  (194,{kind:=.slice,size:=1,zero:=[.nilsl],esize:=1,eagg:=false,ebytes:=24,ezero:=[.nilsl]}),
  (195,{kind:=.struct,size:=4,zero:=[.nilsl,.nilsl,.int .i64 0,.int .i64 0],flds:=[(0,1,false),(1,1,false),(2,1,false),(3,1,false)],eqs:=none}),
  (196,{kind:=.struct,size:=4,zero:=[.nilsl,.nilsl,.int .i64 0,.int .i64 0],flds:=[(0,1,false),(1,1,false),(2,1,false),(3,1,false)],eqs:=none}),
  (197,{kind:=.func,size:=1,zero:=[.nilf]}),
  (198,{kind:=.func,size:=1,zero:=[.nilf]}),
  (199,{kind:=.slice,size:=1,zero:=[.nilsl],esize:=1,eagg:=false,ebytes:=24,ezero:=[.nilsl]}),
  (200,{kind:=.struct,size:=3,zero:=[.int .i64 0,.int .i64 0,.nilsl],flds:=[(0,1,false),(1,1,false),(2,1,false)],eqs:=none}),
  (201,{kind:=.struct,size:=3,zero:=[.int .i64 0,.int .i64 0,.nilsl],flds:=[(0,1,false),(1,1,false),(2,1,false)],eqs:=none}),
  (202,{kind:=.func,size:=1,zero:=[.nilf]}),
  (203,{kind:=.func,size:=1,zero:=[.nilf]}),
  (204,{kind:=.func,size:=1,zero:=[.nilf]}),
  (205,{kind:=.slice,size:=1,zero:=[.nilsl],esize:=3,eagg:=true,ebytes:=24,ezero:=[.int .i64 0,.int .i64 0,.int .i64 0]}),
  (206,{kind:=.struct,size:=3,zero:=[.int .i64 0,.int .i64 0,.int .i64 0],flds:=[(0,1,false),(1,1,false),(2,1,false)],eqs:=some [some .i64,some .i64,some .i64]}),
  (207,{kind:=.struct,size:=3,zero:=[.int .i64 0,.int .i64 0,.int .i64 0],flds:=[(0,1,false),(1,1,false),(2,1,false)],eqs:=some [some .i64,some .i64,some .i64]}),
  (208,{kind:=.func,size:=1,zero:=[.nilf]}),
  (209,{kind:=.func,size:=1,zero:=[.nilf]}),
  (210,{kind:=.func,size:=1,zero:=[.nilf]}),
  (211,{kind:=.func,size:=1,zero:=[.nilf]}),
  (212,{kind:=.func,size:=1,zero:=[.nilf]}),
  (213,{kind:=.array,size:=2,zero:=[.int .i64 0,.int .i64 0],len:=2,esize:=1,eagg:=false,eqs:=some [some .i64,some .i64]}),
  (214,{kind:=.func,size:=1,zero:=[.nilf]}),
  (215,{kind:=.func,size:=1,zero:=[.nilf]}),
  (216,{kind:=.func,size:=1,zero:=[.nilf]}),
  (217,{kind:=.struct,size:=3,zero:=[.int .i64 0,.int .i64 0,.int .i64 0],flds:=[(0,1,false),(1,1,false),(2,1,false)],eqs:=some [some .i64,some .i64,some .i64]}),
  (218,{kind:=.struct,size:=3,zero:=[.int .i64 0,.int .i64 0,.int .i64 0],flds:=[(0,1,false),(1,1,false),(2,1,false)],eqs:=some [some .i64,some .i64,some .i64]}),
  (219,{kind:=.func,size:=1,zero:=[.nilf]}),
  (220,{kind:=.func,size:=1,zero:=[.nilf]}),
  (221,{kind:=.func,size:=1,zero:=[.nilf]}),
  (222,{kind:=.array,size:=9,zero:=[.int .i64 0,.int .i64 0,.int .i64 0,.int .i64 0,.int .i64 0,.int .i64 0,.int .i64 0,.int .i64 0,.int .i64 0],len:=3,esize:=3,eagg:=true,eqs:=some [some .i64,some .i64,some .i64,some .i64,some .i64,some .i64,some .i64,some .i64,some .i64]}),
  (223,{kind:=.func,size:=1,zero:=[.nilf]}),
  (224,{kind:=.func,size:=1,zero:=[.nilf]}),
  (225,{kind:=.ptr,size:=1,zero:=[.nilp]}),
  (226,{kind:=.func,size:=1,zero:=[.nilf]}),
  (227,{kind:=.ptr,size:=1,zero:=[.nilp]}),
  (228,{kind:=.func,size:=1,zero:=[.nilf]}),
  (229,{kind:=.func,size:=1,zero:=[.nilf]}),
  (230,{kind:=.func,size:=1,zero:=[.nilf]}),
  (231,{kind:=.int .u64,size:=1,zero:=[.int .u64 0]}),
  (232,{kind:=.func,size:=1,zero:=[.nilf]}),
  (233,{kind:=.func,size:=1,zero:=[.nilf]}),
  (234,{kind:=.slice,size:=1,zero:=[.nilsl],esize:=1,eagg:=false,ebytes:=24,ezero:=[.nilsl]}),
  (235,{kind:=.func,size:=1,zero:=[.nilf]}),
  (236,{kind:=.slice,size:=1,zero:=[.nilsl],esize:=3,eagg:=true,ebytes:=24,ezero:=[.int .i64 0,.int .i64 0,.int .i64 0]}),
  (237,{kind:=.func,size:=1,zero:=[.nilf]}),
  (238,{kind:=.func,size:=1,zero:=[.nilf]}),
  (239,{kind:=.func,size:=1,zero:=[.nilf]}),
  (240,{kind:=.func,size:=1,zero:=[.nilf]}),
  (241,{kind:=.func,size:=1,zero:=[.nilf]}),
  (242,{kind:=.func,size:=1,zero:=[.nilf]}),
  (243,{kind:=.func,size:=1,zero:=[.nilf]}),
  (244,{kind:=.int .i64,size:=1,zero:=[.int .i64 0]}),
  (246,{kind:=.func,size:=1,zero:=[.nilf]}),
  (247,{kind:=.func,size:=1,zero:=[.nilf]}),
  (248,{kind:=.func,size:=1,zero:=[.nilf]}),
  (249,{kind:=.func,size:=1,zero:=[.nilf]}),
  (251,{kind:=.func,size:=1,zero:=[.nilf]}),
  (252,{kind:=.func,size:=1,zero:=[.nilf]}),
  (253,{kind:=.int .u32,size:=1,zero:=[.int .u32 0]}),
  (254,{kind:=.func,size:=1,zero:=[.nilf]}),
  (255,{kind:=.int .u64,size:=1,zero:=[.int .u64 0]}),
  (256,{kind:=.func,size:=1,zero:=[.nilf]}),
  (257,{kind:=.func,size:=1,zero:=[.nilf]}),
  (258,{kind:=.func,size:=1,zero:=[.nilf]}),
  (259,{kind:=.int .u64,size:=1,zero:=[.int .u64 0]}),
  (260,{kind:=.func,size:=1,zero:=[.nilf]}),
  (261,{kind:=.func,size:=1,zero:=[.nilf]}),
  (262,{kind:=.func,size:=1,zero:=[.nilf]}),
  (263,{kind:=.ptr,size:=1,zero:=[.nilp]}),
  (264,{kind:=.func,size:=1,zero:=[.nilf]}),
  (265,{kind:=.func,size:=1,zero:=[.nilf]}),
  (266,{kind:=.func,size:=1,zero:=[.nilf]}),
  (267,{kind:=.func,size:=1,zero:=[.nilf]}),
  (268,{kind:=.func,size:=1,zero:=[.nilf]}),
  (269,{kind:=.func,size:=1,zero:=[.nilf]}),
  (270,{kind:=.func,size:=1,zero:=[.nilf]}),
  (271,{kind:=.func,size:=1,zero:=[.nilf]}),
  (272,{kind:=.func,size:=1,zero:=[.nilf]}),
  (273,{kind:=.func,size:=1,zero:=[.nilf]}),
  (274,{kind:=.func,size:=1,zero:=[.nilf]}),
  (275,{kind:=.ptr,size:=1,zero:=[.nilp]}),
  (276,{kind:=.func,size:=1,zero:=[.nilf]}),
  (277,{kind:=.func,size:=1,zero:=[.nilf]}),
  (278,{kind:=.func,size:=1,zero:=[.nilf]}),
  (279,{kind:=.func,size:=1,zero:=[.nilf]}),
  (280,{kind:=.func,size:=1,zero:=[.nilf]}),
  (281,{kind:=.func,size:=1,zero:=[.nilf]}),
  (282,{kind:=.func,size:=1,zero:=[.nilf]}),
  (283,{kind:=.func,size:=1,zero:=[.nilf]}),
  (284,{kind:=.struct,size:=4,zero:=[.nilp,.nilp,.nilp,.str ByteArray.empty],flds:=[(0,1,false),(1,1,false),(2,1,false),(3,1,false)],eqs:=none}),
  (285,{kind:=.struct,size:=4,zero:=[.nilp,.nilp,.nilp,.str ByteArray.empty],flds:=[(0,1,false),(1,1,false),(2,1,false),(3,1,false)],eqs:=none}),
  (289,{kind:=.func,size:=1,zero:=[.nilf]}),
  (290,{kind:=.int .u8,size:=1,zero:=[.int .u8 0]}),
  (291,{kind:=.int .u8,size:=1,zero:=[.int .u8 0]}),
  (292,{kind:=.func,size:=1,zero:=[.nilf]}),
  (293,{kind:=.ptr,size:=1,zero:=[.nilp]}),
  (294,{kind:=.int .i32,size:=1,zero:=[.int .i32 0]}),
  (295,{kind:=.int .i32,size:=1,zero:=[.int .i32 0]}),
  (296,{kind:=.struct,size:=11,zero:=[.int .u64 0,.int .u64 0,.int .u32 0,.int .u8 0,.int .u8 0,.int .u8 0,.int .u8 0,.nilf,.nilp,.int .i32 0,.int .i32 0],flds:=[(0,1,false),(1,1,false),(2,1,false),(3,1,false),(4,1,false),(5,1,false),(6,1,false),(7,1,false),(8,1,false),(9,1,false),(10,1,false)],eqs:=none}),
  (297,{kind:=.struct,size:=11,zero:=[.int .u64 0,.int .u64 0,.int .u32 0,.int .u8 0,.int .u8 0,.int .u8 0,.int .u8 0,.nilf,.nilp,.int .i32 0,.int .i32 0],flds:=[(0,1,false),(1,1,false),(2,1,false),(3,1,false),(4,1,false),(5,1,false),(6,1,false),(7,1,false),(8,1,false),(9,1,false),(10,1,false)],eqs:=none})]
def tab : Tab:=qmo tabL
theorem q10d : tabL.map (fun x=>tiOf Tryz.prog x.1) = tabL.map (fun x=>some x.2):=by kernel_rfl
theorem q11g : Ym Tryz.prog tab:=q10c q10d
theorem mixed : Tryz.prog.follows .mixedOrders = true:=by kernel_rfl
end Go.Proofs.YtlchefooafpdlaaGreat
namespace Go.Am
open Go
theorem J {α : Sort _} {a : α} : a = a:=rfl
abbrev G (n : Int) : DV:=.int .i64 n
abbrev q6 (n : Int) : V:=.d (.int .i64 n)
abbrev qg (b : Bool) : V:=.d (.bool b)
section
variable {P : Program} {T : Tab} {base : Nat} {ops : Array Oper} {dr : Dr} {l : List Oper} {sl : List (Nat × V)} {hp : List (Nat × Blk)} {nx : Nat} {K : AS→Prop} {ty : TypeId} {pos : String} {af : Array Edge} {t : Tmp} {g : Option (Nat × Bool)} {v : V}
theorem q0 {x : Operand} (hg : (Qk ops ⟨sl,hp,nx⟩ ⟨some t,.move x,ty,pos,af,g⟩,AS.ev ⟨sl,hp,nx⟩ x) = (some true,some v))
    (h : OpsK P T base ops dr l ⟨(t,v)::sl,hp,nx⟩ K) : OpsK P T base ops dr (⟨some t,.move x,ty,pos,af,g⟩::l) ⟨sl,hp,nx⟩ K:=qef (Prod.mk.inj hg).1 (Prod.mk.inj hg).2 h
theorem qb {x : Operand} (hg : (Qk ops ⟨sl,hp,nx⟩ ⟨some t,.assign x,ty,pos,af,g⟩,AS.ev ⟨sl,hp,nx⟩ x) = (some true,some v))
    (h : OpsK P T base ops dr l ⟨(t,v)::sl,hp,nx⟩ K) : OpsK P T base ops dr (⟨some t,.assign x,ty,pos,af,g⟩::l) ⟨sl,hp,nx⟩ K:=qrr (Prod.mk.inj hg).1 (Prod.mk.inj hg).2 h
theorem O {op : Op} (v : V) (hg : (Qk ops ⟨sl,hp,nx⟩ ⟨some t,op,ty,pos,af,g⟩,opFn T ⟨sl,hp,nx⟩ op) = (some true,some (v,⟨sl,hp,nx⟩))) (h : OpsK P T base ops dr l ⟨(t,v)::sl,hp,nx⟩ K)
    (hF : okO dr l.length ⟨sl,hp,nx⟩ (op) ⟨sl,hp,nx⟩ = true:=by rfl) : OpsK P T base ops dr (⟨some t,op,ty,pos,af,g⟩::l) ⟨sl,hp,nx⟩ K:=qs6 v (Prod.mk.inj hg).1 (Prod.mk.inj hg).2 h hF
theorem qz {op : Op} (n : Nat) (b : Blk) (hg : (Qk ops ⟨sl,hp,nx⟩ ⟨none,op,ty,pos,af,g⟩,opFn T ⟨sl,hp,nx⟩ op) = (some true,some (.dead,⟨sl,repl hp n b,nx⟩))) (h : OpsK P T base ops dr l ⟨sl,repl hp n b,nx⟩ K) (hF : okO dr l.length ⟨sl,hp,nx⟩ (op) ⟨sl,repl hp n b,nx⟩ = true:=by rfl) : OpsK P T base ops dr (⟨none,op,ty,pos,af,g⟩::l) ⟨sl,hp,nx⟩ K:=
  qs5 n b (Prod.mk.inj hg).1 (Prod.mk.inj hg).2 h hF
theorem Ql {op : Op} (v : V) (b : Blk) (hg : (Qk ops ⟨sl,hp,nx⟩ ⟨some t,op,ty,pos,af,g⟩,opFn T ⟨sl,hp,nx⟩ op) = (some true,some (v,⟨sl,(nx,b)::hp,nx + 1⟩))) (h : OpsK P T base ops dr l ⟨(t,v)::sl,(nx,b)::hp,nx + 1⟩ K) (hF : okO dr l.length ⟨sl,hp,nx⟩ (op) ⟨sl,(nx,b)::hp,nx + 1⟩ = true:=by rfl) : OpsK P T base ops dr (⟨some t,op,ty,pos,af,g⟩::l) ⟨sl,hp,nx⟩ K:=
  qs0 v b (Prod.mk.inj hg).1 (Prod.mk.inj hg).2 h hF
theorem q4y {α : Type} {x : Operand} {xt : TypeId} {i : TI} {es : Nat} {xs : List α} {enc : α→List DV} (n : Int) (hn : (xs.length : Int) = n) (hg : Qk ops ⟨sl,hp,nx⟩ ⟨some t,.call {callee:=.builtin .len,args:=#[x],argTypes:=#[xt]},ty,pos,af,g⟩ = some true) (hT : T xt = some i) (hk : i.kind = .slice) (hx : AS.ev ⟨sl,hp,nx⟩ x = some (.d (.sl es (xs.map enc))))
    (h : OpsK P T base ops dr l ⟨(t,.d (.int .i64 n))::sl,hp,nx⟩ K) : OpsK P T base ops dr (⟨some t,.call {callee:=.builtin .len,args:=#[x],argTypes:=#[xt]},ty,pos,af,g⟩::l) ⟨sl,hp,nx⟩ K:=by
  subst hn;exact qk2 hg hT hk hx h
theorem Qz {α : Type} {x y : Operand} {xt : TypeId} {i : TI} {k : IntKind} {n : Int} {es : Nat} {xs : List α} {enc : α→List DV} {v : α} (hv : idx xs n = some v)
    (hg : (Qk ops ⟨sl,hp,nx⟩ ⟨some t,.indexAddr xt x y,ty,pos,af,g⟩,T xt,AS.ev ⟨sl,hp,nx⟩ x,AS.ev ⟨sl,hp,nx⟩ y,i.kind,es) = (some true,some i,some (.d (.sl es (xs.map enc))),some (.d (.int k n)),.slice,i.esize))
    (h : OpsK P T base ops dr l ⟨(t,.dref (enc v) 0)::sl,hp,nx⟩ K) : OpsK P T base ops dr (⟨some t,.indexAddr xt x y,ty,pos,af,g⟩::l) ⟨sl,hp,nx⟩ K:=by
  simp only [Prod.mk.injEq] at hg
  obtain ⟨h1,h2,h3,h4,h5,h6⟩:=hg
  exact qrv hv h1 h2 h3 h4 h5 h6 h
theorem qw {α : Type} {x y : Operand} {xt : TypeId} {i : TI} {k : IntKind} {n : Int} {m es len : Nat} {xs : List α} {v : α} (hv : idx xs n = some v) (hl : len = xs.length)
    (hg : (Qk ops ⟨sl,hp,nx⟩ ⟨some t,.indexAddr xt x y,ty,pos,af,g⟩,T xt,AS.ev ⟨sl,hp,nx⟩ x,AS.ev ⟨sl,hp,nx⟩ y,i.kind,es) = (some true,some i,some (.hs m es 0 len),some (.d (.int k n)),.slice,i.esize))
    (h : OpsK P T base ops dr l ⟨(t,.ref m es n.toNat 0)::sl,hp,nx⟩ K) : OpsK P T base ops dr (⟨some t,.indexAddr xt x y,ty,pos,af,g⟩::l) ⟨sl,hp,nx⟩ K:=by
  simp only [Prod.mk.injEq] at hg
  obtain ⟨h1,h2,h3,h4,h5,h6⟩:=hg
  exact qru hv hl h1 h2 h3 h4 h5 h6 h
theorem Q7 {α : Type} {p : Operand} {xt : TypeId} {i : TI} {m es j : Nat} {n : Int} {xs : List α} {enc : α→List DV} {r : List DV} {v : α} (w : V) (hv : idx xs n = some v)
    (hg : (Qk ops ⟨sl,hp,nx⟩ ⟨some t,.load xt p,ty,pos,af,g⟩,T xt,AS.ev ⟨sl,hp,nx⟩ p,find hp m,sub (enc v) j i.size,(U4 i.agg r).map V.d) = (some true,some i,some (.ref m es n.toNat j),some (.dat es (xs.map enc)),some r,some w))
    (h : OpsK P T base ops dr l ⟨(t,w)::sl,hp,nx⟩ K) (hF : okF dr l.length (fp ⟨sl,hp,nx⟩ (.load xt p)) = true:=by rfl) : OpsK P T base ops dr (⟨some t,.load xt p,ty,pos,af,g⟩::l) ⟨sl,hp,nx⟩ K:=by
  simp only [Prod.mk.injEq] at hg
  obtain ⟨h1,h2,h3,h4,h5,h6⟩:=hg
  exact qrz w hv h1 h2 h3 h4 h5 h6 h hF
theorem Qy {α : Type} {x : Operand} {xt : TypeId} {i : TI} {es : Nat} {xs : List α} {enc : α→List DV}
    (hg : (Qk ops ⟨sl,hp,nx⟩ ⟨some t,.call {callee:=.builtin .len,args:=#[x],argTypes:=#[xt]},ty,pos,af,g⟩,T xt,i.kind,AS.ev ⟨sl,hp,nx⟩ x) = (some true,some i,.slice,some (.d (.sl es (xs.map enc)))))
    (h : OpsK P T base ops dr l ⟨(t,.d (.int .i64 (xs.length : Int)))::sl,hp,nx⟩ K) : OpsK P T base ops dr (⟨some t,.call {callee:=.builtin .len,args:=#[x],argTypes:=#[xt]},ty,pos,af,g⟩::l) ⟨sl,hp,nx⟩ K:=by
  simp only [Prod.mk.injEq] at hg
  obtain ⟨h1,h2,h3,h4⟩:=hg
  exact qk2 h1 h2 h3 h4 h
theorem Q5 {c : Call} {f : FuncId} {ds : List DV} {r : DV} {vs : List V} (hpu : Pure P T f ds r) (hg : (Qk ops ⟨sl,hp,nx⟩ ⟨some t,.call c,ty,pos,af,g⟩,callee ⟨sl,hp,nx⟩ c,Kg hp vs,vs.all V.isD) = (some true,some (f,vs),some ds,true))
    (h : OpsK P T base ops dr l ⟨(t,.d r)::sl,hp,nx⟩ K) (hF : okF dr l.length (fpC vs) = true:=by rfl) : OpsK P T base ops dr (⟨some t,.call c,ty,pos,af,g⟩::l) ⟨sl,hp,nx⟩ K:=by
  simp only [Prod.mk.injEq] at hg
  obtain ⟨h1,h2,h3,h4⟩:=hg
  exact q4z vs hpu h1 h2 h3 (.inl h4) h hF
theorem Q4 {st : AS} {rs : List ResultVar} {r : DV} (v : V) (hg : (resV T st rs,toD st.hp 8 v) = (some v,some r)) : (Ex.ret = .nor∨Ex.ret = .ret)∧∃ v r',resV T st rs = some v∧toD st.hp 8 v = some r'∧DLe r' r:=by
  simp only [Prod.mk.injEq] at hg
  exact ⟨.inr rfl,v,r,hg.1,hg.2,.refl _⟩
theorem qc {id : Nat} {ops : Array Oper} {b : Code} {cs : List Code} {st : AS} {K : Ex→AS→Prop} (h : OpsK P T base ops none ops.toList st (fun st'=>RunK P T base (b::cs) st' K)) : RunK P T base (.seq (.region id ops false) b::cs) st K:=qh (qy h)
theorem qs {ops0 ops : Array Oper} {id : Nat} {b : Code} {cs : List Code} {st : AS} {K : Ex→AS→Prop} (h : OpsK P T base ops none ops.toList st (fun st'=>RunK P T base (b::cs) st' K)) : OpsK P T base ops0 dr [] st (fun st'=>RunK P T base (.seq (.region id ops false) b::cs) st' K):=qa (qh (qy h))
theorem qv {ops0 : Array Oper} {cs : List Code} {st : AS} {K : Ex→AS→Prop} (h : K .ret st) : OpsK P T base ops0 dr [] st (fun st'=>RunK P T base (.ret::cs) st' K):=qa (q1h h)
theorem qx {ops0 : Array Oper} {st : AS} {K : Ex→AS→Prop} (h : K .nor st) : OpsK P T base ops0 dr [] st (fun st'=>RunK P T base [] st' K):=qa (Qc h)
theorem K2 {dst : Option Tmp} {c : Call} {f : FuncId} {vs' : List V} {hp0 hpR : List (Nat × Blk)} {k nR : Nat} {vR : V} (l1 l3 : List (Nat × Nat)) (vs : List V) (vN : V) (n : Nat) (hpN : List (Nat × Blk)) (nxN : Nat) (he : K0 P T f vs' hp0 k vR hpR nR)
    (h : OpsK P T base ops none l ((⟨sl,hpN,nxN⟩ : AS).putD dst vN) K)
    (hg : Qk ops ⟨sl,hp,nx⟩ ⟨dst,.call c,ty,pos,af,g⟩ = some true:=by exact rfl) (hc : callee ⟨sl,hp,nx⟩ c = some (f,vs):=by exact rfl) (hlen : vs.length = vs'.length:=by exact rfl)
    (o1 : wkOk 0 l1 [] [] hp0 k = true:=by exact rfl)
    (s1 : WkL ⟨Ks 0 vs,hp,nx⟩ (rho l1) [] [] k (Ks 0 vs'):=by
      repeat' first | exact trivial | refine And.intro (Exists.intro _ (And.intro rfl ?_)) ?_ | exact Wv.d (DLe.refl _) | exact Wv.ref rfl qt (ltd rfl) | exact Wv.hs rfl qt (ltd rfl) | exact Wv.d (DLe.nil _) | refine qch ?_ | refine qg0 ?_ | refine q1u ?_ | refine WvL.cons ?_ ?_ | exact WvL.nil | exact Wv.dref _ _ | exact Wv.yld rfl qt (ltd rfl))
    (b1 : WkH ⟨Ks 0 vs,hp,nx⟩ (rho l1) [] [] k hp0:=by
      repeat' first | exact trivial | refine And.intro (And.intro (ltd rfl) (Or.inr (And.intro qt (Exists.intro _ (And.intro rfl ?_))))) ?_ | exact Wb.dat _ _ | refine Zt ?_ | refine qfx ?_ | refine WvC.cons ?_ rfl ?_ | exact WvC.nil | exact Wv.d (DLe.refl _) | exact Wv.ref rfl qt (ltd rfl) | exact Wv.hs rfl qt (ltd rfl) | exact Wv.d (DLe.nil _))
    (o3 : wkOk 0 l3 [] [] (hpN.take n) nxN = true:=by exact rfl)
    (s3 : WkL ⟨[(0,vR)],hpR,nR⟩ (rho l3) [] [] nxN [(0,vN)]:=by
      repeat' first | exact trivial | refine And.intro (Exists.intro _ (And.intro rfl ?_)) ?_ | exact Wv.d (DLe.refl _) | exact Wv.ref rfl qt (ltd rfl) | exact Wv.hs rfl qt (ltd rfl) | exact Wv.d (DLe.nil _) | refine qch ?_ | refine qg0 ?_ | refine q1u ?_ | refine WvL.cons ?_ ?_ | exact WvL.nil | exact Wv.dref _ _ | exact Wv.yld rfl qt (ltd rfl))
    (b3 : WkH ⟨[(0,vR)],hpR,nR⟩ (rho l3) [] [] nxN (hpN.take n):=by
      repeat' first | exact trivial | refine And.intro (And.intro (ltd rfl) (Or.inr (And.intro qt (Exists.intro _ (And.intro rfl ?_))))) ?_ | exact Wb.dat _ _ | refine Zt ?_ | refine qfx ?_ | refine WvC.cons ?_ rfl ?_ | exact WvC.nil | exact Wv.d (DLe.refl _) | exact Wv.ref rfl qt (ltd rfl) | exact Wv.hs rfl qt (ltd rfl) | exact Wv.d (DLe.nil _))
    (hb : q72 l1 l3 k nR nx nxN = true:=by exact rfl)
    (hold : OldL l1 k hp (hpN.take n) hpN:=by repeat' first | exact trivial | refine And.intro (Or.inl rfl) ?_ | refine And.intro (Or.inr (And.intro rfl rfl)) ?_) :
    OpsK P T base ops none (⟨dst,.call c,ty,pos,af,g⟩::l) ⟨sl,hp,nx⟩ K:=
  Jq l1 l3 vs vN (hpN.take n) hpN nxN he hg hc hlen (Y4 l1 [] [] o1 s1 b1) (Y4 l3 [] [] o3 s3 b3) hb hold h
end
inductive WvR (st : AS) (ρ : Nat→Nat) (fz ph : List Nat) (nx : Nat) : List (List V)→List (List V)→Prop
  | nil : WvR st ρ fz ph nx [] []
  | cons {c d : List V} {cs ds : List (List V)} : WvC st ρ fz ph nx c d→WvR st ρ fz ph nx cs ds→WvR st ρ fz ph nx (c::cs) (d::ds)
theorem WvR.len {st : AS} {ρ : Nat→Nat} {fz ph : List Nat} {nx : Nat} {cs ds : List (List V)} (h : WvR st ρ fz ph nx cs ds) : cs.length = ds.length:=by
  induction h with
  | nil=>rfl
  | cons _ _ ih=>simp [ih]
theorem WvR.get {st : AS} {ρ : Nat→Nat} {fz ph : List Nat} {nx : Nat} {cs ds : List (List V)} (h : WvR st ρ fz ph nx cs ds) : ∀ (j : Nat) (c d : List V),cs[j]? = some c→ds[j]? = some d→WvC st ρ fz ph nx c d:=by
  induction h with
  | nil=>intro i x y h;simp at h
  | cons h1 _ ih=>
    intro i x y hx hy
    cases i with
    | zero=>simp at hx hy;subst hx;subst hy;exact h1
    | succ i=>exact ih i x y (by simpa using hx) (by simpa using hy)
theorem q10t {st : AS} {ρ : Nat→Nat} {fz ph : List Nat} {nx es : Nat} {cs ds : List (List V)} (h : WvR st ρ fz ph nx cs ds) : Wb st ρ fz ph nx (.cel es cs) (.cel es ds):=
  .cel h.len fun i x y hx hy=>⟨(h.get i x y hx hy).len,(h.get i x y hx hy).get⟩
theorem q10u {st : AS} {ρ : Nat→Nat} {fz ph : List Nat} {nx es : Nat} {cs : List (List DV)} {ds : List (List V)} (h : WvR st ρ fz ph nx (cs.map (·.map .d)) ds) : Wb st ρ fz ph nx (.dat es cs) (.cel es ds):=by
  refine .datcel (by simpa using h.len) fun i x y hx hy=>?_
  have h1:=h.get i (x.map .d) y (by simp [hx]) hy
  refine ⟨by simpa using h1.len,fun j c d hc hd=>h1.get j (.d c) d (by simp [hc]) hd⟩
theorem wkA {base : Nat} {st st' : AS} (l : List (Nat × Nat)) (fz ph : List Nat) (hok : wkOk base l fz ph st'.hp st'.nx = true:=by exact rfl)
    (hs : WkL st (rho l) fz ph st'.nx st'.sl:=by
      repeat' first | exact trivial | refine And.intro (Exists.intro _ (And.intro rfl ?_)) ?_ | exact Wv.d (DLe.refl _) | exact Wv.ref rfl qt (ltd rfl) | exact Wv.hs rfl qt (ltd rfl) | exact Wv.d (DLe.nil _) | exact Wv.nil qt (ltd rfl) | exact qn0 rfl rfl qt | refine qch ?_ | refine q111 ?_ | refine qg0 ?_ | refine q112 ?_ | refine q1u ?_ | refine WvL.cons ?_ ?_ | exact WvL.nil | exact Wv.dref _ _ | exact Wv.yld rfl qt (ltd rfl))
    (hh : WkH st (rho l) fz ph st'.nx st'.hp:=by
      repeat' first | exact trivial | refine And.intro (And.intro (ltd rfl) (Or.inr (And.intro qt (Exists.intro _ (And.intro rfl ?_))))) ?_ | refine And.intro (And.intro (ltd rfl) (Or.inl (And.intro qt (Exists.intro _ (And.intro qt rfl))))) ?_ | exact Wb.dat _ _ | refine Zt ?_ | refine qfx ?_ | refine q10t ?_ | refine q10u ?_ | refine WvR.cons ?_ ?_ | exact WvR.nil | refine q10v ?_ | refine WvS.cons rfl ?_ ?_ | exact WvS.nil | refine WvC.cons ?_ rfl ?_ | exact WvC.nil | exact Wv.d (DLe.refl _) | exact Wv.ref rfl qt (ltd rfl) | exact Wv.hs rfl qt (ltd rfl) | exact Wv.d (DLe.nil _) | exact Wv.nil qt (ltd rfl) | exact qn0 rfl rfl qt | refine q1u ?_ | refine qch ?_ | refine WvL.cons ?_ ?_ | exact WvL.nil | exact Wv.yld rfl qt (ltd rfl)) : WkE base st st':=wkE l fz ph hok hs hh
theorem qq {st : AS} {ρ : Nat→Nat} {fz ph : List Nat} {nx t : Nat} {x : DV} (h : st.get t = some (.d x)) : ∃ v,st.get t = some v∧Wv st ρ fz ph nx v (.d x):=⟨_,h,.d (.refl _)⟩
theorem Qg {st : AS} {ρ : Nat→Nat} {fz ph : List Nat} {nx n es : Nat} {xs : List (List DV)} (h1 : Nat.blt n nx = true) (h3 : st.blk (ρ n) = some (.dat es xs)) (h2 : n ∉ ph:=by decide) :
    n < nx∧((n∈ph∧∃ e,e≠0∧(Blk.dat es xs) = .dat e [])∨(n ∉ ph∧∃ b,st.blk (ρ n) = some b∧Wb st ρ fz ph nx b (.dat es xs))):=⟨ltd h1,.inr ⟨h2,_,h3,.dat _ _⟩⟩
abbrev q8 : Option (List Nat) × List Nat:=(some [],[])
abbrev qr (n : Nat) : Option (List Nat) × List Nat:=(some [n],[])
abbrev Qh (n : Nat) : Option (List Nat) × List Nat:=(some [n],[n])
end Go.Am
