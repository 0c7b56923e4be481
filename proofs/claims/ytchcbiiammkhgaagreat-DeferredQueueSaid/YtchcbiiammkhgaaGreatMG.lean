/- A part of the proof: contracts of functions that the statement reaches. -/
import Derived.Test.YtchcbiiammkhgaaGreatLF
import Derived.KernelRfl
import Derived.Eval
import Derived.Test.YtchcbiiammkhgaaGreatChecked
set_option linter.unusedSimpArgs false
set_option linter.unusedVariables false
set_option linter.unnecessarySimpa false
set_option maxRecDepth 100000
set_option maxHeartbeats 2000000
noncomputable section
namespace Go.Abs
open Go.Proofs
theorem hm:Tryz.prog.follows .mixedOrders=true:=Tryz.checked.mixed
def shL:List (Nat×List Bool):= [(22,[true,true]),(23,[true,true]),(24,[true,true,true,true,true]),(25,[true,true,true,true,true]),(50,[true,true,true]),(51,[true,true,true]),(56,[true,true,true,true]),(57,[true,true,true,true,true,true,true,true,true,true,true,false,true,true,false,true,true,true,true,false,true,true,true,true]),(58,[true,true,true,true,true,true,true,true,true,true,true,false,true,true,false,true,true,true,true,false,true,true,true,true]),(128,[true,true,true,true]),(129,[true,true,true,true]),(189,[true,true,true,true]),(190,[true,true,true,true]),(194,[true,true,true,true,true,true]),(195,[true,true,true,true,true,true]),(207,[true,true,true,true,true]),(208,[true,true,true,true,true]),(220,[true,true,true,true,true]),(221,[true,true,true,true,true]),(298,[true,true,true,true]),(299,[true,true,true,true]),(346,[true,true]),(347,[true,true]),(348,[true,true]),(411,[true,true]),(412,[true,true]),(437,[true,true,true,true,true,true]),(438,[true,true,true,true,true,true]),(440,[true,true,true,true,true]),(441,[true,true,true,true,true]),(524,[true,true,true,true]),(525,[true,true,true,true]),(533,[true,true,true]),(534,[true,true,true]),(550,[true,true,true,true]),(551,[true,true,true,true]),(568,[true,true,true,true,true]),(569,[true,true,true,true,true])]
theorem A4:okE Tryz.prog shL=true:=by kernel_rfl
abbrev C21:Nat:=3
abbrev E1t:Nat:=8
abbrev D8t:Nat:=9
abbrev D58:Nat:=10
abbrev D8j:Nat:=11
abbrev A9t:Nat:=12
abbrev A45:Nat:=13
abbrev A8t:Nat:=14
abbrev E6r:Nat:=15
abbrev A9u:Nat:=16
abbrev A79:Nat:=17
abbrev B1k:Nat:=18
abbrev E1z:Nat:=38
abbrev E6s:Nat:=39
abbrev C1l:Nat:=40
abbrev F4q:Nat:=41
abbrev D2j:Nat:=42
abbrev D2k:Nat:=43
abbrev C68:Nat:=44
abbrev C64:Nat:=45
abbrev E1s:Nat:=46
abbrev D4m:Nat:=47
abbrev C6k:Nat:=48
abbrev A8u:Nat:=49
abbrev E3n:Nat:=50
abbrev B56:Nat:=51
abbrev E1r:Nat:=52
abbrev A7k:Nat:=53
abbrev E9q:Nat:=54
abbrev E6q:Nat:=55
abbrev E6p:Nat:=56
abbrev A4a:Nat:=57
abbrev D6m:Nat:=58
abbrev D6h:Nat:=76
abbrev D8p:Nat:=77
abbrev D8q:Nat:=78
abbrev D6f:Nat:=79
abbrev D8s:Nat:=80
abbrev E9s:Nat:=81
abbrev D6e:Nat:=82
abbrev D8u:Nat:=83
abbrev D2l:Nat:=84
abbrev B8w:Nat:=85
abbrev E9y:Nat:=86
abbrev C7g:Nat:=87
abbrev C7h:Nat:=88
abbrev C3c:Nat:=89
abbrev C7c:Nat:=90
abbrev C4u:Nat:=91
abbrev C1p:Nat:=92
abbrev C1r:Nat:=93
abbrev E3e:Nat:=94
abbrev B8v:Nat:=95
abbrev D31:Nat:=96
abbrev D30:Nat:=97
abbrev C2z:Nat:=98
abbrev E3m:Nat:=99
abbrev C1h:Nat:=101
abbrev C23:Nat:=102
abbrev C8l:Nat:=105
abbrev D6l:Nat:=106
abbrev B7m:Nat:=107
abbrev D8z:Nat:=108
abbrev B7x:Nat:=109
abbrev C4c:Nat:=110
abbrev B41:Nat:=111
abbrev D2e:Nat:=112
abbrev C60:Nat:=113
abbrev E6u:Nat:=114
abbrev C6j:Nat:=115
abbrev C4f:Nat:=116
abbrev E1m:Nat:=117
abbrev D8y:Nat:=118
abbrev C8x:Nat:=119
abbrev A5x:Nat:=120
abbrev D2m:Nat:=121
abbrev C27:Nat:=122
abbrev D6k:Nat:=123
abbrev E1x:Nat:=132
abbrev C24:Nat:=133
abbrev D2i:Nat:=134
abbrev E1y:Nat:=135
abbrev E3i:Nat:=136
abbrev E9r:Nat:=137
abbrev E3k:Nat:=138
abbrev D6g:Nat:=139
abbrev D54:Nat:=140
abbrev D39:Nat:=141
abbrev C7f:Nat:=142
abbrev D4l:Nat:=143
abbrev C3d:Nat:=144
abbrev C1c:Nat:=145
abbrev B4w:Nat:=146
abbrev B93:Nat:=147
abbrev A9z:Nat:=148
abbrev C3b:Nat:=149
abbrev E10:Nat:=150
abbrev B6b:Nat:=151
abbrev C4d:Nat:=152
abbrev C1b:Nat:=153
abbrev D32:Nat:=154
abbrev C78:Nat:=155
abbrev C6y:Nat:=156
abbrev C6z:Nat:=157
abbrev D37:Nat:=158
abbrev B01:Nat:=159
abbrev B58:Nat:=160
abbrev D4h:Nat:=161
abbrev C7b:Nat:=162
abbrev C8h:Nat:=164
abbrev A9w:Nat:=165
abbrev C26:Nat:=166
abbrev D50:Nat:=168
abbrev D8w:Nat:=169
abbrev E6o:Nat:=176
abbrev D4j:Nat:=177
abbrev C0i:Nat:=178
abbrev C4g:Nat:=179
abbrev D17:Nat:=180
abbrev C8y:Nat:=181
abbrev B8u:Nat:=182
abbrev C73:Nat:=183
abbrev C1t:Nat:=184
abbrev C8w:Nat:=185
abbrev E1o:Nat:=186
abbrev D4i:Nat:=187
abbrev D8i:Nat:=188
abbrev C8v:Nat:=189
abbrev B1m:Nat:=190
abbrev A30:Nat:=191
abbrev D2d:Nat:=192
abbrev C2x:Nat:=193
abbrev D53:Nat:=194
abbrev C29:Nat:=195
abbrev C61:Nat:=196
abbrev E9o:Nat:=197
abbrev C8r:Nat:=198
abbrev D2n:Nat:=199
abbrev B1l:Nat:=200
abbrev C4s:Nat:=201
abbrev B70:Nat:=202
abbrev A04:Nat:=203
abbrev C77:Nat:=204
abbrev C72:Nat:=205
abbrev C74:Nat:=206
abbrev C4r:Nat:=207
abbrev B40:Nat:=208
abbrev D8v:Nat:=209
abbrev E3l:Nat:=210
abbrev F4p:Nat:=219
abbrev E6m:Nat:=220
abbrev D8o:Nat:=221
abbrev D8r:Nat:=222
abbrev D2h:Nat:=223
abbrev D6c:Nat:=224
abbrev E6l:Nat:=225
abbrev D8g:Nat:=226
abbrev C09:Nat:=227
abbrev D18:Nat:=228
abbrev C1j:Nat:=229
abbrev C63:Nat:=230
abbrev C4h:Nat:=231
abbrev B94:Nat:=232
abbrev B42:Nat:=233
abbrev D2u:Nat:=234
abbrev B09:Nat:=235
abbrev A90:Nat:=236
abbrev C70:Nat:=237
abbrev D19:Nat:=238
abbrev B68:Nat:=239
abbrev B20:Nat:=240
abbrev C8t:Nat:=241
abbrev C2v:Nat:=242
abbrev E6t:Nat:=243
abbrev B64:Nat:=244
abbrev C1d:Nat:=245
abbrev B71:Nat:=246
abbrev B3m:Nat:=247
abbrev D4f:Nat:=248
abbrev D4a:Nat:=249
abbrev B91:Nat:=250
abbrev B3i:Nat:=251
abbrev C8a:Nat:=252
abbrev B90:Nat:=253
abbrev E9w:Nat:=254
abbrev B3j:Nat:=255
abbrev B1j:Nat:=256
abbrev B8t:Nat:=257
abbrev D38:Nat:=258
abbrev C28:Nat:=259
abbrev B3n:Nat:=260
abbrev D6b:Nat:=261
abbrev E6v:Nat:=264
abbrev B2z:Nat:=267
abbrev D2o:Nat:=268
abbrev C4v:Nat:=269
abbrev D4g:Nat:=270
abbrev E11:Nat:=271
abbrev E9x:Nat:=272
abbrev C8n:Nat:=273
abbrev C81:Nat:=274
abbrev E3a:Nat:=275
abbrev D51:Nat:=276
abbrev D15:Nat:=277
abbrev E9v:Nat:=278
abbrev C3a:Nat:=281
abbrev D6d:Nat:=294
abbrev A9v:Nat:=295
abbrev A59:Nat:=296
abbrev E3p:Nat:=297
abbrev E6j:Nat:=298
abbrev E6h:Nat:=299
abbrev E6k:Nat:=300
abbrev C8c:Nat:=301
abbrev C4e:Nat:=302
abbrev D6i:Nat:=303
abbrev D4b:Nat:=304
abbrev E6x:Nat:=305
abbrev D2t:Nat:=306
abbrev C2w:Nat:=307
abbrev C7y:Nat:=308
abbrev C1f:Nat:=309
abbrev B7v:Nat:=310
abbrev E6w:Nat:=311
abbrev C1g:Nat:=312
abbrev B9z:Nat:=313
abbrev D2p:Nat:=314
abbrev C6x:Nat:=315
abbrev C7d:Nat:=316
abbrev B7u:Nat:=317
abbrev C71:Nat:=318
abbrev D55:Nat:=319
abbrev C22:Nat:=320
abbrev D2r:Nat:=321
abbrev C80:Nat:=322
abbrev E12:Nat:=323
abbrev E6e:Nat:=324
abbrev D2a:Nat:=325
abbrev B97:Nat:=326
abbrev D8x:Nat:=327
abbrev A9j:Nat:=328
abbrev B3o:Nat:=329
abbrev B03:Nat:=330
abbrev C4t:Nat:=331
abbrev B04:Nat:=332
abbrev A9y:Nat:=333
abbrev B59:Nat:=334
abbrev C1e:Nat:=335
abbrev D34:Nat:=336
abbrev C2y:Nat:=337
abbrev E1v:Nat:=348
abbrev C8k:Nat:=349
abbrev E3j:Nat:=350
abbrev F11:Nat:=351
abbrev D8n:Nat:=352
abbrev C8j:Nat:=353
abbrev E9p:Nat:=354
abbrev D8m:Nat:=355
abbrev D4c:Nat:=356
abbrev D8f:Nat:=357
abbrev E1l:Nat:=358
abbrev D2s:Nat:=359
abbrev E1k:Nat:=360
abbrev C76:Nat:=361
abbrev D57:Nat:=362
abbrev C4i:Nat:=363
abbrev B3q:Nat:=364
abbrev C7z:Nat:=365
abbrev D6j:Nat:=366
abbrev E9t:Nat:=367
abbrev B95:Nat:=368
abbrev B6a:Nat:=369
abbrev B63:Nat:=370
abbrev C1a:Nat:=371
abbrev E3f:Nat:=374
abbrev D2b:Nat:=375
abbrev C8q:Nat:=376
abbrev B7z:Nat:=377
abbrev B4z:Nat:=378
abbrev C8p:Nat:=379
abbrev C8f:Nat:=380
abbrev C1k:Nat:=381
abbrev D8k:Nat:=382
abbrev B92:Nat:=383
abbrev C4j:Nat:=384
abbrev C79:Nat:=385
abbrev D6a:Nat:=386
abbrev B08:Nat:=387
abbrev C7a:Nat:=388
abbrev D4d:Nat:=389
abbrev B7w:Nat:=390
abbrev D59:Nat:=391
abbrev B02:Nat:=392
abbrev D6n:Nat:=393
abbrev D80:Nat:=394
abbrev C8u:Nat:=395
abbrev C8i:Nat:=396
abbrev E3g:Nat:=400
abbrev E1p:Nat:=403
abbrev C1u:Nat:=404
abbrev C4q:Nat:=405
abbrev D36:Nat:=406
abbrev D3x:Nat:=407
abbrev D52:Nat:=408
abbrev E3b:Nat:=409
abbrev E3c:Nat:=410
abbrev D35:Nat:=415
abbrev E6i:Nat:=416
abbrev C1i:Nat:=417
abbrev B66:Nat:=418
abbrev D4k:Nat:=419
abbrev B8s:Nat:=420
abbrev B9y:Nat:=421
abbrev B57:Nat:=422
abbrev C25:Nat:=423
abbrev C4o:Nat:=424
abbrev C4n:Nat:=425
abbrev C20:Nat:=426
abbrev C4p:Nat:=427
abbrev D2c:Nat:=428
abbrev C66:Nat:=429
abbrev C62:Nat:=430
abbrev C67:Nat:=431
abbrev C8g:Nat:=432
abbrev C0j:Nat:=433
abbrev C4w:Nat:=434
abbrev E3o:Nat:=435
abbrev B65:Nat:=436
abbrev E3h:Nat:=437
abbrev B4v:Nat:=438
abbrev B7y:Nat:=439
abbrev C8s:Nat:=440
abbrev C8d:Nat:=441
abbrev C8b:Nat:=442
abbrev D16:Nat:=443
abbrev E6d:Nat:=444
abbrev E6f:Nat:=445
abbrev D3y:Nat:=446
abbrev E3d:Nat:=447
abbrev C75:Nat:=448
abbrev D33:Nat:=449
abbrev F10:Nat:=458
abbrev E1w:Nat:=459
abbrev D2g:Nat:=460
abbrev E6n:Nat:=461
abbrev D8l:Nat:=462
abbrev C7e:Nat:=463
abbrev E1j:Nat:=464
abbrev A9x:Nat:=465
abbrev B96:Nat:=466
abbrev C6i:Nat:=467
abbrev B6c:Nat:=469
abbrev A9i:Nat:=470
abbrev C1s:Nat:=481
abbrev C4m:Nat:=482
abbrev E1u:Nat:=483
abbrev C8o:Nat:=484
abbrev C1n:Nat:=485
abbrev E1q:Nat:=486
abbrev C1m:Nat:=487
abbrev A2d:Nat:=488
abbrev D4e:Nat:=489
abbrev E9u:Nat:=490
abbrev C8m:Nat:=491
abbrev E1n:Nat:=492
abbrev D56:Nat:=511
abbrev B8r:Nat:=512
abbrev C65:Nat:=513
abbrev C4k:Nat:=514
abbrev C4l:Nat:=515
abbrev B3p:Nat:=516
abbrev B2y:Nat:=517
abbrev E6g:Nat:=518
abbrev C6w:Nat:=519
abbrev C8z:Nat:=520
abbrev D2f:Nat:=540
abbrev C69:Nat:=541
abbrev D3z:Nat:=542
abbrev C8e:Nat:=549
abbrev B6e:Nat:=550
abbrev B6d:Nat:=551
abbrev C1q:Nat:=552
abbrev B1i:Nat:=553
abbrev D2q:Nat:=554
abbrev D8h:Nat:=567
abbrev B67:Nat:=570
abbrev C1o:Nat:=571
end Go.Abs
end
noncomputable section
namespace Go.Abs
open Go.Proofs
open Api
theorem B6s(l:List Vec)(hl:l.length<=1048576):A1 Tryz.prog C8t [A2 2 Vec.enc default l] [] (.sl 1 0 l.length l.length) [(1, .arr 2 (A8 Vec.enc default l))]:=by
 by_cases hn:l= []
 ·subst hn;refine A1.nil_split (g:=L7 Vec.enc default ([]:List Vec)) [] [] ?_ (λa c=> ?_)
  ·refine H8 hm A4 Tryz.func241 rfl rfl ?_;simp only[go_sem];refine C8 [.adopt] [] [1] rfl rfl (by simp) (by simp) (by simp) ?_;simp only[go_sem]
  ·refine H8 hm A4 Tryz.func241 rfl rfl ?_;simp only[go_sem];refine⟨by simp[maxLen],?_⟩;refine C8 [.share] [(1,96)] [] rfl rfl (by simp) (by simp) (by simp) ?_;simp only[go_sem];exact⟨rfl,rfl,λi hi=>absurd hi (by simp)⟩
 ·have hpos:0<l.length:=List.length_pos_iff.2 hn
  refine H8 hm A4 Tryz.func241 rfl rfl ?_;simp only[go_sem];refine⟨hpos,⟨by omega,by simp only[maxLen];omega⟩,?_⟩;refine C8 [.share] [(1,96)] [] rfl rfl (by simp) (by simp) (by simp) ?_;simp only[go_sem]
theorem A8a(l:List ContactPoint)(hl:l.length<=1048576):A1 Tryz.prog B6b [A2 6 ContactPoint.enc default l] [] (.sl 1 0 l.length l.length) [(1, .arr 6 (A8 ContactPoint.enc default l))]:=by
 by_cases hn:l= []
 ·subst hn;refine A1.nil_split (g:=L7 ContactPoint.enc default ([]:List ContactPoint)) [] [] ?_ (λa c=> ?_)
  ·refine H8 hm A4 Tryz.func151 rfl rfl ?_;simp only[go_sem];refine C8 [.adopt] [] [1] rfl rfl (by simp) (by simp) (by simp) ?_;simp only[go_sem]
  ·refine H8 hm A4 Tryz.func151 rfl rfl ?_;simp only[go_sem];refine⟨by simp[maxLen],?_⟩;refine C8 [.share] [(1,96)] [] rfl rfl (by simp) (by simp) (by simp) ?_;simp only[go_sem];exact⟨rfl,rfl,λi hi=>absurd hi (by simp)⟩
 ·have hpos:0<l.length:=List.length_pos_iff.2 hn
  refine H8 hm A4 Tryz.func151 rfl rfl ?_;simp only[go_sem];refine⟨hpos,⟨by omega,by simp only[maxLen];omega⟩,?_⟩;refine C8 [.share] [(1,96)] [] rfl rfl (by simp) (by simp) (by simp) ?_;simp only[go_sem]
theorem A9g(l:List Body)(hl:l.length<=1048576):A1 Tryz.prog C7c [A2 20 Body.enc default l] [] (.sl 1 0 l.length l.length) [(1, .arr 20 (A8 Body.enc default l))]:=by
 by_cases hn:l= []
 ·subst hn;refine A1.nil_split (g:=L7 Body.enc default ([]:List Body)) [] [] ?_ (λa c=> ?_)
  ·refine H8 hm A4 Tryz.func90 rfl rfl ?_;simp only[go_sem];refine C8 [.adopt] [] [1] rfl rfl (by simp) (by simp) (by simp) ?_;simp only[go_sem]
  ·refine H8 hm A4 Tryz.func90 rfl rfl ?_;simp only[go_sem];refine⟨by simp[maxLen],?_⟩;refine C8 [.share] [(1,96)] [] rfl rfl (by simp) (by simp) (by simp) ?_;simp only[go_sem];exact⟨rfl,rfl,λi hi=>absurd hi (by simp)⟩
 ·have hpos:0<l.length:=List.length_pos_iff.2 hn
  refine H8 hm A4 Tryz.func90 rfl rfl ?_;simp only[go_sem];refine⟨hpos,⟨by omega,by simp only[maxLen];omega⟩,?_⟩;refine C8 [.share] [(1,96)] [] rfl rfl (by simp) (by simp) (by simp) ?_;simp only[go_sem]
theorem A8s(l:List Joint)(hl:l.length<=1048576):A1 Tryz.prog C4u [A2 24 Joint.enc default l] [] (.sl 1 0 l.length l.length) [(1, .arr 24 (A8 Joint.enc default l))]:=by
 by_cases hn:l= []
 ·subst hn;refine A1.nil_split (g:=L7 Joint.enc default ([]:List Joint)) [] [] ?_ (λa c=> ?_)
  ·refine H8 hm A4 Tryz.func91 rfl rfl ?_;simp only[go_sem];refine C8 [.adopt] [] [1] rfl rfl (by simp) (by simp) (by simp) ?_;simp only[go_sem]
  ·refine H8 hm A4 Tryz.func91 rfl rfl ?_;simp only[go_sem];refine⟨by simp[maxLen],?_⟩;refine C8 [.share] [(1,96)] [] rfl rfl (by simp) (by simp) (by simp) ?_;simp only[go_sem];exact⟨rfl,rfl,λi hi=>absurd hi (by simp)⟩
 ·have hpos:0<l.length:=List.length_pos_iff.2 hn
  refine H8 hm A4 Tryz.func91 rfl rfl ?_;simp only[go_sem];refine⟨hpos,⟨by omega,by simp only[maxLen];omega⟩,?_⟩;refine C8 [.share] [(1,96)] [] rfl rfl (by simp) (by simp) (by simp) ?_;simp only[go_sem]
theorem B14(l:List Contact)(hl:l.length<=1048576):A1 Tryz.prog C1p [A2 7 Contact.enc default l] [] (.sl 1 0 l.length l.length) [(1, .arr 7 (A8 Contact.enc default l))]:=by
 by_cases hn:l= []
 ·subst hn;refine A1.nil_split (g:=L7 Contact.enc default ([]:List Contact)) [] [] ?_ (λa c=> ?_)
  ·refine H8 hm A4 Tryz.func92 rfl rfl ?_;simp only[go_sem];refine C8 [.adopt] [] [1] rfl rfl (by simp) (by simp) (by simp) ?_;simp only[go_sem]
  ·refine H8 hm A4 Tryz.func92 rfl rfl ?_;simp only[go_sem];refine⟨by simp[maxLen],?_⟩;refine C8 [.share] [(1,96)] [] rfl rfl (by simp) (by simp) (by simp) ?_;simp only[go_sem];exact⟨rfl,rfl,λi hi=>absurd hi (by simp)⟩
 ·have hpos:0<l.length:=List.length_pos_iff.2 hn
  refine H8 hm A4 Tryz.func92 rfl rfl ?_;simp only[go_sem];refine⟨hpos,⟨by omega,by simp only[maxLen];omega⟩,?_⟩;refine C8 [.share] [(1,96)] [] rfl rfl (by simp) (by simp) (by simp) ?_;simp only[go_sem]
theorem B15(l:List PairKey)(hl:l.length<=1048576):A1 Tryz.prog C1r [A2 4 PairKey.enc default l] [] (.sl 1 0 l.length l.length) [(1, .arr 4 (A8 PairKey.enc default l))]:=by
 by_cases hn:l= []
 ·subst hn;refine A1.nil_split (g:=L7 PairKey.enc default ([]:List PairKey)) [] [] ?_ (λa c=> ?_)
  ·refine H8 hm A4 Tryz.func93 rfl rfl ?_;simp only[go_sem];refine C8 [.adopt] [] [1] rfl rfl (by simp) (by simp) (by simp) ?_;simp only[go_sem]
  ·refine H8 hm A4 Tryz.func93 rfl rfl ?_;simp only[go_sem];refine⟨by simp[maxLen],?_⟩;refine C8 [.share] [(1,96)] [] rfl rfl (by simp) (by simp) (by simp) ?_;simp only[go_sem];exact⟨rfl,rfl,λi hi=>absurd hi (by simp)⟩
 ·have hpos:0<l.length:=List.length_pos_iff.2 hn
  refine H8 hm A4 Tryz.func93 rfl rfl ?_;simp only[go_sem];refine⟨hpos,⟨by omega,by simp only[maxLen];omega⟩,?_⟩;refine C8 [.share] [(1,96)] [] rfl rfl (by simp) (by simp) (by simp) ?_;simp only[go_sem]
def Shape.sm(s:Shape):Prop:=s.Vertices.length<=1048576
def Fixture.sm(f:Fixture):Prop:=Shape.sm f.Shape
def Body.sm(b:Body):Prop:=b.Fixtures.length<=1048576/\ ∀f∈b.Fixtures,Fixture.sm f
def Manifold.sm(m:Manifold):Prop:=m.Points.length<=1048576
def Wsm(w:Api.World):Prop:=w.Bodies.length<=1048576/\w.Joints.length<=1048576/\w.Contacts.length<=1048576/\w.Overlaps.length<=1048576/\(∀b∈w.Bodies,Body.sm b)/\ ∀c∈w.Contacts,Manifold.sm c.Manifold
theorem E2q(s:Shape)(h:Shape.sm s):A1 Tryz.prog E10 [.agg s.enc] [] (.agg s.enc) []:=by refine L5 8 [(2,some (some 3))] hm A4 Tryz.func150 rfl ?_;simp only[go_sem];refine E3 [false] [(1,96)] (B6s s.Vertices h) (by simp) (by simp) (by simp) (by simp) ?_;simp only[go_sem]
theorem B2u(s:Manifold)(h:Manifold.sm s):A1 Tryz.prog B8v [.agg s.enc] [] (.agg s.enc) []:=by refine L5 8 [(2,some (some 3))] hm A4 Tryz.func95 rfl ?_;simp only[go_sem];refine E3 [false] [(1,96)] (A8a s.Points h) (by simp) (by simp) (by simp) (by simp) ?_;simp only[go_sem]
theorem A71(b:Body)(h:Body.sm b):A1 Tryz.prog E3e [.agg b.enc] [] (.agg b.enc) []:=by
 refine L5 25 [(2,some (some 20))] hm A4 Tryz.func94 rfl ?_;simp only[go_sem];refine B0 hm (ι:= {i:Nat // i<=b.Fixtures.length}) (λi=> [(1, .share, .ptr 32 0 0 1),(2, .share, .ptr 48 0 0 1),(3,if i.1=0 then .adopt else .share, .sl 1 0 i.1 i.1),(7, .share,A2 10 Fixture.enc default b.Fixtures),(8, .share,sI b.Fixtures.length),(9, .share,sI i.1)])
  (λi=> [(32, .box b.enc),(48, .box Body.zero),(1, .arr 10 (A8 Fixture.enc default (b.Fixtures.take i.1)))]) (λi=>b.Fixtures.length-i.1) ⟨0,by omega⟩ ?_ ?_
 ·refine B6 [] [1] (by simp) (by simp[A6]) (by simp) ?_;simp only[go_sem]
 ·rintro⟨i,hi⟩;simp only[go_sem];split
  ·rename_i hlt;have hlt:i<b.Fixtures.length:=by omega
   refine⟨⟨by omega,by omega⟩,?_⟩;refine A0 (E2q (b.Fixtures.getD i default).Shape (h.2 _ (B7 _ hlt))) rfl ?_;simp only[go_sem];have hb:=h.1;refine⟨ok_,?_⟩;refine A7 ⟨i+1,by omega⟩ (by show b.Fixtures.length-(i+1)<b.Fixtures.length-i;omega) (D7 [] [] ?_);simp only[go_sem];exact⟨by omega,(by rw[IntKind.wrap_i64];omega),A1q (b.Fixtures.getD i default) rfl (K9 default hlt)⟩
  ·rename_i hge;obtain rfl:i=b.Fixtures.length:=by omega
   simp only[List.take_length,Nat.min_self,go_sem]
def G0z(w:Api.World)(a b c d:Nat):AV:= .agg [sI w.Settings.TimeStep,sI w.Settings.Gravity.X,sI w.Settings.Gravity.Y,sI w.Settings.Iterations,sI w.Settings.SleepSteps,
 .sl a 0 w.Bodies.length w.Bodies.length, .sl b 0 w.Joints.length w.Joints.length, .sl c 0 w.Contacts.length w.Contacts.length, .sl d 0 w.Overlaps.length w.Overlaps.length,sI w.NextID,sI w.Frame]
def B2j(w:Api.World)(a b c d:Nat):List (Nat×A5):= [(a, .arr 20 (A8 Body.enc default w.Bodies)),(b, .arr 24 (A8 Joint.enc default w.Joints)),(c, .arr 7 (A8 Contact.enc default w.Contacts)),(d, .arr 4 (A8 PairKey.enc default w.Overlaps))]
attribute [go_sem] G0z B2j
theorem C58 {α:Type}(l:List α)(i:Nat)(d:α)(h:i<l.length):l.set i (l.getD i d)=l:=by simp[List.getD,h]
theorem A57(w:Api.World)(h:Wsm w):A1 Tryz.prog C6k [.agg w.enc] [] (G0z w 1 2 3 4) (B2j w 1 2 3 4):=by
 obtain⟨h1,h2,h3,h4,h5,h6⟩:=h;refine D1e 56 [(2,some (some 11))] hm A4 Tryz.func48 rfl ?_;simp only[go_sem];refine E3 [false] [(1,1)] (A9g w.Bodies h1) (by simp) (by simp) (by simp) (by simp) ?_;simp only[go_sem];refine E3 [false] [(1,2)] (A8s w.Joints h2) (by simp) (by simp) (by simp) (by simp) ?_;simp only[go_sem];refine E3 [false] [(1,3)] (B14 w.Contacts h3) (by simp) (by simp) (by simp) (by simp) ?_;simp only[go_sem];refine E3 [false] [(1,4)] (B15 w.Overlaps h4) (by simp) (by simp) (by simp) (by simp) ?_;simp only[go_sem];refine B0 hm (ι:= {i:Nat // i<=w.Bodies.length}) (λi=> [(1, .share, .ptr 32 0 0 1),(2, .share, .ptr 48 0 0 1),(24, .share, .sl 1 0 w.Bodies.length w.Bodies.length),(25, .share,sI w.Bodies.length),(26, .share,sI i.1)])
  (λi=>(32, .box [sI w.Settings.TimeStep,sI w.Settings.Gravity.X,sI w.Settings.Gravity.Y,sI w.Settings.Iterations,sI w.Settings.SleepSteps,
 .sl 1 0 w.Bodies.length w.Bodies.length, .sl 2 0 w.Joints.length w.Joints.length, .sl 3 0 w.Contacts.length w.Contacts.length, .sl 4 0 w.Overlaps.length w.Overlaps.length,sI w.NextID,sI w.Frame])::(48, .box World.zero)::B2j w 1 2 3 4) (λi=>w.Bodies.length-i.1) ⟨0,by omega⟩ ?_ ?_
 ·refine B6 [] [] (by simp[B2j]) (by simp[A6,B2j]) (by simp) ?_;simp only[go_sem]
 ·rintro⟨i,hi⟩;simp only[go_sem];split
  ·rename_i hlt;have hlt:i<w.Bodies.length:=by omega
   refine⟨⟨by omega,by omega⟩,?_⟩;refine A0 (A71 (w.Bodies.getD i default) (h5 _ (B7 _ hlt))) rfl ?_;simp only[go_sem];refine⟨ok_,?_⟩;refine A7 ⟨i+1,by omega⟩ (by show w.Bodies.length-(i+1)<w.Bodies.length-i;omega) (D7 [] [] ?_);simp only[go_sem];exact⟨(by rw[IntKind.wrap_i64];omega),A2q (w.Bodies.getD i default) hlt rfl (C58 _ _ _ hlt)⟩
  ·rename_i hge;obtain rfl:i=w.Bodies.length:=by omega
   refine B0 hm (ι:= {i:Nat // i<=w.Contacts.length}) (λi=> [(1, .share, .ptr 32 0 0 1),(2, .share, .ptr 48 0 0 1),(39, .share, .sl 3 0 w.Contacts.length w.Contacts.length),(40, .share,sI w.Contacts.length),(41, .share,sI i.1)])
    (λi=>(32, .box [sI w.Settings.TimeStep,sI w.Settings.Gravity.X,sI w.Settings.Gravity.Y,sI w.Settings.Iterations,sI w.Settings.SleepSteps,
 .sl 1 0 w.Bodies.length w.Bodies.length, .sl 2 0 w.Joints.length w.Joints.length, .sl 3 0 w.Contacts.length w.Contacts.length, .sl 4 0 w.Overlaps.length w.Overlaps.length,sI w.NextID,sI w.Frame])::(48, .box World.zero)::B2j w 1 2 3 4) (λi=>w.Contacts.length-i.1) ⟨0,by omega⟩ ?_ ?_
   ·refine B6 [] [] (by simp[B2j]) (by simp[A6,B2j]) (by simp) ?_;simp only[go_sem]
   ·rintro⟨i,hi⟩;simp only[go_sem];split
    ·rename_i hlt;have hlt:i<w.Contacts.length:=by omega
     refine⟨⟨by omega,by omega⟩,?_⟩;refine A0 (B2u (w.Contacts.getD i default).Manifold (h6 _ (B7 _ hlt))) rfl ?_;simp only[go_sem];refine⟨ok_,?_⟩;refine A7 ⟨i+1,by omega⟩ (by show w.Contacts.length-(i+1)<w.Contacts.length-i;omega) (D7 [] [] ?_);simp only[go_sem];exact⟨(by rw[IntKind.wrap_i64];omega),A2q (w.Contacts.getD i default) hlt rfl (C58 _ _ _ hlt)⟩
    ·rename_i hge;obtain rfl:i=w.Contacts.length:=by omega
     refine C8 [.share] [] [] rfl rfl (by simp) (by simp[A6]) (by simp) ?_;simp only[go_sem]
theorem A66 {α:Type}{l m:List α}{i:Nat}(d:α)(h:l.take i=m.take i)(hl:i<l.length)(hm:i<m.length)(he:l.getD i d=m.getD i d):l.take (i+1)=m.take (i+1):=by rw[K9 d hl,K9 d hm,h,he]
theorem B5j {α:Type}{l m:List α}(hlen:l.length=m.length)(h:l.take l.length=m.take l.length):l=m:=by rw[List.take_length]at h;rw[hlen,List.take_length]at h;exact h
theorem E8z {α:Type}{l m:List α}{i:Nat}(d:α)(h:l.getD i d≠m.getD i d):l≠m:=λe=>h (by rw[e])
theorem E43 {α:Type}{l m:List α}(h:l.length≠m.length):l≠m:=λe=>h (by rw[e])
theorem Vec.beq(x y:Vec):(x.X==y.X&&x.Y==y.Y)=decide (x=y):=by cases x;cases y;rw[Bool.eq_iff_iff];simp
theorem PairKey.beq(x y:PairKey):(x.BodyA==y.BodyA&&(x.FixtureA==y.FixtureA&&(x.BodyB==y.BodyB&&x.FixtureB==y.FixtureB)))=decide (x=y):=by cases x;cases y;rw[Bool.eq_iff_iff];simp
theorem ContactPoint.beq(x y:ContactPoint):(x.Point.X==y.Point.X&&(x.Point.Y==y.Point.Y&&(x.Separation==y.Separation&&(x.ID==y.ID&&(x.NormalImpulse==y.NormalImpulse&&x.TangentImpulse==y.TangentImpulse)))))=decide (x=y):=by obtain⟨⟨a,b⟩,c,d,e,f⟩:=x;obtain⟨⟨a',b'⟩,c',d',e',f'⟩:=y;rw[Bool.eq_iff_iff];simp[and_assoc]
theorem D7x(l m:List Vec)(hl:l.length<=1048576):A1 Tryz.prog D6d [A2 2 Vec.enc default l,A2 2 Vec.enc default m] [] (sB (decide (l=m))) []:=by
 refine en1 hm A4 Tryz.func294 rfl rfl ?_;simp only[go_sem];split
 ·rename_i hne;exact(decide_eq_false (E43 λe=>by rw[e]at hne;simp at hne)).symm
 ·rename_i hne;have hlen:l.length=m.length:=by simp at hne;omega
  refine B0 hm (ι:= {i:Nat // i<=l.length/\l.take i=m.take i}) (λi=> [(0, .share,A2 2 Vec.enc default l),(1, .share,A2 2 Vec.enc default m),(5, .share,sI i.1)])
   (λi=> []) (λi=>l.length-i.1) ⟨0,by omega,rfl⟩ ?_ ?_
  ·refine B6 [] [] (by simp) (by simp[A6]) (by simp) ?_;simp only[go_sem]
  ·rintro⟨i,hi,ht⟩;simp only[Vec.beq,go_sem];split
   ·rename_i hlt;have hlt:i<l.length:=by omega
    have hltm:i<m.length:=by omega
    refine⟨ok_,ok_,?_⟩;by_cases he:l.getD i default=m.getD i default
    ·rw[if_neg (by rw[decide_eq_true he];simp)];refine A7 ⟨i+1,by omega,A66 default ht hlt hltm he⟩ (by show l.length-(i+1)<l.length-i;omega) (D7 [] [] ?_);simp only[go_sem];exact(by rw[IntKind.wrap_i64];omega)
    ·rw[if_pos (decide_eq_false he)];exact(decide_eq_false (E8z default he)).symm
   ·rename_i hge;have hil:i=l.length:=by omega
    subst hil;exact(decide_eq_true (B5j hlen ht)).symm
theorem F1j(l m:List PairKey)(hl:l.length<=1048576):A1 Tryz.prog E9q [A2 4 PairKey.enc default l,A2 4 PairKey.enc default m] [] (sB (decide (l=m))) []:=by
 refine en1 hm A4 Tryz.func54 rfl rfl ?_;simp only[go_sem];split
 ·rename_i hne;exact(decide_eq_false (E43 λe=>by rw[e]at hne;simp at hne)).symm
 ·rename_i hne;have hlen:l.length=m.length:=by simp at hne;omega
  refine B0 hm (ι:= {i:Nat // i<=l.length/\l.take i=m.take i}) (λi=> [(0, .share,A2 4 PairKey.enc default l),(1, .share,A2 4 PairKey.enc default m),(5, .share,sI i.1)])
   (λi=> []) (λi=>l.length-i.1) ⟨0,by omega,rfl⟩ ?_ ?_
  ·refine B6 [] [] (by simp) (by simp[A6]) (by simp) ?_;simp only[go_sem]
  ·rintro⟨i,hi,ht⟩;simp only[PairKey.beq,go_sem];split
   ·rename_i hlt;have hlt:i<l.length:=by omega
    have hltm:i<m.length:=by omega
    refine⟨ok_,ok_,?_⟩;by_cases he:l.getD i default=m.getD i default
    ·rw[if_neg (by rw[decide_eq_true he];simp)];refine A7 ⟨i+1,by omega,A66 default ht hlt hltm he⟩ (by show l.length-(i+1)<l.length-i;omega) (D7 [] [] ?_);simp only[go_sem];exact(by rw[IntKind.wrap_i64];omega)
    ·rw[if_pos (decide_eq_false he)];exact(decide_eq_false (E8z default he)).symm
   ·rename_i hge;have hil:i=l.length:=by omega
    subst hil;exact(decide_eq_true (B5j hlen ht)).symm
theorem E7t(x y:Shape)(h:Shape.sm x):A1 Tryz.prog E6o [.agg x.enc, .agg y.enc] [] (sB (decide (x=y))) []:=by refine en1 hm A4 Tryz.func176 rfl rfl ?_;simp only[go_sem];refine A0 (D7x x.Vertices y.Vertices h) rfl ?_;simp only[go_sem];cases x;cases y;rw[Bool.eq_iff_iff];simp[and_assoc]
theorem D0q(x y:Fixture)(h:Fixture.sm x):A1 Tryz.prog C8l [.agg x.enc, .agg y.enc] [] (sB (decide (x=y))) []:=by refine en1 hm A4 Tryz.func105 rfl rfl ?_;simp only[go_sem];refine A0 (E7t x.Shape y.Shape h) rfl ?_;simp only[go_sem];cases x;cases y;rw[Bool.eq_iff_iff];simp[and_assoc]
theorem E7u(x y:Manifold)(h:Manifold.sm x):A1 Tryz.prog E6p [.agg x.enc, .agg y.enc] [] (sB (decide (x=y))) []:=by
 unfold Manifold.sm at h;refine en1 hm A4 Tryz.func56 rfl rfl ?_;simp only[Vec.beq,go_sem];split
 ·rename_i hc;exact(decide_eq_false λe=>by subst e;simp at hc).symm
 ·rename_i hc;simp at hc;obtain⟨hn,hlen⟩:=hc;have hlen:x.Points.length=y.Points.length:=by omega
  refine B0 hm (ι:= {i:Nat // i<=x.Points.length/\x.Points.take i=y.Points.take i}) (λi=> [(2, .share, .ptr 48 0 0 1),(3, .share, .ptr 64 0 0 1),(5, .share,sI i.1)])
   (λi=> [(48, .box x.enc),(64, .box y.enc)]) (λi=>x.Points.length-i.1) ⟨0,by omega,rfl⟩ ?_ ?_
  ·refine B6 [] [] (by simp) (by simp[A6]) (by simp) ?_;simp only[go_sem]
  ·rintro⟨i,hi,ht⟩;simp only[ContactPoint.beq,go_sem];split
   ·rename_i hlt;have hlt:i<x.Points.length:=by omega
    have hltm:i<y.Points.length:=by omega
    refine⟨ok_,ok_,?_⟩;by_cases he:x.Points.getD i default=y.Points.getD i default
    ·rw[if_neg (by rw[decide_eq_true he];simp)];refine A7 ⟨i+1,by omega,A66 default ht hlt hltm he⟩ (by show x.Points.length-(i+1)<x.Points.length-i;omega) (B6 [] [] (by simp) (by simp[A6]) (by simp) ?_);simp only[go_sem];exact(by rw[IntKind.wrap_i64];omega)
    ·rw[if_pos (decide_eq_false he)];exact(decide_eq_false λe=>he (by rw[e])).symm
   ·rename_i hge;have hil:i=x.Points.length:=by omega
    subst hil;have hp:=B5j hlen ht;exact(decide_eq_true (by obtain⟨a,b⟩:=x;obtain⟨c,d⟩:=y;simp only at hn hp;rw[hn,hp])).symm
theorem E7v(x y:Body)(h:Body.sm x):A1 Tryz.prog E6q [.agg x.enc, .agg y.enc] [] (sB (decide (x=y))) []:=by
 have hb:=h.1;refine en1 hm A4 Tryz.func55 rfl rfl ?_;simp only[go_sem];split
 ·rename_i hc;exact(decide_eq_false λe=>by subst e;simp at hc).symm
 ·rename_i hc;simp at hc;have hlen:x.Fixtures.length=y.Fixtures.length:=by omega
  refine B0 hm (ι:= {i:Nat // i<=x.Fixtures.length/\x.Fixtures.take i=y.Fixtures.take i}) (λi=> [(2, .share, .ptr 48 0 0 1),(3, .share, .ptr 64 0 0 1),(5, .share,sI i.1)])
   (λi=> [(48, .box x.enc),(64, .box y.enc)]) (λi=>x.Fixtures.length-i.1) ⟨0,by omega,rfl⟩ ?_ ?_
  ·refine B6 [] [] (by simp) (by simp[A6]) (by simp) ?_;simp only[go_sem]
  ·rintro⟨i,hi,ht⟩;simp only[go_sem];by_cases hlt:i<x.Fixtures.length
   ·have hltm:i<y.Fixtures.length:=by omega
    rw[if_pos (by rw[if_pos (by omega)];exact decide_eq_true (by omega))];refine⟨ok_,ok_,?_⟩;refine A0 (D0q (x.Fixtures.getD i default) (y.Fixtures.getD i default) (h.2 _ (B7 _ hlt))) rfl ?_;simp only[go_sem];by_cases he:x.Fixtures.getD i default=y.Fixtures.getD i default
    ·rw[if_neg (by rw[decide_eq_true he];simp)];refine A7 ⟨i+1,by omega,A66 default ht hlt hltm he⟩ (by show x.Fixtures.length-(i+1)<x.Fixtures.length-i;omega) (B6 [] [] (by simp) (by simp[A6]) (by simp) ?_);simp only[go_sem];exact(by rw[IntKind.wrap_i64];omega)
    ·rw[if_pos (decide_eq_false he)];exact(decide_eq_false λe=>he (by rw[e])).symm
   ·rw[if_neg (by rw[if_neg (by omega)];simp)];have hil:i=x.Fixtures.length:=by omega
    subst hil;have hp:=B5j hlen ht;split
    ·rename_i hc;exact(decide_eq_false λe=>by subst e;simp at hc).symm
    ·rename_i hc2;clear hc hlen ht hi hlt hb h;obtain⟨x0,x1,⟨⟨x2,x3⟩,x4⟩,⟨x5,x6⟩,x7,⟨x8,x9⟩,x10,x11,x12,x13,x14,x15,x16,x17,x18,x19⟩:=x;obtain⟨y0,y1,⟨⟨y2,y3⟩,y4⟩,⟨y5,y6⟩,y7,⟨y8,y9⟩,y10,y11,y12,y13,y14,y15,y16,y17,y18,y19⟩:=y;simp only at hp;subst hp;simp at hc2;rw[Bool.eq_iff_iff];simp[hc2,and_assoc]
theorem Joint.beq(x y:Joint):((x.ID==y.ID)&&((x.Kind==y.Kind)&&((x.BodyA==y.BodyA)&&((x.BodyB==y.BodyB)&&((x.AnchorA.X==y.AnchorA.X)&&((x.AnchorA.Y==y.AnchorA.Y)&&((x.AnchorB.X==y.AnchorB.X)&&((x.AnchorB.Y==y.AnchorB.Y)&&((x.Axis.X==y.Axis.X)&&((x.Axis.Y==y.Axis.Y)&&((x.ReferenceAngle==y.ReferenceAngle)&&((x.EnableLimit==y.EnableLimit)&&((x.Lower==y.Lower)&&((x.Upper==y.Upper)&&((x.EnableMotor==y.EnableMotor)&&((x.MotorSpeed==y.MotorSpeed)&&((x.MaxForce==y.MaxForce)&&((x.Softness==y.Softness)&&((x.BreakForce==y.BreakForce)&&((x.CollideConnected==y.CollideConnected)&&((x.Impulses.I0==y.Impulses.I0)&&((x.Impulses.I1==y.Impulses.I1)&&((x.Impulses.I2==y.Impulses.I2)&&(x.Impulses.I3==y.Impulses.I3))))))))))))))))))))))))=decide (x=y):=by obtain⟨a0,a1,a2,a3,⟨a4,a5⟩,⟨a6,a7⟩,⟨a8,a9⟩,a10,a11,a12,a13,a14,a15,a16,a17,a18,a19,⟨a20,a21,a22,a23⟩⟩:=x;obtain⟨b0,b1,b2,b3,⟨b4,b5⟩,⟨b6,b7⟩,⟨b8,b9⟩,b10,b11,b12,b13,b14,b15,b16,b17,b18,b19,⟨b20,b21,b22,b23⟩⟩:=y;rw[Bool.eq_iff_iff];simp[and_assoc]
theorem Settings.beq(x y:Settings):((x.TimeStep==y.TimeStep)&&((x.Gravity.X==y.Gravity.X)&&((x.Gravity.Y==y.Gravity.Y)&&((x.Iterations==y.Iterations)&&(x.SleepSteps==y.SleepSteps)))))=decide (x=y):=by obtain⟨a0,⟨a1,a2⟩,a3,a4⟩:=x;obtain⟨b0,⟨b1,b2⟩,b3,b4⟩:=y;rw[Bool.eq_iff_iff];simp[and_assoc]
theorem E7w(x y:Api.World)(h:Wsm x):A1 Tryz.prog E6r [.agg x.enc, .agg y.enc] [] (sB (decide (x=y))) []:=by
 obtain⟨h1,h2,h3,h4,h5,h6⟩:=h;refine en1 hm A4 Tryz.func15 rfl rfl ?_;simp only[Settings.beq,go_sem];refine A0 (F1j x.Overlaps y.Overlaps h4) rfl ?_;simp only[go_sem];split
 ·rename_i hc;exact(decide_eq_false λe=>by subst e;simp at hc).symm
 ·rename_i hc;simp at hc;obtain⟨⟨⟨⟨⟨⟨e1,e2⟩,e3⟩,e4⟩,e5⟩,e6⟩,e7⟩:=hc;have l0:x.Bodies.length=y.Bodies.length:=by omega
  refine B0 hm (ι:= {i:Nat // i<=x.Bodies.length/\x.Bodies.take i=y.Bodies.take i}) (λi=> [(2, .share, .ptr 48 0 0 1),(3, .share, .ptr 64 0 0 1),(5, .share,sI i.1)])
   (λi=> [(48, .box x.enc),(64, .box y.enc)]) (λi=>x.Bodies.length-i.1) ⟨0,by omega,rfl⟩ ?_ ?_
  ·refine B6 [] [] (by simp) (by simp[A6]) (by simp) ?_;simp only[go_sem]
  ·rintro⟨i,hi,ht⟩;simp only[go_sem];split
   ·rename_i hlt;have hlt:i<x.Bodies.length:=by omega
    have hltm:i<y.Bodies.length:=by omega
    refine⟨ok_,ok_,?_⟩;refine A0 (E7v (x.Bodies.getD i default) (y.Bodies.getD i default) (h5 _ (B7 _ hlt))) rfl ?_;simp only[go_sem];by_cases he:x.Bodies.getD i default=y.Bodies.getD i default
    ·rw[if_neg (by rw[he];simp)];refine A7 ⟨i+1,by omega,A66 default ht hlt hltm he⟩ (by show x.Bodies.length-(i+1)<x.Bodies.length-i;omega) (B6 [] [] (by simp) (by simp[A6]) (by simp) ?_);simp only[go_sem];exact(by rw[IntKind.wrap_i64];omega)
    ·rw[if_pos (decide_eq_false he)];exact(decide_eq_false λe=>he (by rw[e])).symm
   ·rename_i hge;have hil:i=x.Bodies.length:=by omega
    subst hil;have p0:=B5j l0 ht;clear ht hi hge;have l1:x.Joints.length=y.Joints.length:=by omega
    refine B0 hm (ι:= {i:Nat // i<=x.Joints.length/\x.Joints.take i=y.Joints.take i}) (λi=> [(2, .share, .ptr 48 0 0 1),(3, .share, .ptr 64 0 0 1),(6, .share,sI i.1)])
     (λi=> [(48, .box x.enc),(64, .box y.enc)]) (λi=>x.Joints.length-i.1) ⟨0,by omega,rfl⟩ ?_ ?_
    ·refine B6 [] [] (by simp) (by simp[A6]) (by simp) ?_;simp only[go_sem]
    ·rintro⟨i,hi,ht⟩;simp only[Joint.beq,go_sem];split
     ·rename_i hlt;have hlt:i<x.Joints.length:=by omega
      have hltm:i<y.Joints.length:=by omega
      refine⟨ok_,ok_,?_⟩;by_cases he:x.Joints.getD i default=y.Joints.getD i default
      ·rw[if_neg (by rw[he];simp)];refine A7 ⟨i+1,by omega,A66 default ht hlt hltm he⟩ (by show x.Joints.length-(i+1)<x.Joints.length-i;omega) (B6 [] [] (by simp) (by simp[A6]) (by simp) ?_);simp only[go_sem];exact(by rw[IntKind.wrap_i64];omega)
      ·rw[if_pos (decide_eq_false he)];exact(decide_eq_false λe=>he (by rw[e])).symm
     ·rename_i hge;have hil:i=x.Joints.length:=by omega
      subst hil;have p1:=B5j l1 ht;clear ht hi hge;have l2:x.Contacts.length=y.Contacts.length:=by omega
      refine B0 hm (ι:= {i:Nat // i<=x.Contacts.length/\x.Contacts.take i=y.Contacts.take i}) (λi=> [(2, .share, .ptr 48 0 0 1),(3, .share, .ptr 64 0 0 1),(7, .share,sI i.1)])
       (λi=> [(48, .box x.enc),(64, .box y.enc)]) (λi=>x.Contacts.length-i.1) ⟨0,by omega,rfl⟩ ?_ ?_
      ·refine B6 [] [] (by simp) (by simp[A6]) (by simp) ?_;simp only[go_sem]
      ·rintro⟨i,hi,ht⟩;simp only[PairKey.beq,go_sem];split
       ·rename_i hlt;have hlt:i<x.Contacts.length:=by omega
        have hltm:i<y.Contacts.length:=by omega
        refine⟨ok_,ok_,?_⟩;refine⟨ok_,ok_,?_⟩;refine A0 (E7u (x.Contacts.getD i default).Manifold (y.Contacts.getD i default).Manifold (h6 _ (B7 _ hlt))) rfl ?_;simp only[go_sem];by_cases he:x.Contacts.getD i default=y.Contacts.getD i default
        ·rw[if_neg (by rw[he];simp)];refine A7 ⟨i+1,by omega,A66 default ht hlt hltm he⟩ (by show x.Contacts.length-(i+1)<x.Contacts.length-i;omega) (B6 [] [] (by simp) (by simp[A6]) (by simp) ?_);simp only[go_sem];exact(by rw[IntKind.wrap_i64];omega)
        ·rw[if_pos (by
          by_cases hk:(x.Contacts.getD i default).Key=(y.Contacts.getD i default).Key
          ·by_cases hm2:(x.Contacts.getD i default).Manifold=(y.Contacts.getD i default).Manifold
           ·exact absurd (by generalize x.Contacts.getD i default=a at*;generalize y.Contacts.getD i default=b at*;cases a;cases b;simp only at hk hm2;rw[hk,hm2]) he
           ·simp only[hm2,decide_false,Bool.not_false,Bool.or_true]
          ·simp only[hk,decide_false,Bool.not_false,Bool.true_or])]
         exact(decide_eq_false λe=>he (by rw[e])).symm
       ·rename_i hge;have hil:i=x.Contacts.length:=by omega
        subst hil;have p2:=B5j l2 ht;clear ht hi hge;exact(decide_eq_true (by obtain⟨a1,a2,a3,a4,a5,a6,a7⟩:=x;obtain⟨b1,b2,b3,b4,b5,b6,b7⟩:=y;simp only at e1 e2 e3 e7 p0 p1 p2;subst e1 e2 e3 e7 p0 p1 p2;rfl)).symm
def sat(x:Int):Int:=if x>536870911 then 536870911 else if x < -536870911 then -536870911 else x
theorem S4(x:Int): -536870911<=sat x/\sat x<=536870911:=by unfold sat;split <;> (try split) <;> omega
def B4n(v:Vec):Vec:=⟨sat v.X,sat v.Y⟩
theorem J7(x:Int):A1 Tryz.prog D36 [sI x] [] (sI (sat x)) []:=by
 refine en1 hm A4 Tryz.func406 rfl rfl ?_;simp only[go_sem];unfold sat
 (repeat' split) <;> omega
theorem A73(x:Int):A1 Tryz.prog D8m [sI x] [] (sI (sat x)) []:=by
 refine en1 hm A4 Tryz.func355 rfl rfl ?_;simp only[go_sem];unfold sat
 (repeat' split) <;> omega
theorem A03(v:Vec):A1 Tryz.prog D6n [.agg v.enc] [] (.agg (B4n v).enc) []:=by refine L5 10 [(2,some (some 2))] hm A4 Tryz.func393 rfl ?_;simp only[go_sem];refine A0 (J7 v.X) rfl ?_;simp only[go_sem];refine A0 (J7 v.Y) rfl ?_;simp only[B4n,go_sem]
theorem A9o(v:Vec):A1 Tryz.prog D6c [.agg v.enc] [] (.agg (B4n v).enc) []:=by refine L5 10 [(2,some (some 2))] hm A4 Tryz.func224 rfl ?_;simp only[go_sem];refine A0 (A73 v.X) rfl ?_;simp only[go_sem];refine A0 (A73 v.Y) rfl ?_;simp only[B4n,go_sem]
def A97(a b:Vec):Int:=(sat b.X-sat a.X)*(sat b.X-sat a.X)+(sat b.Y-sat a.Y)*(sat b.Y-sat a.Y)
theorem C6b {x m:Int}(h1: -m<=x)(h2:x<=m):0<=x*x/\x*x<=m*m:=by
 have h0:0<=m:=by omega
 constructor
 ·rcases Int.le_total 0 x with h |h
  ·exact Int.mul_nonneg h h
  ·exact Int.mul_nonneg_of_nonpos_of_nonpos h h
 ·rcases Int.le_total 0 x with h |h
  ·exact Int.mul_le_mul h2 h2 h h0
  ·have:=Int.mul_le_mul (show -x<=m by omega) (show -x<=m by omega) (show 0<= -x by omega) h0
   rwa[Int.neg_mul_neg]at this
theorem W4(a b:Vec):A1 Tryz.prog C1u [.agg a.enc, .agg b.enc] [] (sI (A97 a b)) []:=by
 refine en1 hm A4 Tryz.func404 rfl rfl ?_;simp only[go_sem];refine A0 (A03 a) rfl ?_;simp only[go_sem];refine A0 (A03 b) rfl ?_;simp only[B4n,go_sem];have a1:=S4 a.X;have a2:=S4 a.Y;have b1:=S4 b.X;have b2:=S4 b.Y
 have w1:IntKind.i64.wrap (sat b.X-sat a.X)=sat b.X-sat a.X:=by rw[IntKind.wrap_i64];omega
 have w2:IntKind.i64.wrap (sat b.Y-sat a.Y)=sat b.Y-sat a.Y:=by rw[IntKind.wrap_i64];omega
 have h1:=C6b (x:=sat b.X-sat a.X) (m:=1073741822) (by omega) (by omega)
 have h2:=C6b (x:=sat b.Y-sat a.Y) (m:=1073741822) (by omega) (by omega);rw[w1,w2];unfold A97;generalize(sat b.X-sat a.X)*(sat b.X-sat a.X)=p at*;generalize(sat b.Y-sat a.Y)*(sat b.Y-sat a.Y)=q at*;simp only[IntKind.wrap_i64];omega
def B9d(n:Nat):Nat->Nat->Nat
 |0,r=>r
 |k+1,r=>B9d n k (if(r+2^k)*(r+2^k)<=n then r+2^k else r)
def isq(n:Int):Int:=if n<0\/n>4611686018427387904 then 0 else B9d n.toNat 32 0
def C40:Nat->Int
 |0=>0
 |k+1=>((2^k:Nat):Int)
theorem G12 {r k:Nat}(hr:2^(k+1)∣r)(hlt:r<4294967296)(hk:k<32):IntKind.i64.wrap (((BitVec.ofInt 64 (r:Int) ||| BitVec.ofInt 64 ((2^k:Nat):Int)).toNat:Nat):Int)=((r+2^k:Nat):Int):=by
 obtain⟨q,rfl⟩:=hr;have hp:2^k<2^(k+1):=Nat.pow_lt_pow_right (by omega) (by omega)
 have hp2:2^k<=2^31:=Nat.pow_le_pow_right (by omega) (by omega)
 have e:(BitVec.ofInt 64 ((2^(k+1)*q:Nat):Int) ||| BitVec.ofInt 64 ((2^k:Nat):Int)).toNat=2^(k+1)*q+2^k:=by rw[BitVec.toNat_or,BitVec.ofInt_natCast,BitVec.ofInt_natCast,BitVec.toNat_ofNat,BitVec.toNat_ofNat,Nat.mod_eq_of_lt (by omega),Nat.mod_eq_of_lt (by omega),Nat.two_pow_add_eq_or_of_lt hp]
 rw[e,IntKind.wrap_i64];omega
theorem E8w {n:Int}(h:n<0\/n>4611686018427387904):isq n=0:=by unfold isq;rw[if_pos h]
theorem E4u {n:Int}(h: ¬(n<0\/n>4611686018427387904)):isq n=B9d n.toNat 32 0:=by unfold isq;rw[if_neg h]
theorem F46(k:Nat):((2^k:Nat):Int).fdiv (2^min 1 64)=C40 k:=by
 rw[Int.fdiv_eq_ediv_of_nonneg _ (by decide)];cases k with
 |zero=>decide
 |succ k=>show((2^(k+1):Nat):Int) / 2=((2^k:Nat):Int);rw[Nat.pow_succ];omega
theorem E4v {r k:Nat}(hr:2^(k+1)∣r)(hlt:r+2^(k+1)<=4294967296):2^k∣r/\r+2^k<=4294967296/\2^k∣r+2^k/\r+2^k+2^k<=4294967296/\0<2^k:=by
 have hp:2^(k+1)=2^k*2:=Nat.pow_succ 2 k
 have h1:2^k∣r:=Nat.dvd_trans ⟨2,hp⟩ hr
 have h0:0<2^k:=Nat.two_pow_pos k;exact⟨h1,by omega,Nat.dvd_add h1 (Nat.dvd_refl _),by omega,h0⟩
theorem B2i(n:Int):A1 Tryz.prog E1p [sI n] [] (sI (isq n)) []:=by
 refine en1 hm A4 Tryz.func403 rfl rfl ?_;simp only[go_sem];by_cases hn:n<0\/n>4611686018427387904
 ·rw[if_pos (by by_cases h:n<0;rw[if_pos h];rw[if_neg h];exact decide_eq_true (by omega)),E8w hn]
 ·rw[if_neg (by rw[if_neg (by omega),decide_eq_false (by omega)];simp),E4u hn];refine B0 hm (ι:= {p:Nat×Nat // p.1<=32/\2^p.1∣p.2/\p.2+2^p.1<=4294967296/\B9d n.toNat p.1 p.2=B9d n.toNat 32 0}) (λp=> [(0, .share,sI n),(3, .share,sI p.1.2),(4, .share,sI (C40 p.1.1))])
   (λp=> []) (λp=>p.1.1) ⟨(32,0),by decide,by decide,by decide,rfl⟩ ?_ ?_
  ·refine D7 [] [] ?_;simp only[go_sem];decide
  ·rintro⟨⟨k,r⟩,hk,hr,hlt,he⟩;simp only at hk hr hlt he;simp only[go_sem];cases k with
   |zero=>rw[if_neg (by decide)];rw[<-he];rfl
   |succ k=>
    obtain⟨a1,a2,a3,a4,a5⟩:=E4v hr hlt;rw[if_pos (by show(0:Int)<((2^k:Nat):Int);omega)];have hor:=G12 hr (by omega) (show k<32 by omega)
    have hu: ∀m:Nat,m<18446744073709551616->IntKind.u64.wrap (m:Int)=m:=λm hm'=>by rw[IntKind.wrap_u64];omega
    have hun:IntKind.u64.wrap n=n:=by rw[IntKind.wrap_u64];omega
    have hsq:(r+2^k)*(r+2^k)<18446744073709551616:=by
     have h1:r+2^k<=4294967295:=by omega
     have:=Nat.mul_le_mul h1 h1;omega
    simp only[show C40 (k+1)=((2^k:Nat):Int)from rfl,hun,F46];have key: ∀X:Int,X=((r+2^k:Nat):Int)->IntKind.u64.wrap (IntKind.u64.wrap X*IntKind.u64.wrap X)=(((r+2^k)*(r+2^k):Nat):Int):=λX hX=>by rw[hX,hu (r+2^k) (by omega),<-Int.natCast_mul,hu _ hsq]
    generalize hX:IntKind.i64.wrap _=X;have hX2:X=((r+2^k:Nat):Int):=hX.symm.trans hor;rw[key X hX2];clear hX;subst hX2;by_cases hc:(r+2^k)*(r+2^k)<=n.toNat
    ·rw[if_pos (by omega)];refine⟨by decide,?_⟩;refine A7 ⟨(k,r+2^k),by show k<=32;omega,a3,a4,by rw[<-he];simp only[B9d,hc,if_true]⟩ (Nat.lt_succ_self k) (D7 [] [] ?_);simp only[go_sem]
    ·rw[if_neg (by omega)];refine⟨by decide,?_⟩;refine A7 ⟨(k,r),by show k<=32;omega,a1,a2,by rw[<-he];simp only[B9d,hc,if_false]⟩ (Nat.lt_succ_self k) (D7 [] [] ?_);simp only[go_sem]
theorem B2v(n:Int):A1 Tryz.prog D4c [sI n] [] (sB (decide (n>4611686018427387904\/n < -4611686018427387904))) []:=by
 refine en1 hm A4 Tryz.func356 rfl rfl ?_;simp only[go_sem];by_cases h:4611686018427387904<n
 ·rw[if_pos h];exact(decide_eq_true (by omega)).symm
 ·rw[if_neg h];exact decide_eq_decide.2 (by omega)
theorem F6j(k:Nat):IntKind.i64.wrap (((2^k:Nat):Int).tdiv 2)=C40 k\/62<k:=by
 by_cases h:62<k
 ·exact .inr h
 ·left;have hp2:2^k<=2^62:=Nat.pow_le_pow_right (by omega) (by omega);cases k with
  |zero=>decide
  |succ k=>show IntKind.i64.wrap (((2^(k+1):Nat):Int).tdiv 2)=((2^k:Nat):Int);rw[Nat.pow_succ]at*;rw[Int.tdiv_eq_ediv_of_nonneg (by omega),IntKind.wrap_i64];omega
theorem E7q(n:Int):A1 Tryz.prog E6l [sI n] [] (sI (isq n)) []:=by
 refine en1 hm A4 Tryz.func225 rfl rfl ?_;simp only[go_sem];refine A0 (B2v n) rfl ?_;simp only[go_sem];by_cases hn:n<0\/n>4611686018427387904
 ·rw[if_pos (by by_cases h:n<0;rw[if_pos h];rw[if_neg h];exact decide_eq_true (by omega)),E8w hn]
 ·rw[if_neg (by rw[if_neg (by omega),decide_eq_false (by omega)];simp),E4u hn];refine B0 hm (ι:= {p:Nat×Nat // p.1<=32/\2^p.1∣p.2/\p.2+2^p.1<=4294967296/\B9d n.toNat p.1 p.2=B9d n.toNat 32 0}) (λp=> [(0, .share,sI n),(3, .share,sI p.1.2),(4, .share,sI (C40 p.1.1))])
   (λp=> []) (λp=>p.1.1) ⟨(32,0),by decide,by decide,by decide,rfl⟩ ?_ ?_
  ·refine D7 [] [] ?_;simp only[go_sem];decide
  ·rintro⟨⟨k,r⟩,hk,hr,hlt,he⟩;simp only at hk hr hlt he;simp only[go_sem];cases k with
   |zero=>rw[if_neg (by decide)];rw[<-he];rfl
   |succ k=>
    obtain⟨a1,a2,a3,a4,a5⟩:=E4v hr hlt;rw[if_pos (by show(0:Int)<((2^k:Nat):Int);omega)];have hw:IntKind.i64.wrap ((r:Int)+((2^k:Nat):Int))=((r+2^k:Nat):Int):=by rw[IntKind.wrap_i64];omega
    have hdiv:IntKind.i64.wrap (n.tdiv ((r+2^k:Nat):Int))=((n.toNat / (r+2^k):Nat):Int):=by
     rw[Int.tdiv_eq_ediv_of_nonneg (by omega)];have e:n=(n.toNat:Int):=by omega
     rw[e,<-Int.natCast_ediv,Int.toNat_natCast];have:n.toNat / (r+2^k)<=n.toNat:=Nat.div_le_self _ _;generalize n.toNat / (r+2^k)=q at*;rw[IntKind.wrap_i64];omega
    have hhalf:IntKind.i64.wrap (((2^k:Nat):Int).tdiv 2)=C40 k:=(F6j k).resolve_right (by omega);simp only[show C40 (k+1)=((2^k:Nat):Int)from rfl,hw,hdiv,hhalf];refine⟨by omega,?_⟩;have hiff:(r+2^k<=n.toNat / (r+2^k))↔(r+2^k)*(r+2^k)<=n.toNat:=Nat.le_div_iff_mul_le (by omega);by_cases hc:(r+2^k)*(r+2^k)<=n.toNat
    ·rw[if_pos (Int.ofNat_le.2 (hiff.2 hc))];refine⟨by decide,?_⟩;refine A7 ⟨(k,r+2^k),by show k<=32;omega,a3,a4,by rw[<-he];simp only[B9d,hc,if_true]⟩ (Nat.lt_succ_self k) (D7 [] [] ?_);simp only[go_sem]
    ·rw[if_neg (λh=>hc (hiff.1 (Int.ofNat_le.1 h)))];refine⟨by decide,?_⟩;refine A7 ⟨(k,r),by show k<=32;omega,a1,a2,by rw[<-he];simp only[B9d,hc,if_false]⟩ (Nat.lt_succ_self k) (D7 [] [] ?_);simp only[go_sem]
def A4k(v:Vec):Int:=isq (A97 ⟨0,0⟩ v)
theorem V0(v:Vec):A1 Tryz.prog E11 [.agg v.enc] [] (sI (A4k v)) []:=by refine en1 hm A4 Tryz.func271 rfl rfl ?_;simp only[go_sem];refine A0 (W4 ⟨0,0⟩ v) rfl ?_;simp only[go_sem];refine A0 (B2i _) rfl ?_;simp only[A4k,go_sem]
theorem B9q(v:Vec):A1 Tryz.prog E3i [.agg v.enc] [] (sI (A4k v)) []:=by
 refine en1 hm A4 Tryz.func136 rfl rfl ?_;simp only[go_sem];refine A0 (A9o v) rfl ?_;simp only[B4n,go_sem];have e0:sat 0=0:=by decide
 have h:IntKind.i64.wrap (IntKind.i64.wrap (sat v.X*sat v.X)+IntKind.i64.wrap (sat v.Y*sat v.Y))=A97 ⟨0,0⟩ v:=by
  have b1:=S4 v.X;have b2:=S4 v.Y
  have h1:=C6b b1.1 b1.2
  have h2:=C6b b2.1 b2.2;simp only[A97,e0,Int.sub_zero];generalize sat v.X*sat v.X=p at*;generalize sat v.Y*sat v.Y=q at*;simp only[IntKind.wrap_i64];omega
 rw[h];refine A0 (E7q _) rfl ?_;simp only[A4k,go_sem]
def F2z(b:Body):Bool:= !b.NoSleep&&decide (A4k b.Velocity<=4096)&&decide (-4096<=b.AngularVelocity)&&decide (b.AngularVelocity<=4096)
theorem E0a(b:Body):A1 Tryz.prog D8x [.agg b.enc] [] (sB (F2z b)) []:=by refine en1 hm A4 Tryz.func327 rfl rfl ?_;simp only[go_sem];refine A0 (V0 b.Velocity) rfl ?_;simp only[go_sem];rfl
def B3g(b:Body):Body:= {b with IdleSteps:=if F2z b then IntKind.i64.wrap ((if 1048575<b.IdleSteps then 1048575 else b.IdleSteps)+1)else 0}
theorem D0v(b:Body):A1 Tryz.prog C8r [.agg b.enc] [] (.agg (B3g b).enc) []:=by
 refine L5 12 [(2,some (some 20))] hm A4 Tryz.func198 rfl ?_;simp only[go_sem];refine A0 (E0a b) rfl ?_;simp only[go_sem];split
 ·rename_i h;simp only[B3g,h,go_sem]
 ·rename_i h;simp only[B3g,h,Bool.false_eq_true,go_sem]
end Go.Abs
end
