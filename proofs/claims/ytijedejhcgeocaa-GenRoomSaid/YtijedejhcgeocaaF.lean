/-
  Texts of this seat: lemmas on the way to the statement.
-/
import Derived.Test.YtijedejhcgeocaaD
import Derived.Test.YtijedejhcgeocaaProg
import Derived.KernelRfl
import Derived.Test.YtijedejhcgeocaaE
set_option linter.unusedVariables false
set_option linter.unusedSimpArgs false
namespace Go.Ab
open Go
set_option maxRecDepth 100000
theorem toh12:OkH1 Go.Proofs.Try.prog 12 h12:=⟨Go.Proofs.Try.f12,_,hintsH h12.body,Go.Proofs.Try.func12,by kernel_rfl,rfl,by decide,by decide,by kernel_rfl,by kernel_rfl⟩
theorem toh18:OkH1 Go.Proofs.Try.prog 18 h18:=⟨Go.Proofs.Try.f18,_,hintsH h18.body,Go.Proofs.Try.func18,by kernel_rfl,rfl,by decide,by decide,by kernel_rfl,by kernel_rfl⟩
theorem toh22:OkH1 Go.Proofs.Try.prog 22 h22:=⟨Go.Proofs.Try.f22,_,hintsH h22.body,Go.Proofs.Try.func22,by kernel_rfl,rfl,by decide,by decide,by kernel_rfl,by kernel_rfl⟩
theorem toh24:OkH1 Go.Proofs.Try.prog 24 h24:=⟨Go.Proofs.Try.f24,_,hintsH h24.body,Go.Proofs.Try.func24,by kernel_rfl,rfl,by decide,by decide,by kernel_rfl,by kernel_rfl⟩
theorem toh27:OkH1 Go.Proofs.Try.prog 27 h27:=⟨Go.Proofs.Try.f27,_,hintsH h27.body,Go.Proofs.Try.func27,by kernel_rfl,rfl,by decide,by decide,by kernel_rfl,by kernel_rfl⟩
theorem toh29:OkH1 Go.Proofs.Try.prog 29 h29:=⟨Go.Proofs.Try.f29,_,hintsH h29.body,Go.Proofs.Try.func29,by kernel_rfl,rfl,by decide,by decide,by kernel_rfl,by kernel_rfl⟩
theorem toh35:OkH1 Go.Proofs.Try.prog 35 h35:=⟨Go.Proofs.Try.f35,_,hintsH h35.body,Go.Proofs.Try.func35,by kernel_rfl,rfl,by decide,by decide,by kernel_rfl,by kernel_rfl⟩
theorem toh52:OkH1 Go.Proofs.Try.prog 52 h52:=⟨Go.Proofs.Try.f52,_,hintsH h52.body,Go.Proofs.Try.func52,by kernel_rfl,rfl,by decide,by decide,by kernel_rfl,by kernel_rfl⟩
theorem toh53:OkH1 Go.Proofs.Try.prog 53 h53:=⟨Go.Proofs.Try.f53,_,hintsH h53.body,Go.Proofs.Try.func53,by kernel_rfl,rfl,by decide,by decide,by kernel_rfl,by kernel_rfl⟩
theorem toh56:OkH1 Go.Proofs.Try.prog 56 h56:=⟨Go.Proofs.Try.f56,_,hintsH h56.body,Go.Proofs.Try.func56,by kernel_rfl,rfl,by decide,by decide,by kernel_rfl,by kernel_rfl⟩
theorem toh57:OkH1 Go.Proofs.Try.prog 57 h57:=⟨Go.Proofs.Try.f57,_,hintsH h57.body,Go.Proofs.Try.func57,by kernel_rfl,rfl,by decide,by decide,by kernel_rfl,by kernel_rfl⟩
theorem toh58:OkH1 Go.Proofs.Try.prog 58 h58:=⟨Go.Proofs.Try.f58,_,hintsH h58.body,Go.Proofs.Try.func58,by kernel_rfl,rfl,by decide,by decide,by kernel_rfl,by kernel_rfl⟩
theorem toh59:OkH1 Go.Proofs.Try.prog 59 h59:=⟨Go.Proofs.Try.f59,_,hintsH h59.body,Go.Proofs.Try.func59,by kernel_rfl,rfl,by decide,by decide,by kernel_rfl,by kernel_rfl⟩
theorem toh60:OkH1 Go.Proofs.Try.prog 60 h60:=⟨Go.Proofs.Try.f60,_,hintsH h60.body,Go.Proofs.Try.func60,by kernel_rfl,rfl,by decide,by decide,by kernel_rfl,by kernel_rfl⟩
theorem toh64:OkH1 Go.Proofs.Try.prog 64 h64:=⟨Go.Proofs.Try.f64,_,hintsH h64.body,Go.Proofs.Try.func64,by kernel_rfl,rfl,by decide,by decide,by kernel_rfl,by kernel_rfl⟩
theorem toh65:OkH1 Go.Proofs.Try.prog 65 h65:=⟨Go.Proofs.Try.f65,_,hintsH h65.body,Go.Proofs.Try.func65,by kernel_rfl,rfl,by decide,by decide,by kernel_rfl,by kernel_rfl⟩
theorem toh66:OkH1 Go.Proofs.Try.prog 66 h66:=⟨Go.Proofs.Try.f66,_,hintsH h66.body,Go.Proofs.Try.func66,by kernel_rfl,rfl,by decide,by decide,by kernel_rfl,by kernel_rfl⟩
theorem toh67:OkH1 Go.Proofs.Try.prog 67 h67:=⟨Go.Proofs.Try.f67,_,hintsH h67.body,Go.Proofs.Try.func67,by kernel_rfl,rfl,by decide,by decide,by kernel_rfl,by kernel_rfl⟩
theorem toh70:OkH1 Go.Proofs.Try.prog 70 h70:=⟨Go.Proofs.Try.f70,_,hintsH h70.body,Go.Proofs.Try.func70,by kernel_rfl,rfl,by decide,by decide,by kernel_rfl,by kernel_rfl⟩
theorem toh71:OkH1 Go.Proofs.Try.prog 71 h71:=⟨Go.Proofs.Try.f71,_,hintsH h71.body,Go.Proofs.Try.func71,by kernel_rfl,rfl,by decide,by decide,by kernel_rfl,by kernel_rfl⟩
theorem toh72:OkH1 Go.Proofs.Try.prog 72 h72:=⟨Go.Proofs.Try.f72,_,hintsH h72.body,Go.Proofs.Try.func72,by kernel_rfl,rfl,by decide,by decide,by kernel_rfl,by kernel_rfl⟩
theorem toh73:OkH1 Go.Proofs.Try.prog 73 h73:=⟨Go.Proofs.Try.f73,_,hintsH h73.body,Go.Proofs.Try.func73,by kernel_rfl,rfl,by decide,by decide,by kernel_rfl,by kernel_rfl⟩
theorem toh74:OkH1 Go.Proofs.Try.prog 74 h74:=⟨Go.Proofs.Try.f74,_,hintsH h74.body,Go.Proofs.Try.func74,by kernel_rfl,rfl,by decide,by decide,by kernel_rfl,by kernel_rfl⟩
theorem toh76:OkH1 Go.Proofs.Try.prog 76 h76:=⟨Go.Proofs.Try.f76,_,hintsH h76.body,Go.Proofs.Try.func76,by kernel_rfl,rfl,by decide,by decide,by kernel_rfl,by kernel_rfl⟩
theorem toh77:OkH1 Go.Proofs.Try.prog 77 h77:=⟨Go.Proofs.Try.f77,_,hintsH h77.body,Go.Proofs.Try.func77,by kernel_rfl,rfl,by decide,by decide,by kernel_rfl,by kernel_rfl⟩
theorem toh78:OkH1 Go.Proofs.Try.prog 78 h78:=⟨Go.Proofs.Try.f78,_,hintsH h78.body,Go.Proofs.Try.func78,by kernel_rfl,rfl,by decide,by decide,by kernel_rfl,by kernel_rfl⟩
theorem toh79:OkH1 Go.Proofs.Try.prog 79 h79:=⟨Go.Proofs.Try.f79,_,hintsH h79.body,Go.Proofs.Try.func79,by kernel_rfl,rfl,by decide,by decide,by kernel_rfl,by kernel_rfl⟩
theorem toh80:OkH1 Go.Proofs.Try.prog 80 h80:=⟨Go.Proofs.Try.f80,_,hintsH h80.body,Go.Proofs.Try.func80,by kernel_rfl,rfl,by decide,by decide,by kernel_rfl,by kernel_rfl⟩
theorem toh81:OkH1 Go.Proofs.Try.prog 81 h81:=⟨Go.Proofs.Try.f81,_,hintsH h81.body,Go.Proofs.Try.func81,by kernel_rfl,rfl,by decide,by decide,by kernel_rfl,by kernel_rfl⟩
theorem toh97:OkH1 Go.Proofs.Try.prog 97 h97:=⟨Go.Proofs.Try.f97,_,hintsH h97.body,Go.Proofs.Try.func97,by kernel_rfl,rfl,by decide,by decide,by kernel_rfl,by kernel_rfl⟩
theorem toh98:OkH1 Go.Proofs.Try.prog 98 h98:=⟨Go.Proofs.Try.f98,_,hintsH h98.body,Go.Proofs.Try.func98,by kernel_rfl,rfl,by decide,by decide,by kernel_rfl,by kernel_rfl⟩
theorem toh105:OkH1 Go.Proofs.Try.prog 105 h105:=⟨Go.Proofs.Try.f105,_,hintsH h105.body,Go.Proofs.Try.func105,by kernel_rfl,rfl,by decide,by decide,by kernel_rfl,by kernel_rfl⟩
theorem toh106:OkH1 Go.Proofs.Try.prog 106 h106:=⟨Go.Proofs.Try.f106,_,hintsH h106.body,Go.Proofs.Try.func106,by kernel_rfl,rfl,by decide,by decide,by kernel_rfl,by kernel_rfl⟩
theorem toh107:OkH1 Go.Proofs.Try.prog 107 h107:=⟨Go.Proofs.Try.f107,_,hintsH h107.body,Go.Proofs.Try.func107,by kernel_rfl,rfl,by decide,by decide,by kernel_rfl,by kernel_rfl⟩
theorem toh108:OkH1 Go.Proofs.Try.prog 108 h108:=⟨Go.Proofs.Try.f108,_,hintsH h108.body,Go.Proofs.Try.func108,by kernel_rfl,rfl,by decide,by decide,by kernel_rfl,by kernel_rfl⟩
theorem toh109:OkH1 Go.Proofs.Try.prog 109 h109:=⟨Go.Proofs.Try.f109,_,hintsH h109.body,Go.Proofs.Try.func109,by kernel_rfl,rfl,by decide,by decide,by kernel_rfl,by kernel_rfl⟩
theorem toh110:OkH1 Go.Proofs.Try.prog 110 h110:=⟨Go.Proofs.Try.f110,_,hintsH h110.body,Go.Proofs.Try.func110,by kernel_rfl,rfl,by decide,by decide,by kernel_rfl,by kernel_rfl⟩
theorem toh111:OkH1 Go.Proofs.Try.prog 111 h111:=⟨Go.Proofs.Try.f111,_,hintsH h111.body,Go.Proofs.Try.func111,by kernel_rfl,rfl,by decide,by decide,by kernel_rfl,by kernel_rfl⟩
theorem toh113:OkH1 Go.Proofs.Try.prog 113 h113:=⟨Go.Proofs.Try.f113,_,hintsH h113.body,Go.Proofs.Try.func113,by kernel_rfl,rfl,by decide,by decide,by kernel_rfl,by kernel_rfl⟩
theorem toh115:OkH1 Go.Proofs.Try.prog 115 h115:=⟨Go.Proofs.Try.f115,_,hintsH h115.body,Go.Proofs.Try.func115,by kernel_rfl,rfl,by decide,by decide,by kernel_rfl,by kernel_rfl⟩
theorem toh116:OkH1 Go.Proofs.Try.prog 116 h116:=⟨Go.Proofs.Try.f116,_,hintsH h116.body,Go.Proofs.Try.func116,by kernel_rfl,rfl,by decide,by decide,by kernel_rfl,by kernel_rfl⟩
theorem toh120:OkH1 Go.Proofs.Try.prog 120 h120:=⟨Go.Proofs.Try.f120,_,hintsH h120.body,Go.Proofs.Try.func120,by kernel_rfl,rfl,by decide,by decide,by kernel_rfl,by kernel_rfl⟩
theorem toh126:OkH1 Go.Proofs.Try.prog 126 h126:=⟨Go.Proofs.Try.f126,_,hintsH h126.body,Go.Proofs.Try.func126,by kernel_rfl,rfl,by decide,by decide,by kernel_rfl,by kernel_rfl⟩
theorem toh127:OkH1 Go.Proofs.Try.prog 127 h127:=⟨Go.Proofs.Try.f127,_,hintsH h127.body,Go.Proofs.Try.func127,by kernel_rfl,rfl,by decide,by decide,by kernel_rfl,by kernel_rfl⟩
theorem toh128:OkH1 Go.Proofs.Try.prog 128 h128:=⟨Go.Proofs.Try.f128,_,hintsH h128.body,Go.Proofs.Try.func128,by kernel_rfl,rfl,by decide,by decide,by kernel_rfl,by kernel_rfl⟩
theorem toh129:OkH1 Go.Proofs.Try.prog 129 h129:=⟨Go.Proofs.Try.f129,_,hintsH h129.body,Go.Proofs.Try.func129,by kernel_rfl,rfl,by decide,by decide,by kernel_rfl,by kernel_rfl⟩
theorem toh133:OkH1 Go.Proofs.Try.prog 133 h133:=⟨Go.Proofs.Try.f133,_,hintsH h133.body,Go.Proofs.Try.func133,by kernel_rfl,rfl,by decide,by decide,by kernel_rfl,by kernel_rfl⟩
theorem toh134:OkH1 Go.Proofs.Try.prog 134 h134:=⟨Go.Proofs.Try.f134,_,hintsH h134.body,Go.Proofs.Try.func134,by kernel_rfl,rfl,by decide,by decide,by kernel_rfl,by kernel_rfl⟩
theorem toh135:OkH1 Go.Proofs.Try.prog 135 h135:=⟨Go.Proofs.Try.f135,_,hintsH h135.body,Go.Proofs.Try.func135,by kernel_rfl,rfl,by decide,by decide,by kernel_rfl,by kernel_rfl⟩
theorem toh136:OkH1 Go.Proofs.Try.prog 136 h136:=⟨Go.Proofs.Try.f136,_,hintsH h136.body,Go.Proofs.Try.func136,by kernel_rfl,rfl,by decide,by decide,by kernel_rfl,by kernel_rfl⟩
theorem toh138:OkH1 Go.Proofs.Try.prog 138 h138:=⟨Go.Proofs.Try.f138,_,hintsH h138.body,Go.Proofs.Try.func138,by kernel_rfl,rfl,by decide,by decide,by kernel_rfl,by kernel_rfl⟩
theorem toh139:OkH1 Go.Proofs.Try.prog 139 h139:=⟨Go.Proofs.Try.f139,_,hintsH h139.body,Go.Proofs.Try.func139,by kernel_rfl,rfl,by decide,by decide,by kernel_rfl,by kernel_rfl⟩
theorem toh140:OkH1 Go.Proofs.Try.prog 140 h140:=⟨Go.Proofs.Try.f140,_,hintsH h140.body,Go.Proofs.Try.func140,by kernel_rfl,rfl,by decide,by decide,by kernel_rfl,by kernel_rfl⟩
theorem toh141:OkH1 Go.Proofs.Try.prog 141 h141:=⟨Go.Proofs.Try.f141,_,hintsH h141.body,Go.Proofs.Try.func141,by kernel_rfl,rfl,by decide,by decide,by kernel_rfl,by kernel_rfl⟩
theorem toh142:OkH1 Go.Proofs.Try.prog 142 h142:=⟨Go.Proofs.Try.f142,_,hintsH h142.body,Go.Proofs.Try.func142,by kernel_rfl,rfl,by decide,by decide,by kernel_rfl,by kernel_rfl⟩
theorem toh143:OkH1 Go.Proofs.Try.prog 143 h143:=⟨Go.Proofs.Try.f143,_,hintsH h143.body,Go.Proofs.Try.func143,by kernel_rfl,rfl,by decide,by decide,by kernel_rfl,by kernel_rfl⟩
theorem toh144:OkH1 Go.Proofs.Try.prog 144 h144:=⟨Go.Proofs.Try.f144,_,hintsH h144.body,Go.Proofs.Try.func144,by kernel_rfl,rfl,by decide,by decide,by kernel_rfl,by kernel_rfl⟩
theorem toh145:OkH1 Go.Proofs.Try.prog 145 h145:=⟨Go.Proofs.Try.f145,_,hintsH h145.body,Go.Proofs.Try.func145,by kernel_rfl,rfl,by decide,by decide,by kernel_rfl,by kernel_rfl⟩
theorem toh146:OkH1 Go.Proofs.Try.prog 146 h146:=⟨Go.Proofs.Try.f146,_,hintsH h146.body,Go.Proofs.Try.func146,by kernel_rfl,rfl,by decide,by decide,by kernel_rfl,by kernel_rfl⟩
theorem toh147:OkH1 Go.Proofs.Try.prog 147 h147:=⟨Go.Proofs.Try.f147,_,hintsH h147.body,Go.Proofs.Try.func147,by kernel_rfl,rfl,by decide,by decide,by kernel_rfl,by kernel_rfl⟩
theorem toh148:OkH1 Go.Proofs.Try.prog 148 h148:=⟨Go.Proofs.Try.f148,_,hintsH h148.body,Go.Proofs.Try.func148,by kernel_rfl,rfl,by decide,by decide,by kernel_rfl,by kernel_rfl⟩
theorem toh149:OkH1 Go.Proofs.Try.prog 149 h149:=⟨Go.Proofs.Try.f149,_,hintsH h149.body,Go.Proofs.Try.func149,by kernel_rfl,rfl,by decide,by decide,by kernel_rfl,by kernel_rfl⟩
theorem toh150:OkH1 Go.Proofs.Try.prog 150 h150:=⟨Go.Proofs.Try.f150,_,hintsH h150.body,Go.Proofs.Try.func150,by kernel_rfl,rfl,by decide,by decide,by kernel_rfl,by kernel_rfl⟩
theorem toh151:OkH1 Go.Proofs.Try.prog 151 h151:=⟨Go.Proofs.Try.f151,_,hintsH h151.body,Go.Proofs.Try.func151,by kernel_rfl,rfl,by decide,by decide,by kernel_rfl,by kernel_rfl⟩
theorem toh152:OkH1 Go.Proofs.Try.prog 152 h152:=⟨Go.Proofs.Try.f152,_,hintsH h152.body,Go.Proofs.Try.func152,by kernel_rfl,rfl,by decide,by decide,by kernel_rfl,by kernel_rfl⟩
theorem toh153:OkH1 Go.Proofs.Try.prog 153 h153:=⟨Go.Proofs.Try.f153,_,hintsH h153.body,Go.Proofs.Try.func153,by kernel_rfl,rfl,by decide,by decide,by kernel_rfl,by kernel_rfl⟩
theorem toh154:OkH1 Go.Proofs.Try.prog 154 h154:=⟨Go.Proofs.Try.f154,_,hintsH h154.body,Go.Proofs.Try.func154,by kernel_rfl,rfl,by decide,by decide,by kernel_rfl,by kernel_rfl⟩
theorem tokTH:TOkH Go.Proofs.Try.prog TH:=tok_of (l:=TL) ⟨toh12,toh18,toh22,toh24,toh27,toh29,toh35,toh52,toh53,toh56,toh57,toh58,toh59,toh60,toh64,toh65,toh66,toh67,toh70,toh71,toh72,toh73,toh74,toh76,toh77,toh78,toh79,toh80,toh81,toh97,toh98,toh105,toh106,toh107,toh108,toh109,toh110,toh111,toh113,toh115,toh116,toh120,toh126,toh127,toh128,toh129,toh133,toh134,toh135,toh136,toh138,toh139,toh140,toh141,toh142,toh143,toh144,toh145,toh146,toh147,toh148,toh149,toh150,toh151,toh152,toh153,toh154,trivial⟩
open Go
theorem kg1Ok:HCallOk Go.Proofs.Try.prog (evHI C0 KG1 TH):=kg1Ok' mixed tok tokTH
theorem ok27_of{o:l27_Op}(h:Rl27_Op o):Ok27 o:=by
 obtain⟨_,_,h4,_,h6⟩:=h
 have:=h4.u8;have:=h6.u16
 exact⟨by omega,by omega⟩
theorem genRoom(x1:Int)(x2:List l27_Op)(r1:Rng .u8 x1)(r2:x2.length<140737488355328/\∀y∈x2,Rl27_Op y):∃st',evHI C0 KG1 TH 12 ([PV.int .u8 x1,PV.sl x2.length (x2.flatMap cl27_Op)].map .p) []=some (.p (.bool true),st'):=
 genRoom1 r1.u8 x2 (fun o ho=>ok27_of (r2.2 o ho)) r2.1
end Go.Ab
