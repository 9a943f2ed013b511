/- Texts that go together: FoA FoB Plain46E FoC SRef46 FoD EngAD FoE FoF IntsW FoG STexts OcTx FoK SFontR FoL Plain06 Plain07B LbB LbC LbD LbE DcF Plain19B DcG DcH SLaw07 ObP ObQ ObR SSame ObSm SApart Plain07C ObS0 ObT DcI LbF Plain38B Plain38C Plain38D Plain38E Plain06B Plain06C Plain06D Plain06E Plain35 Plain35B Plain35C Plain05P Plain47B. -/
import Derived.Laws.Cover4
import Derived.Laws.Runes
import Derived.Test.YtmkodaephgnehaaGreatDoorRows
import Derived.Laws.RangeAny
import Derived.Shelf.Unicode.ValidAny
import Derived.Test.YtmkodaephgnehaaGreatDoorMejpblbll
import Derived.Test.YtmkodaephgnehaaGreatDoorMhlgoppdo
import Derived.Test.YtmkodaephgnehaaGreatDoorMbbklgjan
set_option linter.defProp false
set_option linter.unusedSimpArgs false
set_option linter.unusedVariables false
set_option maxRecDepth 20000
open Go.Proofs.Tryz (prog)
namespace Go.Proofs.YtmkodaephgnehaaGreatDoor
section
open Eng Go.RowKit
abbrev SpF (w:World):Prop:=Lib.TabIs prog w "strings.asciiSpace" .u8 Lib.asciiSpaceTab
def SpM (M:Mem):Prop:=∀w,M.has w→SpF w
theorem SpM.le {M N:Mem}(h:SpM M)(hle:M.le N):SpM N:=fun w hN=>h w (Mem.has_of hle hN)
theorem fieldsF_ret (t:List UInt8)(w:World)(hs:SpF w)(hl:t.length≤1000)(ha:t.all (fun b=>decide (b.toNat < 128))=true)(hf:(Lib.fields t).length≤1000) :
  Ret prog 36 #[.string ⟨t.toArray⟩] w (fun v w'=>Own w w' [StrRow v (Lib.fields t)]):=by
 refine ret_of fun K hK=>Calls.mono (Tryz.strings_Fields ⟨t.toArray⟩ w (by rw[str_size];omega) (fun j b h=>?_) hs) ?_
 ·have hm:=List.mem_of_getElem? h;exact of_decide_eq_true (List.all_eq_true.1 ha b hm)
 ·rintro e w' ⟨rfl,rfl⟩;have ho:=(Own.start w).alloc (strsV (Lib.fields t)) 9;have:=ho.toRow 1 (Lib.fields t).length (Lib.fields t).length (by rw[strsV_length,Nat.mul_one]) (by omega) (by omega);refine hK _ _ ?_;have e:(⟨t.toArray⟩:ByteArray).data.toList=t:=rfl;rw[List.take_of_length_le (by rw[strsV_length];omega)] at this;rw[e];exact this
namespace Fo
def lay (T:List (List UInt8))(at_:Nat):List (List UInt8)→List (List UInt8)
|[]=>T
|s::l=>lay (T.set at_ s) (at_+1) l
def let1 (T:List (List UInt8))(i:Nat):List (List UInt8):=(T.set (65+i) [UInt8.ofNat (65+i)]).set (97+i) [UInt8.ofNat (97+i)]
def lets (T:List (List UInt8)):Nat→List (List UInt8)
|0=>T
|i+1=>let1 (lets T i) i
theorem lay_len:∀(l:List (List UInt8)) (T:List (List UInt8)) (a:Nat),(lay T a l).length=T.length
|[],_,_=>rfl
|s::l,T,a=>by rw[lay,lay_len l,List.length_set]
theorem lets_len (T:List (List UInt8)):∀i,(lets T i).length=T.length
|0=>rfl
|i+1=>by rw[lets,let1,List.length_set,List.length_set,lets_len T i]
theorem lay_take:∀(l:List (List UInt8)) (T:List (List UInt8)) (a i:Nat) (h:i < l.length),lay T a (l.take (i+1))=(lay T a (l.take i)).set (a+i) l[i]
|s::l,T,a,0,_=>by simp[lay]
|s::l,T,a,i+1,h=>by
  have h':i < l.length:=by simpa using h
  rw[List.take_succ_cons,lay,lay_take l _ _ i h',List.take_succ_cons,lay];simp only[List.getElem_cons_succ];rw[show a+1+i=a+(i+1) by omega]
def zero:List (List UInt8):=List.replicate 256 []
theorem usual_prog:lay (lay (lets (lay zero 32 signs) 26) 91 between) 123 last=usual:=by decide +kernel
def signsS:List UInt8:=[115,112,97,99,101,32,101,120,99,108,97,109,32,113,117,111,116,101,100,98,108,32,110,117,109,98,101,114,115,105,103,110,32,100,111,108,108,97,114,32,112,101,114,99,101,110,116,32,97,109,112,101,114,115,97,110,100,32,113,117,111,116,101,115,105,110,103,108,101,32,112,97,114,101,110,108,101,102,116,32,112,97,114,101,110,114,105,103,104,116,32,97,115,116,101,114,105,115,107,32,112,108,117,115,32,99,111,109,109,97,32,104,121,112,104,101,110,32,112,101,114,105,111,100,32,115,108,97,115,104,32,122,101,114,111,32,111,110,101,32,116,119,111,32,116,104,114,101,101,32,102,111,117,114,32,102,105,118,101,32,115,105,120,32,115,101,118,101,110,32,101,105,103,104,116,32,110,105,110,101,32,99,111,108,111,110,32,115,101,109,105,99,111,108,111,110,32,108,101,115,115,32,101,113,117,97,108,32,103,114,101,97,116,101,114,32,113,117,101,115,116,105,111,110,32,97,116]
def betweenS:List UInt8:=[98,114,97,99,107,101,116,108,101,102,116,32,98,97,99,107,115,108,97,115,104,32,98,114,97,99,107,101,116,114,105,103,104,116,32,97,115,99,105,105,99,105,114,99,117,109,32,117,110,100,101,114,115,99,111,114,101,32,103,114,97,118,101]
def lastS:List UInt8:=[98,114,97,99,101,108,101,102,116,32,98,97,114,32,98,114,97,99,101,114,105,103,104,116,32,97,115,99,105,105,116,105,108,100,101]
theorem signsS_f:Lib.fields signsS=signs:=by decide +kernel
theorem betweenS_f:Lib.fields betweenS=between:=by decide +kernel
theorem lastS_f:Lib.fields lastS=last:=by decide +kernel
end Fo
abbrev usE (b:Nat)(T:List (List UInt8)):Ent:=.cells b (strsV T) 9
abbrev usC (b1 b:Nat):Ent:=.cells b1 [.slice (some ⟨b,0,none⟩) 256 256] 23
theorem strsV_set (T:List (List UInt8))(i:Nat)(s:List UInt8):(strsV T).set i (.string ⟨s.toArray⟩)=strsV (T.set i s):=by
 unfold strsV;rw[List.map_set];rfl
theorem nSlS47:notAgg prog 23=true:=by kernel_rfl
theorem putF_plain:plainB prog 35=true:=by kernel_rfl
section
variable {w:World}{PK:PKT}{K:VWP}{S:Nat→Prop}{w0:World}{L:List Ent}
theorem us_put (i:Nat){b at_:Nat}{T:List (List UInt8)}{s:List UInt8}{p:Int}(hT:T.length=256)(hp:p=(at_:Int))(ha:at_ < 256)(ho:OwnS S w0 w L)(hi:L[i]?=some (usE b T))
  (k:∀W,OwnS S w0 W (L.set i (usE b (T.set at_ s)))→K undef W) :
  DoX prog (mIA 23 (.slice (some ⟨b,0,none⟩) 256 256) (.int .i64 p)) w PK (fun t w=>DoX prog (mStore 9 t (.string ⟨s.toArray⟩)) w PK K):=by
 subst hp;refine do_eq (run_ia Tryz.underlying23 (show _=some 1 by kernel_rfl) (by omega) (by omega)) |>.mpr ?_;rw[Int.toNat_natCast,Nat.mul_one,Nat.zero_add];refine o_store i ho hi (by kernel_rfl) rfl (by rw[strsV_length,hT];exact ha) fun W ho=>?_;rw[strsV_set] at ho;exact k W ho
theorem c_put47 {b1 b at_:Nat}{T:List (List UInt8)}(s:List UInt8)(hs:SpF w)(hsl:s.length≤1000)(ha:s.all (fun b=>decide (b.toNat < 128))=true)(hT:T.length=256)(hfit:at_+(Lib.fields s).length≤256)(ho:OwnS S w0 w (usC b1 b::usE b T::L))
  (k:∀W,OwnS S w0 W (usC b1 b::usE b (Fo.lay T at_ (Lib.fields s))::L)→K (.tuple #[]) W) :
  DoX prog (mCallV (.func (.func 35) #[] #[.pointer (some ⟨b1,0,none⟩)]) #[.int .i64 (at_:Int),.string ⟨s.toArray⟩]) w PK K:=by
 refine c_val putF_plain ?_;show CallX prog 35 #[.int .i64 (at_:Int),.string ⟨s.toArray⟩,.pointer (some ⟨b1,0,none⟩)] w PK K;refine⟨S_font_Usual_1_ok ?_⟩;unfold S_font_Usual_1;refine c_ret (fieldsF_ret s w hs hsl ha (by omega)) fun v w1 hf=>?_;have ho:=ho.join hf;generalize Lib.fields s=F at *;have hsl1:Sl w1 v 1 F.length (strsV F):=ho.slRow 0 rfl;rw[sl_len Tryz.underlying23 hsl1];refine loop (fun vs W=>∃i:Nat,vs=[.int .i64 (i:Int)]∧i≤F.length∧OwnS S w0 W (StrRow v F::usC b1 b::usE b (Fo.lay T at_ (F.take i))::L)) (fun vs _=>F.length - n0 vs) ⟨0,rfl,by omega,ho⟩ ?_;clear ho hsl1;rintro vs w2 ⟨i,rfl,hi,ho⟩ _;simp only[S_font_Usual_1_0,gd,rs];by_cases hlt:(i:Int) < (F.length:Int)
 case neg=>
  simp only[decide_eq_false hlt,i_f];have:i=F.length:=by omega
  subst this;rw[List.take_length] at ho;exact k w2 ho.tail
 simp only[decide_eq_true hlt,i_t];have hi':i < F.length:=by omega
 obtain⟨g,off,cap,rfl,hc⟩:=sl_open (ho.slRow 0 rfl:Sl w2 v 1 F.length (strsV F)) (by omega);refine do_eq (run_ia Tryz.underlying23 (show _=some 1 by kernel_rfl) (by omega) (by omega)) |>.mpr ?_;rw[Int.toNat_natCast,Nat.mul_one,l_cell nStr5 (hc i _ (strsV_get hi')),l_cell nSlS47 (ho.cell 1 rfl 0 rfl)]
 try simp only[rs]
 rw[wrap64_id (by omega) (by omega)];refine us_put (at_:=at_+i) (s:=F[i]) 2 (by rw[Fo.lay_len,hT]) (by omega) (by omega) ho rfl fun w3 ho=>?_
 try simp only[rs]
 rw[wrap64_id (by omega) (by omega)];refine nextX ⟨i+1,rfl,by omega,?_⟩ (by simp[n0,RowKit.intOf];omega);rw[Fo.lay_take F T at_ i hi'];exact ho
end
theorem lb_l8 {n i:Nat}(hn:n+i≤255):IntKind.wrap .u8 ((n:Int)+(i:Int))=((UInt8.ofNat (n+i)).toNat:Int):=by
 rw[wrap8_id (by omega) (by omega),UInt8.toNat_ofNat'];omega
theorem usual47_ret (M:Mem)(w:World)(hs:SpM M)(hM:M.has w):RetM prog 19 #[] M w (fun r N=>SlA N.A N.w r 1 256 (strsV Fo.usual)):=by
 refine retM_of hM fun K hK=>S_font_Usual_ok ?_;unfold S_font_Usual;refine o_new (fun b=>.slice (some ⟨b,0,none⟩) 256 256) (strsV Fo.zero) 9 (fun _=>by kernel_rfl) (OwnS.memS hM) fun b w1 ho=>?_;refine o_new (fun b=>.pointer (some ⟨b,0,none⟩)) [nilS] 23 (fun _=>by kernel_rfl) ho fun b1 w2 ho=>?_;refine o_store 0 ho rfl (by kernel_rfl) rfl (by simp) fun w3 ho=>?_;have ho:OwnS M.A w w3 [usC b1 b,usE b Fo.zero,.mem M]:=ho;rw[m_func];refine c_put47 (at_:=32) Fo.signsS (hs w3 (ho.hasM 2 rfl)) (by decide) (by decide +kernel) (by decide) (by rw[Fo.signsS_f];decide) ho fun w4 ho=>?_;rw[Fo.signsS_f] at ho;have hT:(Fo.lay Fo.zero 32 Fo.signs).length=256:=by rw[Fo.lay_len];rfl
 generalize hTT:Fo.lay Fo.zero 32 Fo.signs=T at *;refine loop (fun vs W=>∃i:Nat,vs=[.int .i64 (i:Int)]∧i≤26∧OwnS M.A w W [usC b1 b,usE b (Fo.lets T i),.mem M]) (fun vs _=>26 - n0 vs) ⟨0,rfl,by omega,ho⟩ ?_;clear ho;rintro vs w5 ⟨i,rfl,hi,ho⟩ _;simp only[S_font_Usual_0,gd,rs];by_cases hlt:(i:Int) < 26
 case neg=>
  simp only[decide_eq_false hlt,i_f];have:i=26:=by omega
  subst this;refine c_put47 (at_:=91) Fo.betweenS (hs w5 (ho.hasM 2 rfl)) (by decide) (by decide +kernel) (by rw[Fo.lets_len];exact hT) (by rw[Fo.betweenS_f];decide) ho fun w6 ho=>?_;refine c_put47 (at_:=123) Fo.lastS (hs w6 (ho.hasM 2 rfl)) (by decide) (by decide +kernel) (by rw[Fo.lay_len,Fo.lets_len];exact hT) (by rw[Fo.lastS_f];decide) ho fun w7 ho=>?_;rw[Fo.betweenS_f,Fo.lastS_f,←hTT,Fo.usual_prog] at ho;rw[l_cell nSlS47 (ho.cell 0 rfl 0 rfl)];obtain⟨N,hle,hs2,ho⟩:=OwnS.freezeU (ho.tail.toU 1 256 256 (by rw[strsV_length,Fo.usual_len]) (by omega) (by omega)) 0 rfl;exact hK _ _ N _ 0 ho rfl hle (by rw[List.take_of_length_le (by rw[strsV_length,Fo.usual_len];omega)] at hs2;exact hs2)
 simp only[decide_eq_true hlt,i_t];have hi':i < 26:=by omega
 rw[l_cell nSlS47 (ho.cell 0 rfl 0 rfl)]
 try simp only[rs]
 rw[wrap64_id (n:=65+(i:Int)) (by omega) (by omega),lb_c8,show (65:Int)+(i:Int)=((65:Nat):Int)+(i:Int) from rfl,lb_l8 (by omega)];refine lb_str1 _ rfl ho fun w6 ho=>?_;refine us_put (at_:=65+i) (s:=[UInt8.ofNat (65+i)]) 1 (by rw[Fo.lets_len];exact hT) (by omega) (by omega) ho rfl fun w7 ho=>?_;rw[l_cell nSlS47 (ho.cell 0 rfl 0 rfl)]
 try simp only[rs]
 rw[wrap64_id (n:=97+(i:Int)) (by omega) (by omega),lb_c8,show (97:Int)+(i:Int)=((97:Nat):Int)+(i:Int) from rfl,lb_l8 (by omega)];refine lb_str1 _ rfl ho fun w8 ho=>?_;refine us_put (at_:=97+i) (s:=[UInt8.ofNat (97+i)]) 1 (by rw[List.length_set,Fo.lets_len];exact hT) (by omega) (by omega) ho rfl fun w9 ho=>?_
 try simp only[rs]
 rw[wrap64_id (by omega) (by omega)];exact nextX ⟨i+1,rfl,by omega,ho⟩ (by simp[n0,RowKit.intOf];omega)
end
section
open Eng Go.RowKit
theorem run_iaA {P:Program}{w:World}{T E:TypeId}{k:IntKind}{b off n sz:Nat}{i:Int}(h:P.underlying T=some (.array n E))(hsz:(P.info? E).map (·.size)=some sz)(h0:0≤i)(h1:i < n) :
  (mIA T (.pointer (some ⟨b,off,none⟩)) (.int k i)).run P w=.ok (.value (.pointer (some ⟨b,off+i.toNat*sz,none⟩))) w:=by
 obtain⟨ii,hi,hi1⟩:=Option.map_eq_some_iff.1 hsz;have e:(⟨b,off,none⟩:Addr).add (i.toNat*sz)=⟨b,off+i.toNat*sz,none⟩:=by unfold Addr.add;split<;>simp_all
 exact mv_run (by simp[Instr.indexAt,asIntOf,run_underlying h,h0,h1,Instr.sureAddr,sizeOf,typeInfo,hi,hi1,e])
theorem szStr47:(Tryz.prog.info? 9).map (·.size)=some 1:=by kernel_rfl
section
variable {w:World}{PK:PKT}{K:VWP}{S:Nat→Prop}{w0:World}{L:List Ent}
theorem us_arr {T:TypeId}{n i at_ b b2:Nat}{F U:List (List UInt8)}(hT:Tryz.prog.underlying T=some (.array n 9))(hn:F.length=n)(hi:i < F.length)(hU:U.length=256)(ha:at_ < 256){p:Int}(hp:p=(at_:Int))
  (ho:OwnS S w0 w (.cells b2 (strsV F) T::usE b U::L)) (k:∀W,OwnS S w0 W (.cells b2 (strsV F) T::usE b (U.set at_ F[i])::L)→K undef W) :
  DoX prog (mIA T (.pointer (some ⟨b2,0,none⟩)) (.int .i64 (i:Int))) w PK (fun t19 w=>DoX prog (mLoad 9 t19) w PK fun t20 w=>DoX prog (mIA 23 (.slice (some ⟨b,0,none⟩) 256 256) (.int .i64 p)) w PK fun t21 w=>DoX prog (mStore 9 t21 t20) w PK K):=by
 refine do_eq (run_iaA hT szStr47 (by omega) (by omega)) |>.mpr ?_;rw[Int.toNat_natCast,Nat.mul_one,Nat.zero_add,l_cell nStr5 (ho.cell 0 rfl i (strsV_get hi))];exact us_put (at_:=at_) 1 hU hp ha ho rfl k
end
theorem lb_l32 {c:Nat}(hc:c≤255):IntKind.wrap .u8 (c:Int)=((UInt8.ofNat c).toNat:Int):=by
 rw[wrap8_id (by omega) (by omega),UInt8.toNat_ofNat'];omega
theorem c_328 {w:World}{PK:PKT}{K:VWP}{n:Int}:DoX prog (mConv 21 5 (.int .i32 n)) w PK K=K (.int .u8 (IntKind.wrap .u8 n)) w:=
 c_int (show (Tryz.prog.underlying 21).isSome=true by kernel_rfl) Tryz.underlying5
section
variable {w:World}{PK:PKT}{K:VWP}{S:Nat→Prop}{w0:World}{L:List Ent}
theorem us_put32 (i:Nat){b at_:Nat}{T:List (List UInt8)}{s:List UInt8}{p:Int}(hT:T.length=256)(hp:p=(at_:Int))(ha:at_ < 256)(ho:OwnS S w0 w L)(hi:L[i]?=some (usE b T))
  (k:∀W,OwnS S w0 W (L.set i (usE b (T.set at_ s)))→K undef W) :
  DoX prog (mIA 23 (.slice (some ⟨b,0,none⟩) 256 256) (.int .i32 p)) w PK (fun t w=>DoX prog (mStore 9 t (.string ⟨s.toArray⟩)) w PK K):=by
 subst hp;refine do_eq (run_ia Tryz.underlying23 (show _=some 1 by kernel_rfl) (by omega) (by omega)) |>.mpr ?_;rw[Int.toNat_natCast,Nat.mul_one,Nat.zero_add];refine o_store i ho hi (by kernel_rfl) rfl (by rw[strsV_length,hT];exact ha) fun W ho=>?_;rw[strsV_set] at ho;exact k W ho
end
theorem do_val {P:Program}{m:Sem Next}{w:World}{PK:PKT}{K:VWP}(v:Value)(h:m.run P w=.ok (.value v) w)(k:K v w):DoX P m w PK K:=(do_eq h).mpr k
theorem rusual47_ret (M:Mem)(w:World)(hM:M.has w):RetM prog 20 #[] M w (fun r N=>SlA N.A N.w r 1 256 (strsV Fo.usual)):=by
 refine retM_of hM fun K hK=>S_foliantref47_Usual_ok ?_;unfold S_foliantref47_Usual;refine o_new (fun b=>.slice (some ⟨b,0,none⟩) 256 256) (strsV Fo.zero) 9 (fun _=>by kernel_rfl) (OwnS.memS hM) fun b w1 ho=>?_;refine do_val (.agg (strsV Fo.signs).toArray) (by kernel_rfl) ?_;refine o_new (fun b=>.pointer (some ⟨b,0,none⟩)) (List.replicate 33 (.string ⟨#[]⟩)) 68 (fun _=>by kernel_rfl) ho fun b2 w2 ho=>?_;refine o_put 0 ho rfl (new:=strsV Fo.signs) (by kernel_rfl) strsV_one' rfl fun w3 ho=>?_;have ho:OwnS M.A w w3 [.cells b2 (strsV Fo.signs) 68,usE b Fo.zero,.mem M]:=ho;refine loop (fun vs W=>∃i:Nat,vs=[.int .i64 (i:Int)]∧i≤33∧OwnS M.A w W [.cells b2 (strsV Fo.signs) 68,usE b (Fo.lay Fo.zero 32 (Fo.signs.take i)),.mem M]) (fun vs _=>33 - n0 vs) ⟨0,rfl,by omega,by simpa only[List.take_zero,Fo.lay,Fo.lets] using ho⟩ ?_;clear ho;rintro vs w4 ⟨i,rfl,hi,ho⟩ _;simp only[S_foliantref47_Usual_0,gd,rs];by_cases hlt:(i:Int) < 33
 ·simp only[decide_eq_true hlt,i_t];have hi':i < Fo.signs.length:=by have:Fo.signs.length=33:=rfl;omega
  rw[wrap64_id (by omega) (by omega)];refine us_arr (at_:=32+i) (show Tryz.prog.underlying 68=some (.array 33 9) by kernel_rfl) rfl hi' (by rw[Fo.lay_len];rfl) (by omega) (by omega) ho fun w5 ho=>?_
  try simp only[rs]
  rw[wrap64_id (by omega) (by omega)];refine nextX ⟨i+1,rfl,by omega,?_⟩ (by simp[n0,RowKit.intOf];omega);rw[Fo.lay_take _ _ _ i hi'];exact ho
 simp only[decide_eq_false hlt,i_f];have:i=33:=by omega
 subst this;have ho:=ho.tail;rw[show Fo.signs.take 33=Fo.signs from rfl] at ho;have hT:(Fo.lay Fo.zero 32 Fo.signs).length=256:=by rw[Fo.lay_len];rfl
 obtain⟨T,hTT⟩:∃T,T=Fo.lay Fo.zero 32 Fo.signs:=⟨_,rfl⟩;rw[←hTT] at ho hT;refine loop (fun vs W=>∃i:Nat,vs=[.int .i32 ((65+i:Nat):Int)]∧i≤26∧OwnS M.A w W [usE b (Fo.lets T i),.mem M]) (fun vs _=>91 - n0 vs) ⟨0,rfl,by omega,by simpa only[List.take_zero,Fo.lay,Fo.lets] using ho⟩ ?_;clear ho;rintro vs w5 ⟨i,rfl,hi,ho⟩ _;simp only[S_foliantref47_Usual_1,gd,rs];by_cases hlt:((65+i:Nat):Int)≤90
 ·simp only[decide_eq_true hlt,i_t];rw[c_328,lb_l32 (by omega)];refine lb_str1 _ rfl ho fun w6 ho=>?_;refine us_put32 (at_:=65+i) (s:=[UInt8.ofNat (65+i)]) 0 (by rw[Fo.lets_len];exact hT) rfl (by omega) ho rfl fun w7 ho=>?_
  try simp only[rs]
  have e97:IntKind.wrap .i32 (((65+i:Nat):Int)+32)=((97+i:Nat):Int):=by rw[wrap32_id (by omega) (by omega)];omega
  rw[e97,c_328,lb_l32 (by omega)];refine lb_str1 _ rfl ho fun w8 ho=>?_;refine us_put32 (at_:=97+i) (s:=[UInt8.ofNat (97+i)]) 0 (by rw[List.length_set,Fo.lets_len];exact hT) rfl (by omega) ho rfl fun w9 ho=>?_
  try simp only[rs]
  have e1:IntKind.wrap .i32 (((65+i:Nat):Int)+1)=((65+(i+1):Nat):Int):=by rw[wrap32_id (by omega) (by omega)];omega
  rw[e1];exact nextX ⟨i+1,rfl,by omega,ho⟩ (by simp[n0,RowKit.intOf];omega)
 simp only[decide_eq_false hlt,i_f];have:i=26:=by omega
 subst this;have hT2:(Fo.lets T 26).length=256:=by rw[Fo.lets_len];exact hT
 obtain⟨T2,hTT2⟩:∃T2,T2=Fo.lets T 26:=⟨_,rfl⟩;rw[←hTT2] at ho hT2;refine do_val (.agg (strsV Fo.between).toArray) (by kernel_rfl) ?_;refine o_new (fun b=>.pointer (some ⟨b,0,none⟩)) (List.replicate 6 (.string ⟨#[]⟩)) 69 (fun _=>by kernel_rfl) ho fun b3 w6 ho=>?_;refine o_put 0 ho rfl (new:=strsV Fo.between) (by kernel_rfl) strsV_one' rfl fun w7 ho=>?_;have ho:OwnS M.A w w7 [.cells b3 (strsV Fo.between) 69,usE b T2,.mem M]:=ho;refine loop (fun vs W=>∃i:Nat,vs=[.int .i64 (i:Int)]∧i≤6∧OwnS M.A w W [.cells b3 (strsV Fo.between) 69,usE b (Fo.lay T2 91 (Fo.between.take i)),.mem M]) (fun vs _=>6 - n0 vs) ⟨0,rfl,by omega,by simpa only[List.take_zero,Fo.lay,Fo.lets] using ho⟩ ?_;clear ho;rintro vs w8 ⟨i,rfl,hi,ho⟩ _;simp only[S_foliantref47_Usual_2,gd,rs];by_cases hlt:(i:Int) < 6
 ·simp only[decide_eq_true hlt,i_t];have hi':i < Fo.between.length:=by have:Fo.between.length=6:=rfl;omega
  rw[wrap64_id (by omega) (by omega)];refine us_arr (at_:=91+i) (show Tryz.prog.underlying 69=some (.array 6 9) by kernel_rfl) rfl hi' (by rw[Fo.lay_len];exact hT2) (by omega) (by omega) ho fun w5 ho=>?_
  try simp only[rs]
  rw[wrap64_id (by omega) (by omega)];refine nextX ⟨i+1,rfl,by omega,?_⟩ (by simp[n0,RowKit.intOf];omega);rw[Fo.lay_take _ _ _ i hi'];exact ho
 simp only[decide_eq_false hlt,i_f];have:i=6:=by omega
 subst this;have ho:=ho.tail;rw[show Fo.between.take 6=Fo.between from rfl] at ho;have hT3:(Fo.lay T2 91 Fo.between).length=256:=by rw[Fo.lay_len];exact hT2
 obtain⟨T3,hTT3⟩:∃T3,T3=Fo.lay T2 91 Fo.between:=⟨_,rfl⟩;rw[←hTT3] at ho hT3;refine do_val (.agg (strsV Fo.last).toArray) (by kernel_rfl) ?_;refine o_new (fun b=>.pointer (some ⟨b,0,none⟩)) (List.replicate 4 (.string ⟨#[]⟩)) 70 (fun _=>by kernel_rfl) ho fun b4 w9 ho=>?_;refine o_put 0 ho rfl (new:=strsV Fo.last) (by kernel_rfl) strsV_one' rfl fun w10 ho=>?_;have ho:OwnS M.A w w10 [.cells b4 (strsV Fo.last) 70,usE b T3,.mem M]:=ho;refine loop (fun vs W=>∃i:Nat,vs=[.int .i64 (i:Int)]∧i≤4∧OwnS M.A w W [.cells b4 (strsV Fo.last) 70,usE b (Fo.lay T3 123 (Fo.last.take i)),.mem M]) (fun vs _=>4 - n0 vs) ⟨0,rfl,by omega,by simpa only[List.take_zero,Fo.lay,Fo.lets] using ho⟩ ?_;clear ho;rintro vs w11 ⟨i,rfl,hi,ho⟩ _;simp only[S_foliantref47_Usual_3,gd,rs];by_cases hlt:(i:Int) < 4
 ·simp only[decide_eq_true hlt,i_t];have hi':i < Fo.last.length:=by have:Fo.last.length=4:=rfl;omega
  rw[wrap64_id (by omega) (by omega)];refine us_arr (at_:=123+i) (show Tryz.prog.underlying 70=some (.array 4 9) by kernel_rfl) rfl hi' (by rw[Fo.lay_len];exact hT3) (by omega) (by omega) ho fun w5 ho=>?_
  try simp only[rs]
  rw[wrap64_id (by omega) (by omega)];refine nextX ⟨i+1,rfl,by omega,?_⟩ (by simp[n0,RowKit.intOf];omega);rw[Fo.lay_take _ _ _ i hi'];exact ho
 simp only[decide_eq_false hlt,i_f];have:i=4:=by omega
 subst this;have ho:=ho.tail;rw[show Fo.last.take 4=Fo.last from rfl,hTT3,hTT2,hTT,Fo.usual_prog] at ho;obtain⟨N,hle,hs2,ho⟩:=OwnS.freezeU (ho.toU 1 256 256 (by rw[strsV_length,Fo.usual_len]) (by omega) (by omega)) 0 rfl;exact hK _ _ N _ 0 ho rfl hle (by rw[List.take_of_length_le (by rw[strsV_length,Fo.usual_len];omega)] at hs2;exact hs2)
end
section
open Go
namespace Cm
theorem tb (n:Nat)(z:Int)(h:z=(n:Int)):z.toNat.toUInt8=UInt8.ofNat n:=by
 subst h;rw[Int.toNat_natCast]
theorem enc_list (r:Nat):Utf8.encode (r:Int)=⟨(Lib.encodeRune (r:Int)).toArray⟩:=by
 unfold Lib.encodeRune;by_cases c1:r < 128
 ·have v:Utf8.valid (r:Int)=true:=by simp[Utf8.valid];omega
  have e:Utf8.encode (r:Int)=⟨#[UInt8.ofNat r]⟩:=by simp[Utf8.encode,v,c1]
  rw[Lib.encodeRuneZ_one (by omega) (by omega),e,List.map_cons,List.map_nil,tb r _ rfl]
 by_cases c2:r < 2048
 ·have v:Utf8.valid (r:Int)=true:=by simp[Utf8.valid];omega
  have e:Utf8.encode (r:Int)=⟨#[UInt8.ofNat (192+r / 64),UInt8.ofNat (128+r % 64)]⟩:=by simp[Utf8.encode,v,c1,c2]
  rw[Lib.encodeRuneZ_two (by omega) (by omega),e,List.map_cons,List.map_cons,List.map_nil,tb (192+r / 64) _ (by omega),tb (128+r % 64) _ (by omega)]
 by_cases hb:(55296≤r∧r≤57343)∨1114111 < r
 ·have v:Utf8.valid (r:Int)=false:=by simp[Utf8.valid];omega
  have e:Utf8.encode (r:Int)=⟨#[239,191,189]⟩:=by simp[Utf8.encode,v,Utf8.runeError]
  rw[Lib.encodeRuneZ_bad (by omega),e];rfl
 have v:Utf8.valid (r:Int)=true:=by simp[Utf8.valid];omega
 by_cases c3:r < 65536
 ·have e:Utf8.encode (r:Int)=⟨#[UInt8.ofNat (224+r / 4096),UInt8.ofNat (128+r / 64 % 64),UInt8.ofNat (128+r % 64)]⟩:=by simp[Utf8.encode,v,c1,c2,c3]
  rw[Lib.encodeRuneZ_three (by omega),e,List.map_cons,List.map_cons,List.map_cons,List.map_nil,tb (224+r / 4096) _ (by omega),tb (128+r / 64 % 64) _ (by omega),tb (128+r % 64) _ (by omega)]
 ·have e:Utf8.encode (r:Int)=⟨#[UInt8.ofNat (240+r / 262144),UInt8.ofNat (128+r / 4096 % 64),UInt8.ofNat (128+r / 64 % 64),UInt8.ofNat (128+r % 64)]⟩:=by simp[Utf8.encode,v,c1,c2,c3]
  rw[Lib.encodeRuneZ_four (by omega) (by omega),e,List.map_cons,List.map_cons,List.map_cons,List.map_cons,List.map_nil,tb (240+r / 262144) _ (by omega),tb (128+r / 4096 % 64) _ (by omega),tb (128+r / 64 % 64) _ (by omega),tb (128+r % 64) _ (by omega)]
end Cm
end
section
open Eng Go.RowKit
theorem cutPrefix_ret (s p:List UInt8)(w:World):Ret prog 54 #[.string ⟨s.toArray⟩,.string ⟨p.toArray⟩] w (fun v w'=>v=.tuple #[.string ⟨(if p.isPrefixOf s then s.drop p.length else s).toArray⟩,.bool (p.isPrefixOf s)]∧w=w'):=by
 refine ret_of fun K hK=>S_strings_CutPrefix_ok ?_;unfold S_strings_CutPrefix;refine c_eq (v:=.tuple #[.string ⟨(if p.isPrefixOf s then s.drop p.length else s).toArray⟩,.bool (p.isPrefixOf s)]) ?_ ?_
 ·refine ret_of fun K hK=>S_internal_stringslite_CutPrefix_ok ?_;unfold S_internal_stringslite_CutPrefix;have hp:Ret prog 125 #[.string ⟨s.toArray⟩,.string ⟨p.toArray⟩] w (fun v w'=>v=.bool (p.isPrefixOf s)∧w=w'):=
   Calls.mono (Tryz.stringslite_HasPrefix ⟨s.toArray⟩ ⟨p.toArray⟩ w) (by rintro e w' ⟨rfl,rfl⟩;exact retK ⟨rfl,rfl⟩)
  refine c_eq hp ?_;cases hb:p.isPrefixOf s with
 |false=>
   simp only[rs,Bool.not_false,i_t];exact hK _ _ ⟨by rw[hb];rfl,rfl⟩
 |true=>
   simp only[rs,Bool.not_true,i_f];have hl:p.length≤s.length:=(List.isPrefixOf_iff_prefix.1 hb).length_le;rw[s_len Tryz.underlying9,s_from Tryz.underlying9 (by omega) (by omega),Int.toNat_natCast];exact hK _ _ ⟨by rw[hb];rfl,rfl⟩
 ·simp only[ex];exact hK _ _ ⟨rfl,rfl⟩
theorem or4 {v c:Nat}(hv:v < 1000000)(hc:c < 16):bOr .i64 ((v*2 ^ 4:Nat):Int) (c:Int)=((v*2 ^ 4+c:Nat):Int):=by
 have h:v*2 ^ 4 ||| c=v*2 ^ 4+c:=by rw[Nat.mul_comm];exact (Nat.two_pow_add_eq_or_of_lt (i:=4) hc v).symm
 unfold bOr;rw[BitVec.toNat_or];simp only[BitVec.ofInt_natCast,BitVec.toNat_ofNat];rw[Nat.mod_eq_of_lt (show v*2 ^ 4 < 2 ^ IntKind.i64.bits by show _ < 18446744073709551616;omega),Nat.mod_eq_of_lt (show c < 2 ^ IntKind.i64.bits by show _ < 18446744073709551616;omega),h];exact wrap64_id (by omega) (by omega)
namespace Fo
theorem dig_lx (c:UInt8):dig c=if Lx.digit c < 0∨97≤c.toNat then -1 else Lx.digit c:=by
 unfold dig Lx.digit;have:=c.toNat_lt
 repeat' split
 all_goals omega
theorem dig_bd (c:UInt8):-1≤dig c∧dig c≤15:=by
 unfold dig
 repeat' split
 all_goals omega
theorem uniG_step {s:List UInt8}{i:Nat}(hi:i < s.length)(n:Int):uniG n (s.drop i)=if dig s[i] < 0 then none else uniG (16*n+dig s[i]) (s.drop (i+1)):=by
 rw[List.drop_eq_getElem_cons hi,uniG]
theorem uniR_no {n:Int}(h:n=0∨(55296≤n∧n≤57343)):uniR n=[]:=by unfold uniR;rw[if_pos h]
theorem uniR_yes {n:Int}(h:¬(n=0∨(55296≤n∧n≤57343))):uniR n=Lib.encodeRune n:=by unfold uniR;rw[if_neg h]
end Fo
section
variable {w:World}{PK:PKT}{K:VWP}{S:Nat→Prop}{w0:World}{L:List Ent}
theorem c_i32 {n:Int}:DoX prog (mConv 3 21 (.int .i64 n)) w PK K=K (.int .i32 (IntKind.wrap .i32 n)) w:=
 c_int (show (Tryz.prog.underlying 3).isSome=true by kernel_rfl) Tryz.underlying21
theorem lb_rune1 {r:Nat}(ho:OwnS S w0 w L)(k:∀w',OwnS S w0 w' L→K (.string ⟨(Lib.encodeRune (r:Int)).toArray⟩) w') :
  DoX prog (mBuildS 99 1 #[(0,.int .i32 (r:Int))]) w PK (fun t w=>DoX prog (mConv 99 9 t) w PK K):=by
 refine o_new (fun b=>.slice (some ⟨b,0,none⟩) 1 1) [.int .i32 (r:Int)] 21 (fun _=>by kernel_rfl) ho fun b w1 ho=>?_;have hl:=run_loadCells_list (P:=prog) w1 ⟨b,0,none⟩ [Value.int .i32 (r:Int)] (fun j v hj=>by rw[add_none,Nat.zero_add];exact ho.cell 0 rfl j hj);have h2:=run_runesToString (P:=prog) w1 ⟨b,0,none⟩ 1 1 [(r:Int)] hl;have h3:=run_convert_runes_string (P:=prog) w1 99 9 21 (some ⟨b,0,none⟩) 1 1 Tryz.underlying99 Tryz.underlying21 Tryz.underlying9;have e:runesBytes [(r:Int)]=⟨(Lib.encodeRune (r:Int)).toArray⟩:=by
  unfold runesBytes;simp only[List.foldl_cons,List.foldl_nil];rw[Cm.enc_list];simp
 rw[e] at h2;refine do_val _ (mv_run (h3.trans h2)) ?_;exact k w1 ho.tail
theorem c_rstr {r:Nat}:DoX prog (mConv 21 9 (.int .i32 (r:Int))) w PK K=K (.string ⟨(Lib.encodeRune (r:Int)).toArray⟩) w:=by
 refine do_eq (mv_run ?_);rw[run_convert_int_string w _ _ _ _ (show (Tryz.prog.underlying 21).isSome=true by kernel_rfl) Tryz.underlying9,Cm.enc_list]
end
theorem uni47_ret (s:List UInt8)(w:World):Ret prog 28 #[.string ⟨s.toArray⟩] w (fun v w'=>v=.string ⟨(Fo.uni s).toArray⟩∧Below w.heap.size w w'):=by
 refine ret_of fun K hK=>S_font_uni_ok ?_;generalize hX:Fo.uni s=X at hK;unfold Fo.uni at hX;unfold S_font_uni;have hp:(Fo.uniK.isPrefixOf s=true∧(s.drop 3).length=4)↔(s.length=7∧s.take 3=Fo.uniK):=by
  rw[List.isPrefixOf_iff_prefix,List.prefix_iff_eq_take,List.length_drop];show (Fo.uniK=s.take 3∧_)↔_;constructor
  ·rintro⟨h1,h2⟩;exact⟨by omega,h1.symm⟩
  ·rintro⟨h1,h2⟩;exact⟨h2.symm,by omega⟩
 refine c_eq (cutPrefix_ret s Fo.uniK w) ?_;simp only[ex];cases hb:Fo.uniK.isPrefixOf s with
|false=>
  rw[if_neg (fun h=>by have:=(hp.2 h).1;rw[hb] at this;cases this)] at hX;simp only[rs,Bool.not_false,g_tf,g_un,i_t];exact hK _ _ ⟨by rw[←hX],(Own.start w).done⟩
|true=>
  rw[hb] at hp;simp only[rs,Bool.not_true,if_true];rw[s_len Tryz.underlying9,show Fo.uniK.length=3 from rfl]
  try simp only[rs]
  by_cases h4:(s.drop 3).length=4
  case neg=>
   rw[if_neg (fun h=>h4 (hp.2 h).2)] at hX;simp only[decide_eq_true (show (((s.drop 3).length:Nat):Int)≠4 by omega),i_t];exact hK _ _ ⟨by rw[←hX],(Own.start w).done⟩
  rw[if_pos (hp.1 ⟨rfl,h4⟩)] at hX;simp only[decide_eq_false (show ¬(((s.drop 3).length:Nat):Int)≠4 by omega),i_f];generalize s.drop 3=d at *;clear hp hb;refine loop (fun vs W=>∃i n:Nat,vs=[.int .i64 (n:Int),.int .i64 (i:Int)]∧i≤4∧n < 16 ^ i∧(match Fo.uniG (n:Int) (d.drop i) with|none=>[]|some n=>Fo.uniR n)=X∧W=w) (fun vs _=>4 - n1 vs) ⟨0,0,rfl,by omega,by decide,hX,rfl⟩ ?_;rintro vs _ ⟨i,n,rfl,hi,hn,hX,rfl⟩ _;simp only[S_font_uni_0,gd,rs];by_cases hlt:(i:Int) < 4
  case neg=>
   simp only[decide_eq_false hlt,i_f];have:i=4:=by omega
   subst this;rw[List.drop_of_length_le (by omega)] at hX;have hX:Fo.uniR (n:Int)=X:=hX;have hn:n < 65536:=hn;by_cases z0:(n:Int)=0
   ·simp only[z0,decide_true,g_tf,g_un,rs,i_t];exact hK _ _ ⟨by rw[←hX,Fo.uniR_no (.inl z0)],(Own.start _).done⟩
   simp only[decide_eq_false z0,rs];by_cases z1:(55296:Int)≤n
   ·simp only[decide_eq_true z1,rs];by_cases z2:(n:Int)≤57343
    ·simp only[decide_eq_true z2,rs,i_t];exact hK _ _ ⟨by rw[←hX,Fo.uniR_no (.inr ⟨z1,z2⟩)],(Own.start _).done⟩
    simp only[decide_eq_false z2,rs,i_f];rw[c_i32,wrap32_id (by omega) (by omega)];refine lb_rune1 (Own.start _) fun w' ho=>?_;exact hK _ _ ⟨by rw[←hX,Fo.uniR_yes (by omega)],ho.done⟩
   simp only[decide_eq_false z1,rs,g_un,i_f];rw[c_i32,wrap32_id (by omega) (by omega)];refine lb_rune1 (Own.start _) fun w' ho=>?_;exact hK _ _ ⟨by rw[←hX,Fo.uniR_yes (by omega)],ho.done⟩
  simp only[decide_eq_true hlt,i_t];have hi':i < d.length:=by omega
  have hn4:n < 65536:=Nat.lt_of_lt_of_le hn (Nat.pow_le_pow_right (by decide) hi);rw[Fo.uniG_step hi',Fo.dig_lx] at hX;rw[s_ix (c:=d[i]) Tryz.underlying9 (by omega) (by rw[Int.toNat_natCast];exact List.getElem?_eq_getElem hi')];refine c_eq (digit_ret d[i] _) ?_
  try simp only[rs]
  have hdb:=Lx.digit_bd d[i];have no:(Lx.digit d[i] < 0∨97≤d[i].toNat)→X=[]:=fun h=>by rw[if_pos h,if_pos (show (-1:Int) < 0 by decide)] at hX;exact hX.symm
  by_cases a1:Lx.digit d[i] < 0
  ·simp only[decide_eq_true a1,rs,g_un,i_t];exact hK _ _ ⟨by rw[no (.inl a1)],(Own.start _).done⟩
  simp only[decide_eq_false a1,rs];rw[s_ix (c:=d[i]) Tryz.underlying9 (by omega) (by rw[Int.toNat_natCast];exact List.getElem?_eq_getElem hi')]
  try simp only[rs]
  by_cases a2:(97:Int)≤(d[i].toNat:Int)
  ·simp only[decide_eq_true a2,rs,i_t];exact hK _ _ ⟨by rw[no (.inr (by omega))],(Own.start _).done⟩
  simp only[decide_eq_false a2,rs,i_f];rw[if_neg (show ¬(Lx.digit d[i] < 0∨97≤d[i].toNat) by omega),if_neg a1] at hX;obtain⟨k,hk⟩:∃k:Nat,Lx.digit d[i]=k:=⟨(Lx.digit d[i]).toNat,by omega⟩;rw[hk] at hX hdb ⊢;rw[b_shl (by decide),show (2:Int) ^ min (4:Int).toNat IntKind.i64.bits=2 ^ 4 from rfl,wrap64_id (n:=(n:Int)*2 ^ 4) (by omega) (by omega),b_or,show (n:Int)*2 ^ 4=((n*2 ^ 4:Nat):Int) by omega,or4 (by omega) (by omega)]
  try simp only[rs]
  rw[wrap64_id (n:=(i:Int)+1) (by omega) (by omega)];refine nextX ⟨i+1,n*2 ^ 4+k,rfl,by omega,?_,?_,rfl⟩ (by simp[n1,RowKit.intOf];omega)
  ·rw[Nat.pow_succ];omega
  ·rw[←hX,show 16*(n:Int)+(k:Int)=((n*2 ^ 4+k:Nat):Int) by omega]
theorem sign47_ret (s:List UInt8)(M:Mem)(w:World)(hs:SpM M)(hM:M.has w):RetM prog 14 #[.string ⟨s.toArray⟩] M w (fun r _=>r=.string ⟨(Fo.sign s).toArray⟩):=by
 refine retM_of hM fun K hK=>S_font_Sign_ok ?_;unfold S_font_Sign;generalize hX:Fo.sign s=X at hK;unfold Fo.sign at hX
 try simp only[rs]
 by_cases h0:s=[]
 ·rw[if_pos h0] at hX;simp only[decide_eq_true h0,i_t];exact hK _ _ M _ 0 (OwnS.memS hM) rfl M.le_refl (by rw[←hX])
 rw[if_neg h0] at hX;simp only[decide_eq_false h0,i_f];refine c_mem (OwnS.memS hM) 0 rfl (usual47_ret M w hs hM) fun v N w1 hle hv ho=>?_;rw[sl_len Tryz.underlying23 (hv.now (ho.hasM 0 rfl))];refine loop (fun vs W=>∃i:Nat,vs=[.int .i64 (i:Int)]∧i≤256∧(∀m (h:m < Fo.usual.length),m < i→decide (Fo.usual[m]=s)=false)∧OwnS M.A w W [.mem N]) (fun vs _=>256 - n0 vs) ⟨0,rfl,by omega,fun m _ h=>by omega,ho⟩ ?_;clear ho;rintro vs w2 ⟨i,rfl,hi,hlo,ho⟩ _;simp only[S_font_Sign_0,gd,rs];by_cases hlt:(i:Int) < ((256:Nat):Int)
 case neg=>
  simp only[decide_eq_false hlt,i_f];have hul:=Fo.usual_len;rw[if_neg (fun h=>by
   have h1:=hlo _ (by rw[hul];exact h) (by omega);have h2:=List.findIdx_getElem (w:=(by rw[hul];exact h:Fo.usual.findIdx (fun x=>decide (x=s)) < Fo.usual.length));rw[h1] at h2;cases h2)] at hX
  refine c_below ho (R:=fun v=>v=.string ⟨(Fo.uni s).toArray⟩) (uni47_ret s w2) ?_;rintro _ w3 rfl ho;exact hK _ _ N _ 0 ho rfl hle (by rw[←hX])
 simp only[decide_eq_true hlt,i_t];have hi':i < Fo.usual.length:=by rw[Fo.usual_len];omega
 obtain⟨g,off,cap,rfl,hc⟩:=sl_open (hv.now (ho.hasM 0 rfl)) (by decide);refine do_eq (run_ia Tryz.underlying23 (show _=some 1 by kernel_rfl) (by omega) (by omega)) |>.mpr ?_;rw[Int.toNat_natCast,Nat.mul_one,l_cell nStr5 (hc i _ (strsV_get hi'))]
 try simp only[rs]
 by_cases he:Fo.usual[i]=s
 ·simp only[decide_eq_true he,i_t];have hix:=findIdx_at (p:=fun x:List UInt8=>decide (x=s)) hi' hlo (by simp[he]);rw[hix,if_pos (by omega)] at hX;rw[lb_c8,lb_l32 (by omega)];refine lb_str1 _ rfl ho fun w6 ho=>?_;exact hK _ _ N _ 0 ho rfl hle (by rw[←hX])
 simp only[decide_eq_false he,i_f]
 try simp only[rs]
 rw[wrap64_id (by omega) (by omega)];refine nextX ⟨i+1,rfl,by omega,fun m hm hmi=>?_,ho⟩ (by simp[n0,RowKit.intOf];omega);rcases Nat.lt_or_ge m i with h|h
 ·exact hlo m hm h
 ·have:m=i:=by omega
  subst this;exact decide_eq_false he
theorem rdig47_ret (c:UInt8)(w:World):Ret prog 29 #[.int .u8 c.toNat] w (fun v w'=>v=.int .i64 (Fo.dig c)∧w=w'):=by
 refine ret_of fun K hK=>S_foliantref47_digit_ok ?_;unfold S_foliantref47_digit;generalize hX:Fo.dig c=X at hK;unfold Fo.dig at hX;have hc:=c.toNat_lt
 try simp only[rs]
 have second:¬(48≤c.toNat∧c.toNat≤57)→DoX prog (mBin .geq 5 (.int .u8 c.toNat) (.int .u8 65)) w (pk K) (fun t13 w=>
   GDo t13 true (fun E=>E (.int .u8 c.toNat) w) w fun t15 w=>GDo t13 true (fun E=>DoX prog (mBin .leq 5 t15 (.int .u8 70)) w (pk K) E) w fun t16 w=>
   DoX prog (mPick t13 t16 (.bool false)) w (pk K) fun t17 w=>IfX t17 (DoX prog (mConv 5 3 (.int .u8 c.toNat)) w (pk K) fun t19 w=>
   DoX prog (mBin .sub 3 t19 (.int .i64 65)) w (pk K) fun t20 w=>DoX prog (mBin .add 3 t20 (.int .i64 10)) w (pk K) fun t21 w=>K (.returned t21) w) (K (.returned (.int .i64 (-1))) w)):=by
  intro hn;rw[if_neg hn] at hX
  try simp only[rs]
  by_cases b1:(65:Int)≤(c.toNat:Int)
  case neg=>
   rw[if_neg (by omega)] at hX;simp only[decide_eq_false b1,rs,g_un,i_f];exact hK _ _ ⟨by rw[←hX],rfl⟩
  simp only[decide_eq_true b1,rs];by_cases b2:(c.toNat:Int)≤70
  case neg=>
   rw[if_neg (by omega)] at hX;simp only[decide_eq_false b2,rs,i_f];exact hK _ _ ⟨by rw[←hX],rfl⟩
  rw[if_pos (by omega)] at hX;simp only[decide_eq_true b2,rs,i_t];rw[c_64 (by omega) (by omega)]
  try simp only[rs]
  rw[wrap64_id (n:=(c.toNat:Int) - 65) (by omega) (by omega),wrap64_id (by omega) (by omega)];exact hK _ _ ⟨by rw[←hX];congr 1;omega,rfl⟩
 by_cases a1:(48:Int)≤(c.toNat:Int)
 case neg=>
  simp only[decide_eq_false a1,rs,g_un,i_f];have:=second (by omega);simp only[rs] at this;exact this
 simp only[decide_eq_true a1,rs];by_cases a2:(c.toNat:Int)≤57
 case neg=>
  simp only[decide_eq_false a2,rs,i_f];have:=second (by omega);simp only[rs] at this;exact this
 rw[if_pos (by omega)] at hX;simp only[decide_eq_true a2,rs,i_t];rw[c_64 (by omega) (by omega)]
 try simp only[rs]
 rw[wrap64_id (by omega) (by omega)];exact hK _ _ ⟨by rw[←hX],rfl⟩
theorem rsign47_ret (s:List UInt8)(M:Mem)(w:World)(hM:M.has w)(hsl:s.length≤1000000000):RetM prog 15 #[.string ⟨s.toArray⟩] M w (fun r _=>r=.string ⟨(Fo.sign s).toArray⟩):=by
 refine retM_of hM fun K hK=>S_foliantref47_Sign_ok ?_;unfold S_foliantref47_Sign;generalize hX:Fo.sign s=X at hK;unfold Fo.sign at hX;refine c_mem (OwnS.memS hM) 0 rfl (rusual47_ret M w hM) fun v N w1 hle hv ho=>?_;refine loop (fun vs W=>∃i:Nat,vs=[.int .i64 (i:Int)]∧i≤256∧(s≠[]→∀m (h:m < Fo.usual.length),m < i→decide (Fo.usual[m]=s)=false)∧OwnS M.A w W [.mem N]) (fun vs _=>256 - n0 vs) ⟨0,rfl,by omega,fun _ m _ h=>by omega,ho⟩ ?_;clear ho;rintro vs w2 ⟨i,rfl,hi,hlo,ho⟩ _;simp only[S_foliantref47_Sign_0,gd,rs];by_cases hlt:(i:Int) < 256
 ·simp only[decide_eq_true hlt,i_t];have hi':i < Fo.usual.length:=by rw[Fo.usual_len];omega
  obtain⟨g,off,cap,rfl,hc⟩:=sl_open (hv.now (ho.hasM 0 rfl)) (by decide);refine do_eq (run_ia Tryz.underlying23 (show _=some 1 by kernel_rfl) (by omega) (by omega)) |>.mpr ?_;rw[Int.toNat_natCast,Nat.mul_one,l_cell nStr5 (hc i _ (strsV_get hi'))]
  try simp only[rs]
  by_cases he:Fo.usual[i]=s
  ·simp only[decide_eq_true he,rs];by_cases h0:s=[]
   ·simp only[decide_eq_false (show ¬s≠[] from fun h=>h h0),rs,i_f];rw[wrap64_id (by omega) (by omega)];exact nextX ⟨i+1,rfl,by omega,fun h=>absurd h0 h,ho⟩ (by simp[n0,RowKit.intOf];omega)
   simp only[decide_eq_true h0,rs,i_t];have hix:=findIdx_at (p:=fun x:List UInt8=>decide (x=s)) hi' (hlo h0) (by simp[he]);rw[if_neg h0,hix,if_pos (by omega)] at hX;rw[lb_c8,lb_l32 (by omega)];refine lb_str1 _ rfl ho fun w6 ho=>?_;exact hK _ _ N _ 0 ho rfl hle (by rw[←hX])
  simp only[decide_eq_false he,rs,g_un,i_f];rw[wrap64_id (by omega) (by omega)];refine nextX ⟨i+1,rfl,by omega,fun h0 m hm hmi=>?_,ho⟩ (by simp[n0,RowKit.intOf];omega);rcases Nat.lt_or_ge m i with h|h
  ·exact hlo h0 m hm h
  ·have:m=i:=by omega
   subst this;exact decide_eq_false he
 simp only[decide_eq_false hlt,i_f];have hul:=Fo.usual_len;have hX:Fo.uni s=X:=by
  by_cases h0:s=[]
  ·rw[if_pos h0] at hX;rw[←hX,h0];decide
  rw[if_neg h0] at hX;rw[if_neg (fun h=>by
   have h1:=hlo h0 _ (by rw[hul];exact h) (by omega);have h2:=List.findIdx_getElem (w:=(by rw[hul];exact h:Fo.usual.findIdx (fun x=>decide (x=s)) < Fo.usual.length));rw[h1] at h2;cases h2)] at hX
  exact hX
 clear hlo;unfold Fo.uni at hX;rw[s_len Tryz.underlying9]
 try simp only[rs]
 by_cases h7:s.length=7
 case neg=>
  rw[if_neg (fun h=>h7 h.1)] at hX;simp only[decide_eq_true (show (s.length:Int)≠7 by omega),rs,g_un,i_t];exact hK _ _ N _ 0 ho rfl hle (by rw[←hX])
 simp only[decide_eq_false (show ¬(s.length:Int)≠7 by omega),rs];rw[s_upto Tryz.underlying9 (by omega) (by omega)];change DoX prog (mEq .neq 9 _ _ (.string ⟨(s.take 3).toArray⟩) (.string ⟨Fo.uniK.toArray⟩)) _ _ _;rw[n_str]
 try simp only[rs]
 by_cases h3:s.take 3=Fo.uniK
 case neg=>
  rw[if_neg (fun h=>h3 h.2)] at hX;simp only[decide_eq_true (show s.take 3≠Fo.uniK from h3),rs,i_t];exact hK _ _ N _ 0 ho rfl hle (by rw[←hX])
 rw[if_pos ⟨h7,h3⟩] at hX;simp only[decide_eq_false (show ¬s.take 3≠Fo.uniK from fun h=>h h3),rs,i_f];refine loop (fun vs W=>∃i n:Nat,vs=[.int .i64 (n:Int),.int .i64 ((3+i:Nat):Int)]∧i≤4∧n < 16 ^ i∧(match Fo.uniG (n:Int) (s.drop (3+i)) with|none=>[]|some n=>Fo.uniR n)=X∧OwnS M.A w W [.mem N]) (fun vs _=>7 - n1 vs) ⟨0,0,rfl,by omega,by decide,hX,ho⟩ ?_;clear ho hX;rintro vs w3 ⟨i,n,rfl,hi,hn,hX,ho⟩ _;simp only[S_foliantref47_Sign_1,gd,rs];by_cases hlt2:((3+i:Nat):Int) < 7
 case neg=>
  simp only[decide_eq_false hlt2,i_f];have:i=4:=by omega
  subst this;rw[List.drop_of_length_le (by omega)] at hX;have hX:Fo.uniR (n:Int)=X:=hX;have hn:n < 65536:=hn;by_cases z0:(n:Int)=0
  ·simp only[z0,decide_true,g_tf,g_un,rs,i_t];exact hK _ _ N _ 0 ho rfl hle (by rw[←hX,Fo.uniR_no (.inl z0)])
  simp only[decide_eq_false z0,rs];by_cases z1:(55296:Int)≤n
  ·simp only[decide_eq_true z1,rs];by_cases z2:(n:Int)≤57343
   ·simp only[decide_eq_true z2,rs,i_t];exact hK _ _ N _ 0 ho rfl hle (by rw[←hX,Fo.uniR_no (.inr ⟨z1,z2⟩)])
   simp only[decide_eq_false z2,rs,i_f];rw[c_i32,wrap32_id (by omega) (by omega),c_rstr];exact hK _ _ N _ 0 ho rfl hle (by rw[←hX,Fo.uniR_yes (by omega)])
  simp only[decide_eq_false z1,rs,g_un,i_f];rw[c_i32,wrap32_id (by omega) (by omega),c_rstr];exact hK _ _ N _ 0 ho rfl hle (by rw[←hX,Fo.uniR_yes (by omega)])
 simp only[decide_eq_true hlt2,i_t];have hi':3+i < s.length:=by omega
 have hn4:n < 65536:=Nat.lt_of_lt_of_le hn (Nat.pow_le_pow_right (by decide) hi);rw[Fo.uniG_step hi'] at hX;rw[s_ix (c:=s[3+i]) Tryz.underlying9 (by omega) (by rw[Int.toNat_natCast];exact List.getElem?_eq_getElem hi')];refine c_eq (rdig47_ret s[3+i] _) ?_
 try simp only[rs]
 have hdb:=Fo.dig_bd s[3+i];by_cases a1:Fo.dig s[3+i] < 0
 ·rw[if_pos a1] at hX;simp only[decide_eq_true a1,i_t];exact hK _ _ N _ 0 ho rfl hle (by rw[←hX])
 rw[if_neg a1] at hX;simp only[decide_eq_false a1,i_f];obtain⟨k,hk⟩:∃k:Nat,Fo.dig s[3+i]=k:=⟨(Fo.dig s[3+i]).toNat,by omega⟩;rw[hk] at hX hdb ⊢;rw[wrap64_id (n:=16*(n:Int)) (by omega) (by omega),wrap64_id (n:=16*(n:Int)+(k:Int)) (by omega) (by omega),wrap64_id (n:=((3+i:Nat):Int)+1) (by omega) (by omega)];refine nextX ⟨i+1,16*n+k,?_,by omega,?_,?_,ho⟩ (by simp[n1,RowKit.intOf];omega)
 ·have e1:(16*(n:Int)+(k:Int))=((16*n+k:Nat):Int):=by omega
  have e2:((3+i:Nat):Int)+1=((3+(i+1):Nat):Int):=by omega
  rw[e1,e2]
 ·rw[Nat.pow_succ];omega
 ·rw[←hX,show 16*(n:Int)+(k:Int)=((16*n+k:Nat):Int) by omega];rfl
end
section
open Eng
def S_foliantref46_one (t0 t1:Value)(w:World)(K:Ending→World→Prop):Prop:=
 QuietX w (fun C1=>
 QDo prog C1 (mIx 9 t0 t1) fun t7=>
 QDo prog C1 (mConv 5 3 t7) fun t8=>
 QDo prog C1 (mBin .mul 3 (.int .i64 256) t8) fun t9=>
 QDo prog C1 (mBin .add 3 t1 (.int .i64 1)) fun t12=>
 QDo prog C1 (mIx 9 t0 t12) fun t13=>
 QDo prog C1 (mConv 5 3 t13) fun t14=>
 QDo prog C1 (mBin .add 3 t9 t14) fun t15=>
 ∀w,C1 w →
 K (.returned t15) w)
theorem S_foliantref46_one_eq (t0 t1:Value)(w:World)(K:Ending→World→Prop):wpX prog 16 [] [] none (bodyOf Tryz.f127) (topQ prog [.tmp 4] K) (startX [t0,t1]) [] w=S_foliantref46_one t0 t1 w K:=by kernel_rfl
theorem S_foliantref46_one_ok {t0 t1:Value}{w:World}{K:Ending→World→Prop}(h:S_foliantref46_one t0 t1 w K):Calls prog 127 #[t0,t1] w K:=
 calls_of_wpX Tryz.func127 rfl rfl rfl rfl (Eq.mpr (S_foliantref46_one_eq t0 t1 w K) h)
def S_foliantref46_Utf_1 (t4 t5 t6:Value)(w:World)(N1:List Value→World→Prop)(K:Ending→World→Prop):Prop:=
 DoX prog (mConv 3 21 t6) w (pk K) fun t64 w=>
 DoX prog (mBuildS 99 1 #[(0,t64)]) w (pk K) fun t65 w=>
 DoX prog (mB .append #[99,99] 99 #[false,false] #[t4,t65]) w (pk K) fun t66 w=>
 DoX prog (mBin .add 3 t5 (.int .i64 2)) w (pk K) fun t16 w=>
 N1 [t66,t16] w
def S_foliantref46_Utf_0 (t0 t4 t5:Value)(w:World)(N1:List Value→World→Prop)(K:Ending→World→Prop):Prop:=
 DoX prog (mB .len #[9] 3 #[false] #[t0]) w (pk K) fun t13 w=>
 DoX prog (mBin .lss 3 t5 t13) w (pk K) fun t14 w=>
 IfX t14 (CallX prog 127 #[t0,t5] w (pk K) fun t19 w=>
 DoX prog (mBin .geq 3 t19 (.int .i64 56320)) w (pk K) fun t21 w=>
 GDo t21 true (fun E=>E t19 w) w fun t23 w=>
 GDo t21 true (fun E=>DoX prog (mBin .leq 3 t23 (.int .i64 57343)) w (pk K) E) w fun t24 w=>
 DoX prog (mPick t21 t24 (.bool false)) w (pk K) fun t25 w=>
 IfX t25 (K (.returned (.tuple #[(.string ⟨#[]⟩),(.int .i64 3)])) w) (JoinX (fun J2=>
 DoX prog (mBin .geq 3 t19 (.int .i64 55296)) w (pk K) fun t27 w=>
 GDo t27 true (fun E=>E t19 w) w fun t29 w=>
 GDo t27 true (fun E=>DoX prog (mBin .leq 3 t29 (.int .i64 56319)) w (pk K) E) w fun t30 w=>
 DoX prog (mPick t27 t30 (.bool false)) w (pk K) fun t31 w=>
 IfX t31 (DoX prog (mBin .add 3 t5 (.int .i64 2)) w (pk K) fun t33 w=>
 DoX prog (mB .len #[9] 3 #[false] #[t0]) w (pk K) fun t35 w=>
 DoX prog (mBin .geq 3 t33 t35) w (pk K) fun t36 w=>
 GDo t36 false (fun E=>E t0 w) w fun t38 w=>
 GDo t36 false (fun E=>E t5 w) w fun t39 w=>
 GDo t36 false (fun E=>DoX prog (mBin .add 3 t39 (.int .i64 2)) w (pk K) E) w fun t40 w=>
 GDo t36 false (fun E=>CallX prog 127 #[t38,t40] w (pk K) E) w fun t41 w=>
 GDo t36 false (fun E=>DoX prog (mBin .lss 3 t41 (.int .i64 56320)) w (pk K) E) w fun t42 w=>
 DoX prog (mPick t36 (.bool true) t42) w (pk K) fun t43 w=>
 GDo t43 false (fun E=>E t0 w) w fun t45 w=>
 GDo t43 false (fun E=>E t5 w) w fun t46 w=>
 GDo t43 false (fun E=>DoX prog (mBin .add 3 t46 (.int .i64 2)) w (pk K) E) w fun t47 w=>
 GDo t43 false (fun E=>CallX prog 127 #[t45,t47] w (pk K) E) w fun t48 w=>
 GDo t43 false (fun E=>DoX prog (mBin .gtr 3 t48 (.int .i64 57343)) w (pk K) E) w fun t49 w=>
 DoX prog (mPick t43 (.bool true) t49) w (pk K) fun t50 w=>
 IfX t50 (K (.returned (.tuple #[(.string ⟨#[]⟩),(.int .i64 3)])) w) (DoX prog (mBin .add 3 t5 (.int .i64 2)) w (pk K) fun t52 w=>
 DoX prog (mBin .sub 3 t19 (.int .i64 55296)) w (pk K) fun t54 w=>
 DoX prog (mBin .mul 3 (.int .i64 1024) t54) w (pk K) fun t55 w=>
 DoX prog (mBin .add 3 (.int .i64 65536) t55) w (pk K) fun t56 w=>
 CallX prog 127 #[t0,t52] w (pk K) fun t59 w=>
 DoX prog (mBin .add 3 t56 t59) w (pk K) fun t60 w=>
 DoX prog (mBin .sub 3 t60 (.int .i64 56320)) w (pk K) fun t61 w=>
 J2 [t52,t61] w)) (J2 [t5,t19] w)) (fun vs2 w=>∀_:Sg,S_foliantref46_Utf_1 t4 (vs2.getD 0 undef) (vs2.getD 1 undef) w N1 K))) (DoX prog (mConv 99 9 t4) w (pk K) fun t68 w=>
 K (.returned (.tuple #[t68,(.int .i64 0)])) w)
def S_foliantref46_Utf (t0:Value)(w:World)(K:Ending→World→Prop):Prop:=
 DoX prog (mB .len #[9] 3 #[false] #[t0]) w (pk K) fun t8 w=>
 DoX prog (mBin .rem 3 t8 (.int .i64 2)) w (pk K) fun t9 w=>
 DoX prog (mEq .eql 3 (.tmp 9) (.const (.int .i64 1)) t9 (.int .i64 1)) w (pk K) fun t10 w=>
 IfX t10 (K (.returned (.tuple #[(.string ⟨#[]⟩),(.int .i64 3)])) w) (LoopX [(.slice none 0 0),(.int .i64 0)] w (fun vs1 w N1=>∀_:Sg,S_foliantref46_Utf_0 t0 (vs1.getD 0 undef) (vs1.getD 1 undef) w N1 K))
theorem S_foliantref46_Utf_eq (t0:Value)(w:World)(K:Ending→World→Prop):wpX prog 69 [(15,[5,6])] [(5,[4,5])] none (bodyOf Tryz.f93) (topQ prog [.tmp 2,.tmp 3] K) (startX [t0]) [] w=S_foliantref46_Utf t0 w K:=by kernel_rfl
theorem S_foliantref46_Utf_ok {t0:Value}{w:World}{K:Ending→World→Prop}(h:S_foliantref46_Utf t0 w K):Calls prog 93 #[t0] w K:=
 calls_of_wpX Tryz.func93 rfl rfl rfl rfl (Eq.mpr (S_foliantref46_Utf_eq t0 w K) h)
def S_foliantref46_Units_1 (t3 t6:Value)(w:World)(N1:List Value→World→Prop)(K:Ending→World→Prop):Prop:=
 DoX prog (mBin .quo 3 t6 (.int .i64 256)) w (pk K) fun t36 w=>
 DoX prog (mConv 3 5 t36) w (pk K) fun t37 w=>
 DoX prog (mBin .rem 3 t6 (.int .i64 256)) w (pk K) fun t39 w=>
 DoX prog (mConv 3 5 t39) w (pk K) fun t40 w=>
 DoX prog (mBuildS 41 2 #[(0,t37),(1,t40)]) w (pk K) fun t41 w=>
 DoX prog (mB .append #[41,41] 41 #[false,false] #[t3,t41]) w (pk K) fun t42 w=>
 N1 [t42] w
def S_foliantref46_Units_0 (t3 t9:Value)(w:World)(N1:List Value→World→Prop)(K:Ending→World→Prop):Prop:=
 DoX prog (mNext t9 true 0) w (pk K) fun t10 w=>
 DoX prog (mExt t10 0) w (pk K) fun t11 w=>
 IfX t11 (DoX prog (mExt t10 2) w (pk K) fun t12 w=>
 DoX prog (mConv 21 3 t12) w (pk K) fun t14 w=>
 JoinX (fun J2=>
 DoX prog (mBin .gtr 3 t14 (.int .i64 65535)) w (pk K) fun t16 w=>
 IfX t16 (DoX prog (mBin .sub 3 t14 (.int .i64 65536)) w (pk K) fun t18 w=>
 DoX prog (mBin .quo 3 t18 (.int .i64 1024)) w (pk K) fun t20 w=>
 DoX prog (mBin .add 3 (.int .i64 55296) t20) w (pk K) fun t21 w=>
 DoX prog (mBin .quo 3 t21 (.int .i64 256)) w (pk K) fun t24 w=>
 DoX prog (mConv 3 5 t24) w (pk K) fun t25 w=>
 DoX prog (mBin .rem 3 t21 (.int .i64 256)) w (pk K) fun t27 w=>
 DoX prog (mConv 3 5 t27) w (pk K) fun t28 w=>
 DoX prog (mBuildS 41 2 #[(0,t25),(1,t28)]) w (pk K) fun t29 w=>
 DoX prog (mB .append #[41,41] 41 #[false,false] #[t3,t29]) w (pk K) fun t30 w=>
 DoX prog (mBin .rem 3 t18 (.int .i64 1024)) w (pk K) fun t32 w=>
 DoX prog (mBin .add 3 (.int .i64 56320) t32) w (pk K) fun t33 w=>
 J2 [t30,t33] w) (J2 [t3,t14] w)) (fun vs2 w=>∀_:Sg,S_foliantref46_Units_1 (vs2.getD 0 undef) (vs2.getD 1 undef) w N1 K)) (DoX prog (mConv 41 9 t3) w (pk K) fun t44 w=>
 K (.returned t44) w)
def S_foliantref46_Units (t0:Value)(w:World)(K:Ending→World→Prop):Prop:=
 DoX prog (mRange 9 t0) w (pk K) fun t9 w=>
 LoopX [(.slice none 0 0)] w (fun vs1 w N1=>∀_:Sg,S_foliantref46_Units_0 (vs1.getD 0 undef) t9 w N1 K)
theorem S_foliantref46_Units_eq (t0:Value)(w:World)(K:Ending→World→Prop):wpX prog 45 [(11,[3,6])] [(3,[3])] none (bodyOf Tryz.f62) (topQ prog [.tmp 2] K) (startX [t0]) [] w=S_foliantref46_Units t0 w K:=by kernel_rfl
theorem S_foliantref46_Units_ok {t0:Value}{w:World}{K:Ending→World→Prop}(h:S_foliantref46_Units t0 w K):Calls prog 62 #[t0] w K:=
 calls_of_wpX Tryz.func62 rfl rfl rfl rfl (Eq.mpr (S_foliantref46_Units_eq t0 w K) h)
def S_foliantref46_utf8 (t0:Value)(w:World)(K:Ending→World→Prop):Prop:=
 CallX prog 62 #[t0] w (pk K) fun t7 w=>
 CallX prog 93 #[t7] w (pk K) fun t8 w=>
 DoX prog (mExt t8 0) w (pk K) fun t9 w=>
 DoX prog (mExt t8 1) w (pk K) fun t10 w=>
 DoX prog (mEq .eql 30 (.tmp 11) (.const (.int .i64 0)) t10 (.int .i64 0)) w (pk K) fun t12 w=>
 GDo t12 true (fun E=>E t9 w) w fun t14 w=>
 GDo t12 true (fun E=>E t0 w) w fun t15 w=>
 GDo t12 true (fun E=>DoX prog (mEq .eql 9 (.tmp 14) (.tmp 15) t14 t15) w (pk K) E) w fun t16 w=>
 DoX prog (mPick t12 t16 (.bool false)) w (pk K) fun t17 w=>
 K (.returned t17) w
theorem S_foliantref46_utf8_eq (t0:Value)(w:World)(K:Ending→World→Prop):wpX prog 18 [] [] none (bodyOf Tryz.f61) (topQ prog [.tmp 2] K) (startX [t0]) [] w=S_foliantref46_utf8 t0 w K:=by kernel_rfl
theorem S_foliantref46_utf8_ok {t0:Value}{w:World}{K:Ending→World→Prop}(h:S_foliantref46_utf8 t0 w K):Calls prog 61 #[t0] w K:=
 calls_of_wpX Tryz.func61 rfl rfl rfl rfl (Eq.mpr (S_foliantref46_utf8_eq t0 w K) h)
def S_foliantref46_Check_1 (t0 t5 t6:Value)(w:World)(N2:List Value→World→Prop)(K:Ending→World→Prop):Prop:=
 DoX prog (mB .len #[24] 3 #[false] #[t0]) w (pk K) fun t13 w=>
 DoX prog (mBin .lss 3 t6 t13) w (pk K) fun t14 w=>
 IfX t14 (DoX prog (mIA 24 t0 t6) w (pk K) fun t19 w=>
 DoX prog (mFA 44 t19 0) w (pk K) fun t20 w=>
 DoX prog (mLoad 3 t20) w (pk K) fun t21 w=>
 DoX prog (mBin .lss 3 t21 (.int .i64 0)) w (pk K) fun t22 w=>
 GDo t22 false (fun E=>E t0 w) w fun t24 w=>
 GDo t22 false (fun E=>E t6 w) w fun t25 w=>
 GDo t22 false (fun E=>DoX prog (mIA 24 t24 t25) w (pk K) E) w fun t26 w=>
 GDo t22 false (fun E=>DoX prog (mFA 44 t26 0) w (pk K) E) w fun t27 w=>
 GDo t22 false (fun E=>DoX prog (mLoad 3 t27) w (pk K) E) w fun t28 w=>
 GDo t22 false (fun E=>E t5 w) w fun t29 w=>
 GDo t22 false (fun E=>DoX prog (mBin .gtr 3 t28 t29) w (pk K) E) w fun t30 w=>
 DoX prog (mPick t22 (.bool true) t30) w (pk K) fun t31 w=>
 IfX t31 (K (.returned (.int .i64 2)) w) (DoX prog (mIA 24 t0 t6) w (pk K) fun t34 w=>
 DoX prog (mFA 44 t34 1) w (pk K) fun t35 w=>
 DoX prog (mLoad 9 t35) w (pk K) fun t36 w=>
 CallX prog 61 #[t36] w (pk K) fun t37 w=>
 DoX prog (mUn .not t37) w (pk K) fun t38 w=>
 IfX t38 (K (.returned (.int .i64 3)) w) (DoX prog (mIA 24 t0 t6) w (pk K) fun t41 w=>
 DoX prog (mFA 44 t41 1) w (pk K) fun t42 w=>
 DoX prog (mLoad 9 t42) w (pk K) fun t43 w=>
 CallX prog 62 #[t43] w (pk K) fun t44 w=>
 DoX prog (mB .len #[9] 3 #[false] #[t44]) w (pk K) fun t45 w=>
 DoX prog (mBin .gtr 3 t45 (.int .i64 512)) w (pk K) fun t46 w=>
 IfX t46 (K (.returned (.int .i64 5)) w) (QuietX w (fun C3=>
 QDo prog C3 (mBin .gtr 3 t6 (.int .i64 0)) fun t48=>
 GQ t48 true (fun E=>E t0) fun t50=>
 GQ t48 true (fun E=>E t6) fun t51=>
 GQ t48 true (fun E=>QDo prog C3 (mIA 24 t50 t51) E) fun t52=>
 GQ t48 true (fun E=>QDo prog C3 (mFA 44 t52 0) E) fun t53=>
 GQ t48 true (fun E=>QDo prog C3 (mLoad 3 t53) E) fun t54=>
 GQ t48 true (fun E=>E t0) fun t55=>
 GQ t48 true (fun E=>E t6) fun t56=>
 GQ t48 true (fun E=>QDo prog C3 (mBin .sub 3 t56 (.int .i64 1)) E) fun t57=>
 GQ t48 true (fun E=>QDo prog C3 (mIA 24 t55 t57) E) fun t58=>
 GQ t48 true (fun E=>QDo prog C3 (mFA 44 t58 0) E) fun t59=>
 GQ t48 true (fun E=>QDo prog C3 (mLoad 3 t59) E) fun t60=>
 GQ t48 true (fun E=>QDo prog C3 (mEq .eql 3 (.tmp 54) (.tmp 60) t54 t60) E) fun t61=>
 QDo prog C3 (mPick t48 t61 (.bool false)) fun t62=>
 ∀w,C3 w →
 IfX t62 (K (.returned (.int .i64 9)) w) (QuietX w (fun C4=>
 QDo prog C4 (mBin .gtr 3 t6 (.int .i64 0)) fun t64=>
 GQ t64 true (fun E=>E t0) fun t66=>
 GQ t64 true (fun E=>E t6) fun t67=>
 GQ t64 true (fun E=>QDo prog C4 (mIA 24 t66 t67) E) fun t68=>
 GQ t64 true (fun E=>QDo prog C4 (mFA 44 t68 0) E) fun t69=>
 GQ t64 true (fun E=>QDo prog C4 (mLoad 3 t69) E) fun t70=>
 GQ t64 true (fun E=>E t0) fun t71=>
 GQ t64 true (fun E=>E t6) fun t72=>
 GQ t64 true (fun E=>QDo prog C4 (mBin .sub 3 t72 (.int .i64 1)) E) fun t73=>
 GQ t64 true (fun E=>QDo prog C4 (mIA 24 t71 t73) E) fun t74=>
 GQ t64 true (fun E=>QDo prog C4 (mFA 44 t74 0) E) fun t75=>
 GQ t64 true (fun E=>QDo prog C4 (mLoad 3 t75) E) fun t76=>
 GQ t64 true (fun E=>QDo prog C4 (mBin .lss 3 t70 t76) E) fun t77=>
 QDo prog C4 (mPick t64 t77 (.bool false)) fun t78=>
 ∀w,C4 w →
 IfX t78 (K (.returned (.int .i64 1)) w) (DoX prog (mBin .add 3 t6 (.int .i64 1)) w (pk K) fun t16 w=>
 N2 [t16] w)))))))) (K (.returned (.int .i64 0)) w)
def S_foliantref46_Check_0 (t0 t5:Value)(w:World)(K:Ending→World→Prop):Prop:=
 DoX prog (mB .len #[24] 3 #[false] #[t0]) w (pk K) fun t9 w=>
 DoX prog (mBin .gtr 3 t9 (.int .i64 4096)) w (pk K) fun t10 w=>
 IfX t10 (K (.returned (.int .i64 6)) w) (LoopX [(.int .i64 0)] w (fun vs2 w N2=>∀_:Sg,S_foliantref46_Check_1 t0 t5 (vs2.getD 0 undef) w N2 K))
def S_foliantref46_Check (t0 t1:Value)(w:World)(K:Ending→World→Prop):Prop:=
 JoinX (fun J1=>
 IfX t1 (J1 [(.int .i64 65535)] w) (J1 [(.int .i64 255)] w)) (fun vs1 w=>∀_:Sg,S_foliantref46_Check_0 t0 (vs1.getD 0 undef) w K)
theorem S_foliantref46_Check_eq (t0 t1:Value)(w:World)(K:Ending→World→Prop):wpX prog 79 [(4,[5])] [(7,[6])] none (bodyOf Tryz.f34) (topQ prog [.tmp 4] K) (startX [t0,t1]) [] w=S_foliantref46_Check t0 t1 w K:=by kernel_rfl
theorem S_foliantref46_Check_ok {t0 t1:Value}{w:World}{K:Ending→World→Prop}(h:S_foliantref46_Check t0 t1 w K):Calls prog 34 #[t0,t1] w K:=
 calls_of_wpX Tryz.func34 rfl rfl rfl rfl (Eq.mpr (S_foliantref46_Check_eq t0 t1 w K) h)
def S_foliantref46_Find_0 (t0 t1 t6:Value)(w:World)(N1:List Value→World→Prop)(K:Ending→World→Prop):Prop:=
 DoX prog (mB .len #[24] 3 #[false] #[t0]) w (pk K) fun t9 w=>
 DoX prog (mBin .lss 3 t6 t9) w (pk K) fun t10 w=>
 IfX t10 (DoX prog (mIA 24 t0 t6) w (pk K) fun t15 w=>
 DoX prog (mFA 44 t15 0) w (pk K) fun t16 w=>
 DoX prog (mLoad 3 t16) w (pk K) fun t17 w=>
 DoX prog (mEq .eql 3 (.tmp 17) (.tmp 18) t17 t1) w (pk K) fun t19 w=>
 IfX t19 (DoX prog (mIA 24 t0 t6) w (pk K) fun t22 w=>
 DoX prog (mFA 44 t22 1) w (pk K) fun t23 w=>
 DoX prog (mLoad 9 t23) w (pk K) fun t24 w=>
 K (.returned (.tuple #[t24,(.bool true)])) w) (DoX prog (mBin .add 3 t6 (.int .i64 1)) w (pk K) fun t12 w=>
 N1 [t12] w)) (K (.returned (.tuple #[(.string ⟨#[]⟩),(.bool false)])) w)
def S_foliantref46_Find (t0 t1:Value)(w:World)(K:Ending→World→Prop):Prop:=
 LoopX [(.int .i64 0)] w (fun vs1 w N1=>∀_:Sg,S_foliantref46_Find_0 t0 t1 (vs1.getD 0 undef) w N1 K)
theorem S_foliantref46_Find_eq (t0 t1:Value)(w:World)(K:Ending→World→Prop):wpX prog 25 [] [(2,[6])] none (bodyOf Tryz.f27) (topQ prog [.tmp 4,.tmp 5] K) (startX [t0,t1]) [] w=S_foliantref46_Find t0 t1 w K:=by kernel_rfl
theorem S_foliantref46_Find_ok {t0 t1:Value}{w:World}{K:Ending→World→Prop}(h:S_foliantref46_Find t0 t1 w K):Calls prog 27 #[t0,t1] w K:=
 calls_of_wpX Tryz.func27 rfl rfl rfl rfl (Eq.mpr (S_foliantref46_Find_eq t0 t1 w K) h)
end
section
open Eng Go.RowKit
theorem run_next_r {P:Program}{w:World}{s:ByteArray}{pos b:Nat}{ty:TypeId}(hb:w.heap[b]?=some (.stringIter s pos))(h:pos < s.size) :
  (Instr.next (.pointer (some ⟨b,0,none⟩)) true ty).run P w=.ok (.tuple #[.bool true,.int .i64 pos,.int .i32 (Utf8.decode s pos).1]) { w with heap:=w.heap.setIfInBounds b (.stringIter s (pos+(Utf8.decode s pos).2)) }:=by
 simp only[Instr.next,getObj,setObj,Sem.run_bind,Sem.run,hb,Result.andThen,h,if_true];simp[goInt,Sem.run,hb]
section
variable {P:Program}{w:World}{PK:PKT}{K:VWP}{S:Nat→Prop}{w0:World}{L:List Ent}
theorem o_nextR (i:Nat){ty:TypeId}{b pos:Nat}{l:List UInt8}(ho:OwnS S w0 w L)(hi:L[i]?=some (.obj b (.stringIter ⟨l.toArray⟩ pos)))(hc:pos < l.length)
  (k:∀w',OwnS S w0 w' (L.set i (.obj b (.stringIter ⟨l.toArray⟩ (pos+(Lib.decodeL (l.drop pos)).2))))→K (.tuple #[.bool true,.int .i64 pos,.int .i32 ((Lib.decodeL (l.drop pos)).1:Nat)]) w'):DoX P (mNext (.pointer (some ⟨b,0,none⟩)) true ty) w PK K:=by
 have h1:pos < (⟨l.toArray⟩:ByteArray).size:=by rw[str_size];exact hc
 have hr:=run_next_r (P:=P) (ty:=ty) (ho.at_ i hi) h1;have hd:Utf8.decode (⟨l.toArray⟩:ByteArray) pos=Lib.decodeL (l.drop pos):=by
  have:=Lib.decodeL_drop (⟨l.toArray⟩:ByteArray) pos;rw[str_data] at this;exact this.symm
 rw[hd] at hr;exact do_ok (mv_run hr) (k _ (put_iter ho i hi))
end
namespace Cm
theorem unit_hi {c:Nat}(h:65536≤c):unit c=be (55296+(c - 65536) / 1024)++be (56320+(c - 65536) % 1024):=by unfold unit;rw[if_pos h]
theorem unit_lo {c:Nat}(h:¬65536≤c):unit c=be c:=by unfold unit;rw[if_neg h]
theorem drop_units {l:List UInt8}{p:Nat}(h:p < l.length):units (l.drop p)=unit (Lib.decodeL (l.drop p)).1++units (l.drop (p+(Lib.decodeL (l.drop p)).2)):=by
 have hne:l.drop p≠[]:=fun h0=>by have:=congrArg List.length h0;rw[List.length_drop] at this;simp at this;omega
 rw[units_step hne,List.drop_drop]
end Cm
theorem u8of {n:Nat}:IntKind.wrap .u8 (n:Int)=((UInt8.ofNat n).toNat:Int):=by
 rw[UInt8.toNat_ofNat'];show (IntKind.wrap .u8 (n:Int))=_;unfold IntKind.wrap;simp[IntKind.bits,IntKind.signed]
theorem u8of256 {n:Nat}:IntKind.wrap .u8 (n:Int)=((UInt8.ofNat (n % 256)).toNat:Int):=by
 rw[u8of,UInt8.toNat_ofNat',UInt8.toNat_ofNat'];omega
section
variable {w:World}{PK:PKT}{K:VWP}{S:Nat→Prop}{w0:World}{L:List Ent}
theorem m_be {n:Nat}{a b:Int}(ha:a=((UInt8.ofNat (n / 256)).toNat:Int))(hb:b=((UInt8.ofNat (n % 256)).toNat:Int))(w:World):(mBuildS 41 2 #[(0,.int .u8 a),(1,.int .u8 b)]).run prog w=.ok (.value (.slice (some ⟨w.heap.size,0,none⟩) (Cm.be n).length (Cm.be n).length)) (w.alloc (.cells (bytesV (Cm.be n)).toArray 5)):=by
 subst ha hb;kernel_rfl
end
theorem e_shr8 {n:Nat}:((n:Int)).fdiv (2 ^ (min (8:Int).toNat IntKind.i32.bits))=((n / 256:Nat):Int):=by
 have:(min (8:Int).toNat IntKind.i32.bits)=8:=rfl;rw[this,Int.fdiv_eq_ediv_of_nonneg _ (by decide)];omega
theorem e_shr10 {n:Nat}:((n:Int)).fdiv (2 ^ (min (10:Int).toNat IntKind.i32.bits))=((n / 1024:Nat):Int):=by
 have:(min (10:Int).toNat IntKind.i32.bits)=10:=rfl;rw[this,Int.fdiv_eq_ediv_of_nonneg _ (by decide)];omega
theorem and1023 {n:Nat}(h:n < 2000000000):bAnd .i32 (n:Int) 1023=((n % 1024:Nat):Int):=by
 unfold bAnd;rw[BitVec.toNat_and];have e:(BitVec.ofInt IntKind.i32.bits (1023:Int)).toNat=2 ^ 10 - 1:=by decide
 rw[e,Nat.and_two_pow_sub_one_eq_mod];have e2:(BitVec.ofInt IntKind.i32.bits (n:Int)).toNat=n:=by
  rw[BitVec.ofInt_natCast,BitVec.toNat_ofNat];exact Nat.mod_eq_of_lt (by show n < 4294967296;omega)
 rw[e2];exact wrap32_id (by omega) (by omega)
theorem units46_ret (s:List UInt8)(w:World)(hs:s.length≤1000000000):Ret prog 60 #[.string ⟨s.toArray⟩] w (fun v w'=>v=.string ⟨(Cm.units s).toArray⟩∧Below w.heap.size w w'):=by
 refine ret_of fun K hK=>S_cmap_Units_ok ?_;unfold S_cmap_Units;refine o_range Tryz.underlying9 (Own.start w) fun b w1 ho=>?_;refine loop (fun vs W=>∃(p:Nat) (u:Value) (acc:List UInt8),vs=[u]∧p≤s.length∧acc++Cm.units (s.drop p)=Cm.units s∧acc.length≤4*p∧Own w W [BRow u acc,.obj b (.stringIter ⟨s.toArray⟩ p)]) (fun _ W=>s.length - W.iterPos b) ⟨0,_,[],rfl,by omega,by simp,by simp,ho.nilRow _ 1⟩ ?_;clear ho;rintro vs w2 ⟨p,u,acc,rfl,hp,hacc,hal,ho⟩ _;simp only[S_cmap_Units_0,gd];have hit:w2.iterPos b=p:=by
  have h:w2.heap[b]?=some (.stringIter ⟨s.toArray⟩ p):=ho.at_ 1 rfl;unfold World.iterPos;rw[h]
 by_cases hlt:p < s.length
 case neg=>
  rw[o_next_end 1 ho rfl (by omega)];simp only[ex,i_f];rw[o_strB 0 ho rfl];have:p=s.length:=by omega
  subst this;rw[List.drop_length,show Cm.units []=[] from rfl,List.append_nil] at hacc;exact hK _ _ ⟨by rw[hacc],ho.done⟩
 refine o_nextR 1 ho rfl hlt fun w3 ho=>?_;have hne:s.drop p≠[]:=fun h0=>by have:=congrArg List.length h0;rw[List.length_drop] at this;simp at this;omega
 have hw1:=Lib.decodeL_width (s.drop p);have hw2:=Lib.decodeL_le _ hne;rw[List.length_drop] at hw2;have hok:=Cm.decodeL_ok (s.drop p);have hun:=Cm.drop_units hlt;rw[hun,←List.append_assoc] at hacc;generalize hcc:(Lib.decodeL (s.drop p)).1=c at *;generalize hww:(Lib.decodeL (s.drop p)).2=d at *;simp only[ex,i_t];refine join fun J hJ=>?_;have fin:∀(v:Value) (acc':List UInt8) (W:World) (m:Nat),acc'++Cm.be m=acc++Cm.unit c→m < 65536→acc'.length+2≤4*p+4→Own w W [BRow v acc',.obj b (.stringIter ⟨s.toArray⟩ (p+d))]→J [v,.int .i32 (m:Int)] W:=by
  intro v acc' W m he hm hl ho;refine hJ _ _ fun _=>?_;simp only[S_cmap_Units_1,gd];rw[b_shr (by decide),e_shr8]
  try simp only[rs]
  rw[c_328,c_328,u8of,u8of256];refine o_appB (m:=Cm.be m) (fun w=>m_be rfl rfl w) ho (by show _+2≤_;omega) fun v' W2 ho=>?_;rw[he] at ho;have hpos:W2.iterPos b=p+d:=by
   have h:W2.heap[b]?=some (.stringIter ⟨s.toArray⟩ (p+d)):=ho.at_ 1 rfl;unfold World.iterPos;rw[h]
  refine nextX ⟨p+d,v',_,rfl,by omega,hacc,?_,ho⟩ (by rw[hpos,hit];omega);have:=congrArg List.length he;rw[List.length_append,Cm.be_len] at this;omega
 try simp only[rs]
 by_cases hc:(65536:Int)≤(c:Int)
 case neg=>
  simp only[decide_eq_false hc,i_f];exact fin u acc w3 c (by rw[Cm.unit_lo (by omega)]) (by omega) (by omega) ho
 simp only[decide_eq_true hc,i_t];have e1:IntKind.wrap .i32 ((c:Int) - 65536)=((c - 65536:Nat):Int):=by rw[wrap32_id (by omega) (by omega)];omega
 rw[e1,b_shr (by decide),e_shr10]
 try simp only[rs]
 have e2:IntKind.wrap .i32 (55296+(((c - 65536) / 1024:Nat):Int))=((55296+(c - 65536) / 1024:Nat):Int):=by rw[wrap32_id (by omega) (by omega)];omega
 rw[e2,b_shr (by decide),e_shr8,c_328,c_328,u8of,u8of256];refine o_appB (m:=Cm.be (55296+(c - 65536) / 1024)) (fun w=>m_be rfl rfl w) ho (by show _+2≤_;omega) fun v' w4 ho=>?_
 try simp only[rs]
 rw[b_and,and1023 (by omega)]
 try simp only[rs]
 have e3:IntKind.wrap .i32 (56320+(((c - 65536) % 1024:Nat):Int))=((56320+(c - 65536) % 1024:Nat):Int):=by rw[wrap32_id (by omega) (by omega)];omega
 rw[e3];exact fin v' _ w4 _ (by rw[Cm.unit_hi (by omega),List.append_assoc]) (by omega) (by rw[List.length_append,Cm.be_len];omega) ho
theorem runits46_ret (s:List UInt8)(w:World)(hs:s.length≤1000000000):Ret prog 62 #[.string ⟨s.toArray⟩] w (fun v w'=>v=.string ⟨(Cm.units s).toArray⟩∧Below w.heap.size w w'):=by
 refine ret_of fun K hK=>S_foliantref46_Units_ok ?_;unfold S_foliantref46_Units;refine o_range Tryz.underlying9 (Own.start w) fun b w1 ho=>?_;refine loop (fun vs W=>∃(p:Nat) (u:Value) (acc:List UInt8),vs=[u]∧p≤s.length∧acc++Cm.units (s.drop p)=Cm.units s∧acc.length≤4*p∧Own w W [BRow u acc,.obj b (.stringIter ⟨s.toArray⟩ p)]) (fun _ W=>s.length - W.iterPos b) ⟨0,_,[],rfl,by omega,by simp,by simp,ho.nilRow _ 1⟩ ?_;clear ho;rintro vs w2 ⟨p,u,acc,rfl,hp,hacc,hal,ho⟩ _;simp only[S_foliantref46_Units_0,gd];have hit:w2.iterPos b=p:=by
  have h:w2.heap[b]?=some (.stringIter ⟨s.toArray⟩ p):=ho.at_ 1 rfl;unfold World.iterPos;rw[h]
 by_cases hlt:p < s.length
 case neg=>
  rw[o_next_end 1 ho rfl (by omega)];simp only[ex,i_f];rw[o_strB 0 ho rfl];have:p=s.length:=by omega
  subst this;rw[List.drop_length,show Cm.units []=[] from rfl,List.append_nil] at hacc;exact hK _ _ ⟨by rw[hacc],ho.done⟩
 refine o_nextR 1 ho rfl hlt fun w3 ho=>?_;have hne:s.drop p≠[]:=fun h0=>by have:=congrArg List.length h0;rw[List.length_drop] at this;simp at this;omega
 have hw1:=Lib.decodeL_width (s.drop p);have hw2:=Lib.decodeL_le _ hne;rw[List.length_drop] at hw2;have hok:=Cm.decodeL_ok (s.drop p);have hun:=Cm.drop_units hlt;rw[hun,←List.append_assoc] at hacc;generalize hcc:(Lib.decodeL (s.drop p)).1=c at *;generalize hww:(Lib.decodeL (s.drop p)).2=d at *;simp only[ex,i_t];have c3264:∀{n:Int} {W:World} {PK:PKT} {K:VWP},DoX prog (mConv 21 3 (.int .i32 n)) W PK K=K (.int .i64 (IntKind.wrap .i64 n)) W:=c_int (show (Tryz.prog.underlying 21).isSome=true by kernel_rfl) Tryz.underlying3;rw[c3264,wrap64_id (by omega) (by omega)];refine join fun J hJ=>?_;have fin:∀(v:Value) (acc':List UInt8) (W:World) (m:Nat),acc'++Cm.be m=acc++Cm.unit c→m < 65536→acc'.length+2≤4*p+4→Own w W [BRow v acc',.obj b (.stringIter ⟨s.toArray⟩ (p+d))]→J [v,.int .i64 (m:Int)] W:=by
  intro v acc' W m he hm hl ho;refine hJ _ _ fun _=>?_;simp only[S_foliantref46_Units_1,gd];have q1:((m:Int).tdiv 256)=((m / 256:Nat):Int):=by rw[Int.tdiv_eq_ediv_of_nonneg (by omega)];omega
  have q2:((m:Int).tmod 256)=((m % 256:Nat):Int):=by rw[Int.tmod_eq_emod_of_nonneg (by omega)];omega
  rw[b_quo (by decide),q1,wrap64_id (by omega) (by omega)]
  try simp only[rs]
  rw[lb_c8,u8of,b_rem (by decide),q2]
  try simp only[rs]
  rw[lb_c8,u8of];refine o_appB (m:=Cm.be m) (fun w=>m_be rfl rfl w) ho (by show _+2≤_;omega) fun v' W2 ho=>?_;rw[he] at ho;have hpos:W2.iterPos b=p+d:=by
   have h:W2.heap[b]?=some (.stringIter ⟨s.toArray⟩ (p+d)):=ho.at_ 1 rfl;unfold World.iterPos;rw[h]
  refine nextX ⟨p+d,v',_,rfl,by omega,hacc,?_,ho⟩ (by rw[hpos,hit];omega);have:=congrArg List.length he;rw[List.length_append,Cm.be_len] at this;omega
 try simp only[rs]
 by_cases hc:(65535:Int) < (c:Int)
 case neg=>
  simp only[decide_eq_false hc,i_f];exact fin u acc w3 c (by rw[Cm.unit_lo (by omega)]) (by omega) (by omega) ho
 simp only[decide_eq_true hc,i_t];have e1:IntKind.wrap .i64 ((c:Int) - 65536)=((c - 65536:Nat):Int):=by rw[wrap64_id (by omega) (by omega)];omega
 have q3:(((c - 65536:Nat):Int).tdiv 1024)=(((c - 65536) / 1024:Nat):Int):=by rw[Int.tdiv_eq_ediv_of_nonneg (by omega)];omega
 have q4:(((c - 65536:Nat):Int).tmod 1024)=(((c - 65536) % 1024:Nat):Int):=by rw[Int.tmod_eq_emod_of_nonneg (by omega)];omega
 rw[e1,b_quo (by decide),q3,wrap64_id (n:=(((c - 65536) / 1024:Nat):Int)) (by omega) (by omega)]
 try simp only[rs]
 have e2:IntKind.wrap .i64 (55296+(((c - 65536) / 1024:Nat):Int))=((55296+(c - 65536) / 1024:Nat):Int):=by rw[wrap64_id (by omega) (by omega)];omega
 rw[e2];generalize hm:55296+(c - 65536) / 1024=m;have hm2:m < 65536:=by omega
 have q1:((m:Int).tdiv 256)=((m / 256:Nat):Int):=by rw[Int.tdiv_eq_ediv_of_nonneg (by omega)];omega
 have q2:((m:Int).tmod 256)=((m % 256:Nat):Int):=by rw[Int.tmod_eq_emod_of_nonneg (by omega)];omega
 rw[b_quo (by decide),q1,wrap64_id (n:=((m / 256:Nat):Int)) (by omega) (by omega)]
 try simp only[rs]
 rw[lb_c8,u8of,b_rem (by decide),q2]
 try simp only[rs]
 rw[lb_c8,u8of];refine o_appB (m:=Cm.be m) (fun w=>m_be rfl rfl w) ho (by show _+2≤_;omega) fun v' w4 ho=>?_;rw[b_rem (by decide),q4]
 try simp only[rs]
 have e3:IntKind.wrap .i64 (56320+(((c - 65536) % 1024:Nat):Int))=((56320+(c - 65536) % 1024:Nat):Int):=by rw[wrap64_id (by omega) (by omega)];omega
 rw[e3];exact fin v' _ w4 _ (by rw[Cm.unit_hi (by omega),hm,List.append_assoc]) (by omega) (by rw[List.length_append,Cm.be_len];omega) ho
end
section
namespace Eng
open Go.RowKit
section
variable {α:Type}{enc:α→List Value}{k:Nat}
theorem flat_drop (hk:∀x,(enc x).length=k):∀(l:List α) (j:Nat),(l.flatMap enc).drop (j*k)=(l.drop j).flatMap enc
|[],j=>by simp
|x::l,0=>by simp
|x::l,j+1=>by
  rw[List.flatMap_cons,List.drop_succ_cons,Nat.succ_mul,Nat.add_comm,List.drop_append,hk,List.drop_eq_nil_of_le (by rw[hk];omega),Nat.add_sub_cancel_left,flat_drop hk l j,List.nil_append]
theorem flat_get (hk:∀x,(enc x).length=k){l:List α}{j:Nat}(hj:j < l.length){i:Nat}{v:Value}(h:(enc l[j])[i]?=some v):(l.flatMap enc)[j*k+i]?=some v:=by
 have h1:((l.flatMap enc).drop (j*k))[i]?=some v:=by
  rw[flat_drop hk,List.drop_eq_getElem_cons hj,List.flatMap_cons,List.getElem?_append_left (List.getElem?_eq_some_iff.1 h).1];exact h
 rwa [List.getElem?_drop] at h1
variable {S:Nat→Prop}{P:Program}{w w0:World}{L:List Ent}{PK PK2:PKT}{K:VWP}
end
end Eng
end
section
open Eng Go.RowKit
theorem run_64F (w:World){n:Int}(h0:0≤n)(h1:n≤255):(mConv 5 3 (.int .u8 n)).run prog w=.ok (.value (.int .i64 n)) w:=by
 have h:(mConv 5 3 (.int .u8 n)).run prog w=.ok (.value (.int .i64 (IntKind.wrap .i64 n))) w:=run_c_int (show (Tryz.prog.underlying 5).isSome=true by kernel_rfl) Tryz.underlying3;rw[h,wrap64_id (by omega) (by omega)]
theorem rone46_ret (s:List UInt8)(i:Nat)(h:i+1 < s.length)(hsl:s.length≤1000000000000)(w:World):Ret prog 127 #[.string ⟨s.toArray⟩,.int .i64 (i:Int)] w (fun v w'=>v=.int .i64 (Cm.two (s[i]'(by omega)) s[i+1]:Nat)∧Below w.heap.size w w'):=by
 refine ret_of fun K hK=>S_foliantref46_one_ok ?_;unfold S_foliantref46_one;have hi:i < s.length:=by omega
 have h1:=s[i].toNat_lt;have h2:=s[i+1].toNat_lt;refine quiet (q_do _ (fun w=>run_s_ix (i:=(i:Int)) (c:=s[i]) Tryz.underlying9 (by omega) (by rw[Int.toNat_natCast];exact List.getElem?_eq_getElem hi)) ?_);refine q_do _ (fun w=>run_64F w (by omega) (by omega)) ?_;refine q_do (.int .i64 (256*(s[i].toNat:Int))) (fun w=>by rw[r_mul,wrap64_id (by omega) (by omega)]) ?_;refine q_do (.int .i64 ((i+1:Nat):Int)) (fun w=>by rw[r_add];congr 4;exact wrap64_id (by omega) (by omega)) ?_;refine q_do _ (fun w=>run_s_ix (i:=((i+1:Nat):Int)) (c:=s[i+1]) Tryz.underlying9 (by omega) (by rw[Int.toNat_natCast];exact List.getElem?_eq_getElem h)) ?_;refine q_do _ (fun w=>run_64F w (by omega) (by omega)) ?_;refine q_do (.int .i64 (Cm.two s[i] s[i+1]:Nat)) (fun w=>by rw[r_add];congr 4;rw[wrap64_id (by omega) (by omega)];unfold Cm.two;omega) ?_;intro w3 hb;exact hK _ _ ⟨rfl,hb⟩
theorem c_runes {w:World}{PK:PKT}{K:VWP}{v:Value}{l:List Nat}(h:Sl w v 1 l.length (l.map fun (r:Nat)=>Value.int .i32 (r:Int))):DoX prog (mConv 99 9 v) w PK K=K (.string ⟨(Cm.enc l).toArray⟩) w:=by
 have he:∀(l:List Nat) (acc:List UInt8),(l.map fun (r:Nat)=>(r:Int)).foldl (fun r n=>r++Utf8.encode n) (⟨acc.toArray⟩:ByteArray)=⟨(acc++Cm.enc l).toArray⟩:=by
  intro l
  induction l with
 |nil=>intro acc;simp[Cm.enc]
 |cons r l ih=>
   intro acc;rw[List.map_cons,List.foldl_cons,Cm.enc_list,str_append,ih,List.append_assoc];unfold Cm.enc;rw[List.flatMap_cons]
 have hr:runesBytes (l.map fun (r:Nat)=>(r:Int))=⟨(Cm.enc l).toArray⟩:=by
  have:=he l [];rw[List.nil_append] at this;exact this
 obtain⟨hl,a,cap,rfl,hn,hc⟩:=h;refine mv_do ?_;rw[run_convert_runes_string w 99 9 21 a l.length cap Tryz.underlying99 Tryz.underlying21 Tryz.underlying9];cases a with
|none=>
  have h0:=hn rfl;have:l=[]:=List.eq_nil_of_length_eq_zero h0;subst this;rfl
|some p=>
  obtain⟨hsp,hcell⟩:=hc p rfl;rw[←hr];refine run_runesToString w p l.length cap _ ?_;by_cases h0:l=[]
  ·subst h0;rfl
  replace hsp:=hsp (List.length_pos_iff.2 h0)
  obtain⟨b,off,spot⟩:=p;simp only at hsp hcell;subst hsp;have:=run_loadCells_list (P:=prog) w ⟨b,off,none⟩ (l.map fun (r:Nat)=>Value.int .i32 (r:Int)) (fun j v hj=>by rw[add_none];exact hcell j v hj);rw[List.length_map] at this;rw[this,List.map_map];rfl
namespace Cm
theorem sign_step {a b:UInt8}{t:List UInt8}(ht:t.length % 2=0):sign (a::b::t) =
  if low (two a b) then none else if high (two a b) then (match t with|c::d::t'=>if low (two c d) then (sign t').map fun l=>(65536+1024*(two a b - 55296)+(two c d - 56320))::l else none|_=>none) else (sign t).map fun l=>two a b::l:=by
 match t,ht with
|[],_=>
  cases h1:low (two a b)<;>cases h2:high (two a b)<;>simp[sign,h1,h2]
|c::d::t,_=>simp only[sign]
end Cm
theorem el32E:elB prog 21 1 4=true:=by kernel_rfl
def runV (l:List Nat):List Value:=l.map fun (r:Nat)=>Value.int .i32 (r:Int)
theorem rutf46_ret (s:List UInt8)(w:World)(hs:s.length≤1000000000):Ret prog 93 #[.string ⟨s.toArray⟩] w (fun v w'=>v=.tuple #[.string ⟨(Cm.utf s).1.toArray⟩,.int .i64 (Cm.utf s).2]∧Below w.heap.size w w'):=by
 refine ret_of fun K hK=>S_foliantref46_Utf_ok ?_;unfold S_foliantref46_Utf;generalize hX:Cm.utf s=X at hK;unfold Cm.utf at hX;rw[s_len Tryz.underlying9,b_rem (by decide),show ((s.length:Int).tmod 2)=((s.length % 2:Nat):Int) by rw[Int.tmod_eq_emod_of_nonneg (by omega)];omega]
 try simp only[rs]
 by_cases hodd:s.length % 2=1
 ·rw[if_pos hodd] at hX;simp only[decide_eq_true (show ((s.length % 2:Nat):Int)=1 by omega),i_t];exact hK _ _ ⟨by rw[←hX],(Own.start w).done⟩
 rw[if_neg hodd] at hX;simp only[decide_eq_false (show ¬((s.length % 2:Nat):Int)=1 by omega),i_f];have no:∀{W:World} {L:List Ent},Own w W L→Cm.sign s=none→K (.returned (.tuple #[(.string ⟨#[]⟩),(.int .i64 3)])) W:=fun ho h=>hK _ _ ⟨by rw[h] at hX;rw[←hX],ho.done⟩;refine loop (fun vs W=>∃(p:Nat) (u:Value) (acc:List Nat),vs=[u,.int .i64 (p:Int)]∧p≤s.length∧p % 2=0∧acc.length≤p∧Cm.sign s=(Cm.sign (s.drop p)).map (acc++·)∧Own w W [.urow 21 1 u acc.length (runV acc)]) (fun vs _=>s.length - n1 vs)
  ⟨0,_,[],rfl,by omega,rfl,by simp,by simp,OwnS.nilU (Own.start w) _ _⟩ ?_
 rintro vs w2 ⟨p,u,acc,rfl,hp,hp2,hal,hsg,ho⟩ _;simp only[S_foliantref46_Utf_0,gd];rw[s_len Tryz.underlying9]
 try simp only[rs]
 by_cases hlt:(p:Int) < (s.length:Int)
 case neg=>
  simp only[decide_eq_false hlt,i_f];have:p=s.length:=by omega
  subst this;rw[List.drop_length,show Cm.sign []=some [] from rfl] at hsg;rw[hsg] at hX;rw[c_runes (l:=acc) (ho.slU 0 rfl)];refine hK _ _ ⟨by rw[←hX];simp,ho.done⟩
 simp only[decide_eq_true hlt,i_t];have h1:p+1 < s.length:=by omega
 have h0:p < s.length:=by omega
 have hd:s.drop p=s[p]::s[p+1]::s.drop (p+2):=by rw[List.drop_eq_getElem_cons h0,List.drop_eq_getElem_cons h1]
 rw[hd,Cm.sign_step (by rw[List.length_drop];omega)] at hsg;refine c_below ho (R:=fun v=>v=.int .i64 (Cm.two s[p] s[p+1]:Nat)) (rone46_ret s p h1 (by omega) w2) ?_;rintro _ w3 rfl ho;have hu:Cm.two s[p] s[p+1] < 65536:=by unfold Cm.two;have:=s[p].toNat_lt;have:=s[p+1].toNat_lt;omega
 generalize Cm.two s[p] s[p+1]=m at *
 try simp only[rs]
 have c2:∀{x:Nat},x < 65536→(((56320:Int)≤(x:Int)↔56320≤x)∧((x:Int)≤57343↔x≤57343)∧((55296:Int)≤(x:Int)↔55296≤x)∧((x:Int)≤56319↔x≤56319)):=fun h=>⟨by omega,by omega,by omega,by omega⟩;obtain⟨q1,q2,q3,q4⟩:=c2 hu;have rest:Cm.low m=false→Own w w3 [.urow 21 1 u acc.length (runV acc)]→JoinX (fun J2=>
   DoX prog (mBin .geq 3 (.int .i64 (m:Int)) (.int .i64 55296)) w3 (pk K) fun t27 w=>
   GDo t27 true (fun E=>E (.int .i64 (m:Int)) w) w fun t29 w=>
   GDo t27 true (fun E=>DoX prog (mBin .leq 3 t29 (.int .i64 56319)) w (pk K) E) w fun t30 w=>
   DoX prog (mPick t27 t30 (.bool false)) w (pk K) fun t31 w=>
   IfX t31 (DoX prog (mBin .add 3 (.int .i64 (p:Int)) (.int .i64 2)) w (pk K) fun t33 w=>
   DoX prog (mB .len #[9] 3 #[false] #[.string ⟨s.toArray⟩]) w (pk K) fun t35 w=>
   DoX prog (mBin .geq 3 t33 t35) w (pk K) fun t36 w=>
   GDo t36 false (fun E=>E (.string ⟨s.toArray⟩) w) w fun t38 w=>
   GDo t36 false (fun E=>E (.int .i64 (p:Int)) w) w fun t39 w=>
   GDo t36 false (fun E=>DoX prog (mBin .add 3 t39 (.int .i64 2)) w (pk K) E) w fun t40 w=>
   GDo t36 false (fun E=>CallX prog 127 #[t38,t40] w (pk K) E) w fun t41 w=>
   GDo t36 false (fun E=>DoX prog (mBin .lss 3 t41 (.int .i64 56320)) w (pk K) E) w fun t42 w=>
   DoX prog (mPick t36 (.bool true) t42) w (pk K) fun t43 w=>
   GDo t43 false (fun E=>E (.string ⟨s.toArray⟩) w) w fun t45 w=>
   GDo t43 false (fun E=>E (.int .i64 (p:Int)) w) w fun t46 w=>
   GDo t43 false (fun E=>DoX prog (mBin .add 3 t46 (.int .i64 2)) w (pk K) E) w fun t47 w=>
   GDo t43 false (fun E=>CallX prog 127 #[t45,t47] w (pk K) E) w fun t48 w=>
   GDo t43 false (fun E=>DoX prog (mBin .gtr 3 t48 (.int .i64 57343)) w (pk K) E) w fun t49 w=>
   DoX prog (mPick t43 (.bool true) t49) w (pk K) fun t50 w=>
   IfX t50 (K (.returned (.tuple #[(.string ⟨#[]⟩),(.int .i64 3)])) w) (DoX prog (mBin .add 3 (.int .i64 (p:Int)) (.int .i64 2)) w (pk K) fun t52 w=>
   DoX prog (mBin .sub 3 (.int .i64 (m:Int)) (.int .i64 55296)) w (pk K) fun t54 w=>
   DoX prog (mBin .mul 3 (.int .i64 1024) t54) w (pk K) fun t55 w=>
   DoX prog (mBin .add 3 (.int .i64 65536) t55) w (pk K) fun t56 w=>
   CallX prog 127 #[.string ⟨s.toArray⟩,t52] w (pk K) fun t59 w=>
   DoX prog (mBin .add 3 t56 t59) w (pk K) fun t60 w=>
   DoX prog (mBin .sub 3 t60 (.int .i64 56320)) w (pk K) fun t61 w=>
   J2 [t52,t61] w)) (J2 [(.int .i64 (p:Int)),(.int .i64 (m:Int))] w)) (fun vs2 w'=>∀_:Sg,S_foliantref46_Utf_1 u (vs2.getD 0 undef) (vs2.getD 1 undef) w' (NextX (fun vs W=>∃(p:Nat) (u:Value) (acc:List Nat),vs=[u,.int .i64 (p:Int)]∧p≤s.length∧p % 2=0∧acc.length≤p∧Cm.sign s=(Cm.sign (s.drop p)).map (acc++·)∧Own w W [.urow 21 1 u acc.length (runV acc)]) (fun vs _=>s.length - n1 vs) [u,.int .i64 (p:Int)] w2) K):=by
  intro hlow ho;rw[hlow] at hsg;simp only[Bool.false_eq_true,if_false] at hsg;refine join fun J hJ=>?_;have fin:∀{W:World} {q r:Nat},q % 2=0→p≤q→q+2≤s.length→r≤1114111→Cm.sign s=(Cm.sign (s.drop (q+2))).map (fun l=>acc++r::l)→Own w W [.urow 21 1 u acc.length (runV acc)]→J [.int .i64 (q:Int),.int .i64 (r:Int)] W:=by
   intro W q r hq hpq hql hr hsg ho;refine hJ _ _ fun _=>?_;simp only[S_foliantref46_Utf_1,gd];rw[c_i32,wrap32_id (by omega) (by omega)];refine o_new (fun b=>.slice (some ⟨b,0,none⟩) 1 1) [.int .i32 (r:Int)] 21 (fun _=>by kernel_rfl) ho fun b W2 ho=>?_;refine o_appendU 1 Tryz.underlying99 el32E (by decide) ho rfl (ho.sl 0 rfl 1 1 1 rfl) (by simp[Value.oneCell']) (by omega) (by omega) fun v' W3 ho=>?_
   try simp only[rs]
   rw[wrap64_id (by omega) (by omega)];refine nextX ⟨q+2,v',acc++[r],by rw[show ((q+2:Nat):Int)=(q:Int)+2 by omega],by omega,by omega,by rw[List.length_append];simp;omega,?_,?_⟩ (by simp[n1,RowKit.intOf];omega)
   ·rw[hsg];congr 1;funext l;simp
   ·have e:Ent.urow 21 1 v' (acc++[r]).length (runV (acc++[r]))=.urow 21 1 v' (acc.length+1) (runV acc++[.int .i32 (r:Int)]):=by simp[runV]
    rw[e];exact ho.tail
  have lo:Cm.high m=false→J [(.int .i64 (p:Int)),(.int .i64 (m:Int))] w3:=fun hh=>by
   rw[hh] at hsg;simp only[Bool.false_eq_true,if_false,Option.map_map] at hsg;exact fin hp2 (by omega) (by omega) (by omega) hsg ho
  try simp only[rs]
  by_cases b1:(55296:Int)≤(m:Int)
  case neg=>
   simp only[decide_eq_false b1,rs,g_un,i_f];exact lo (by unfold Cm.high;rw[decide_eq_false (by omega)];rfl)
  simp only[decide_eq_true b1,rs];by_cases b2:(m:Int)≤56319
  case neg=>
   simp only[decide_eq_false b2,rs,i_f];exact lo (by unfold Cm.high;rw[decide_eq_false (show ¬m≤56319 by omega),Bool.and_false])
  simp only[decide_eq_true b2,rs,i_t];have hh:Cm.high m=true:=by unfold Cm.high;rw[decide_eq_true (show 55296≤m by omega),decide_eq_true (show m≤56319 by omega)];rfl
  rw[hh] at hsg;simp only[if_true] at hsg;rw[wrap64_id (n:=(p:Int)+2) (by omega) (by omega),s_len Tryz.underlying9]
  try simp only[rs]
  by_cases b3:(s.length:Int)≤(p:Int)+2
  ·have:s.drop (p+2)=[]:=List.drop_of_length_le (by omega);rw[this] at hsg;simp only[decide_eq_true b3,rs,g_un,i_t];exact no ho hsg
  have b3':p+3 < s.length:=by omega
  have hd2:s.drop (p+2)=s[p+2]::s[p+3]::s.drop (p+4):=by rw[List.drop_eq_getElem_cons (by omega:p+2 < s.length),List.drop_eq_getElem_cons b3']
  rw[hd2] at hsg;dsimp only at hsg;simp only[decide_eq_false b3,rs];rw[wrap64_id (n:=(p:Int)+2) (by omega) (by omega),show (p:Int)+2=((p+2:Nat):Int) by omega];refine c_below ho (R:=fun v=>v=.int .i64 (Cm.two s[p+2] s[p+3]:Nat)) (rone46_ret s (p+2) b3' (by omega) _) ?_;rintro _ w4 rfl ho;have hu2:Cm.two s[p+2] s[p+3] < 65536:=by unfold Cm.two;have:=s[p+2].toNat_lt;have:=s[p+3].toNat_lt;omega
  have hone:=fun W=>rone46_ret s (p+2) b3' (by omega) W;have hone:∀W,Ret prog 127 #[.string ⟨s.toArray⟩,.int .i64 ((p+2:Nat):Int)] W (fun v w'=>v=.int .i64 (Cm.two s[p+2] s[p+3]:Nat)∧Below W.heap.size W w'):=hone;generalize Cm.two s[p+2] s[p+3]=m2 at *
  try simp only[rs]
  by_cases b4:(m2:Int) < 56320
  ·rw[show Cm.low m2=false by unfold Cm.low;rw[decide_eq_false (by omega)];rfl] at hsg;simp only[decide_eq_true b4,rs,g_un,i_t];exact no ho (by simpa using hsg)
  simp only[decide_eq_false b4,rs];rw[wrap64_id (n:=(p:Int)+2) (by omega) (by omega),show (p:Int)+2=((p+2:Nat):Int) by omega];refine c_below ho (R:=fun v=>v=.int .i64 (m2:Int)) (hone _) ?_;rintro _ w5 rfl ho
  try simp only[rs]
  by_cases b5:(57343:Int) < (m2:Int)
  ·rw[show Cm.low m2=false by unfold Cm.low;rw[decide_eq_false (show ¬m2≤57343 by omega),Bool.and_false]] at hsg;simp only[decide_eq_true b5,rs,i_t];exact no ho (by simpa using hsg)
  rw[show Cm.low m2=true by unfold Cm.low;rw[decide_eq_true (show 56320≤m2 by omega),decide_eq_true (show m2≤57343 by omega)];rfl] at hsg;simp only[if_true,Option.map_map] at hsg;simp only[decide_eq_false b5,rs,i_f]
  try rw[wrap64_id (n:=(p:Int)+2) (by omega) (by omega),show (p:Int)+2=((p+2:Nat):Int) by omega]
  rw[wrap64_id (n:=(m:Int) - 55296) (by omega) (by omega),wrap64_id (n:=1024*((m:Int) - 55296)) (by omega) (by omega),wrap64_id (n:=65536+1024*((m:Int) - 55296)) (by omega) (by omega)];refine c_below ho (R:=fun v=>v=.int .i64 (m2:Int)) (hone _) ?_;rintro _ w6 rfl ho
  try simp only[rs]
  rw[wrap64_id (n:=65536+1024*((m:Int) - 55296)+(m2:Int)) (by omega) (by omega),wrap64_id (by omega) (by omega)];have er:65536+1024*((m:Int) - 55296)+(m2:Int) - 56320=((65536+1024*(m - 55296)+(m2 - 56320):Nat):Int):=by omega
  rw[er];exact fin (q:=p+2) (by omega) (by omega) (by omega) (by omega) hsg ho
 by_cases b1:(56320:Int)≤(m:Int)
 case neg=>
  simp only[decide_eq_false b1,rs,g_un,i_f];have:=rest (by unfold Cm.low;rw[decide_eq_false (by omega)];rfl) ho;simp only[rs] at this;exact this
 simp only[decide_eq_true b1,rs];by_cases b2:(m:Int)≤57343
 case neg=>
  simp only[decide_eq_false b2,rs,i_f];have:=rest (by unfold Cm.low;rw[decide_eq_false (show ¬m≤57343 by omega),Bool.and_false]) ho;simp only[rs] at this;exact this
 simp only[decide_eq_true b2,rs,i_t];rw[show Cm.low m=true by unfold Cm.low;rw[decide_eq_true (show 56320≤m by omega),decide_eq_true (show m≤57343 by omega)];rfl] at hsg;exact no ho (by simpa using hsg)
theorem rutf8_ret (s:List UInt8)(w:World)(hs:s.length≤100000000):Ret prog 61 #[.string ⟨s.toArray⟩] w (fun v w'=>v=.bool (Lib.validD s)∧Below w.heap.size w w'):=by
 refine ret_of fun K hK=>S_foliantref46_utf8_ok ?_;unfold S_foliantref46_utf8;refine c_below (Own.start w) (R:=fun v=>v=.string ⟨(Cm.units s).toArray⟩) (runits46_ret s w (by omega)) ?_;rintro _ w1 rfl ho;have:=Cm.units_le s;refine c_below ho (R:=fun v=>v=.tuple #[.string ⟨(Cm.utf (Cm.units s)).1.toArray⟩,.int .i64 (Cm.utf (Cm.units s)).2]) (rutf46_ret (Cm.units s) w1 (by omega)) ?_;rintro _ w2 rfl ho;have hv:=Cm.utf_valid s;simp only[ex];rw[e_int];by_cases h0:(Cm.utf (Cm.units s)).2=0
 ·rw[decide_eq_true h0,Bool.true_and] at hv;simp only[decide_eq_true h0,rs];exact hK _ _ ⟨by rw[hv],ho.done⟩
 ·rw[decide_eq_false h0,Bool.false_and] at hv;simp only[decide_eq_false h0,rs,g_un];exact hK _ _ ⟨by rw[←hv],ho.done⟩
end
section
open Eng Go.RowKit
def mpC (x:Cm.Mp):List Value:=[.int .i64 x.1,.string ⟨x.2.toArray⟩]
def mpV (x:Cm.Mp):Value:=.agg (mpC x).toArray
abbrev mpE (b:Nat)(x:Cm.Mp):Ent:=.cells b (mpC x) 44
def mpsC (l:List Cm.Mp):List Value:=l.flatMap mpC
theorem mpC_len (x:Cm.Mp):(mpC x).length=2:=rfl
theorem mpC_one (x:Cm.Mp):∀v∈mpC x,v.oneCell'=true:=by
 intro v hv;simp only[mpC,List.mem_cons,List.not_mem_nil,or_false] at hv;rcases hv with rfl|rfl<;>rfl
theorem szMp:(Tryz.prog.info? 44).map (·.size)=some 2:=by kernel_rfl
theorem aggMp:aggN prog 44=some 2:=by kernel_rfl
theorem mp_cells {M:Mem}{v:Value}{l:List Cm.Mp}(hs:SlA M.A M.w v 2 l.length (mpsC l)){i:Nat}(hi:i < l.length) :
  ∃b off,(∀W,(mIA 24 v (.int .i64 (i:Int))).run prog W=.ok (.value (.pointer (some ⟨b,off,none⟩))) W)∧(∀W,M.has W→W.cell? ⟨b,off,none⟩=some (.int .i64 l[i].1)∧W.cell? ⟨b,off+1,none⟩=some (.string ⟨l[i].2.toArray⟩)) ∧
   ∀W,M.has W→(mLoad 44 (.pointer (some ⟨b,off,none⟩))).run prog W=.ok (.value (mpV l[i])) W:=by
 obtain⟨b,off,cap,rfl,_⟩:=sl_open hs.1 (by omega);have hc0:∀W,M.has W→∀j u,(mpC l[i])[j]?=some u→W.cell? ⟨b,off+i*2+j,none⟩=some u:=by
  intro W hW j u hj;obtain⟨b',off',cap',he,hc⟩:=sl_open (hs.now hW) (by omega);cases he;rw[Nat.add_assoc];exact hc _ _ (Eng.flat_get mpC_len hi hj)
 refine⟨b,off+i*2,fun W=>?_,fun W hW=>⟨hc0 W hW 0 _ rfl,hc0 W hW 1 _ rfl⟩,fun W hW=>?_⟩
 ·have:=run_ia (P:=prog) (T:=24) (b:=b) (off:=off) (cap:=cap) (n:=l.length) (k:=.i64) (i:=(i:Int)) (w:=W) Tryz.underlying24 szMp (by omega) (by omega);rw[Int.toNat_natCast] at this;exact this
 ·exact run_load_at (v:=mpV l[i]) (AtV.agg aggMp rfl fun j v hj=>hc0 W hW j v hj)
section
variable {w:World}{PK:PKT}{K:VWP}{S:Nat→Prop}{w0:World}{L:List Ent}
theorem o_mpa (ho:OwnS S w0 w L)(k:∀b w',OwnS S w0 w' (mpE b (0,[])::L)→K (.pointer (some ⟨b,0,none⟩)) w'):DoX prog (mAlloc 44) w PK K:=
 o_new (fun b=>.pointer (some ⟨b,0,none⟩)) (mpC (0,[])) 44 (fun _=>by kernel_rfl) ho k
theorem o_mpb (x:Cm.Mp)(ho:OwnS S w0 w L)(k:∀b w',OwnS S w0 w' (mpE b x::L)→K (.pointer (some ⟨b,0,none⟩)) w'):DoX prog (mBox 44 (mpV x)) w PK K:=
 o_new (fun b=>.pointer (some ⟨b,0,none⟩)) (mpC x) 44 (fun _=>by kernel_rfl) ho k
theorem mp_put (i:Nat){b:Nat}{x y:Cm.Mp}(ho:OwnS S w0 w L)(hi:L[i]?=some (mpE b x))(k:∀w',OwnS S w0 w' (L.set i (mpE b y))→K undef w'):DoX prog (mStore 44 (.pointer (some ⟨b,0,none⟩)) (mpV y)) w PK K:=
 o_put i ho hi (new:=mpC y) szMp (mpC_one y) rfl k
theorem fa_m0 {b off:Nat}:DoX prog (mFA 44 (.pointer (some ⟨b,off,none⟩)) 0) w PK K=K (.pointer (some ⟨b,off,none⟩)) w:=f_addr (o:=0) (by kernel_rfl)
theorem fa_m1 {b off:Nat}:DoX prog (mFA 44 (.pointer (some ⟨b,off,none⟩)) 1) w PK K=K (.pointer (some ⟨b,off+1,none⟩)) w:=f_addr (o:=1) (by kernel_rfl)
end
theorem r_fam0 {w:World}{b off:Nat}:(mFA 44 (.pointer (some ⟨b,off,none⟩)) 0).run prog w=.ok (.value (.pointer (some ⟨b,off,none⟩))) w:=run_fa (o:=0) (by kernel_rfl)
def UtM (M:Mem):Prop:=∀w,M.has w→Lib.Utf8Tabs 1 2 w
theorem UtM.le {M N:Mem}(h:UtM M)(hle:M.le N):UtM N:=fun w hN=>h w (Mem.has_of hle hN)
def u8ren:Go.Shelf.Ren:=⟨fun|196=>59|259=>92|n=>n,fun|119=>103|138=>132|139=>133|46=>58|53=>59|n=>n,fun|3=>1|4=>2|n=>n⟩
theorem u8lays:Go.Proofs.Lays.n196 prog u8ren:={
 mixed:=by kernel_rfl
 f196:=Tryz.func59.trans (congrArg some (by kernel_rfl))
 f259:=Tryz.func92.trans (congrArg some (by kernel_rfl))
 t0:=by kernel_rfl
 a0:=fun _=>by kernel_rfl
 z0:=fun _=>by kernel_rfl
 v0:=fun _=>by kernel_rfl
 t3:=by kernel_rfl
 a3:=fun _=>by kernel_rfl
 z3:=fun _=>by kernel_rfl
 v3:=fun _=>by kernel_rfl
 t4:=by kernel_rfl
 a4:=fun _=>by kernel_rfl
 z4:=fun _=>by kernel_rfl
 v4:=fun _=>by kernel_rfl
 t5:=by kernel_rfl
 a5:=fun _=>by kernel_rfl
 z5:=fun _=>by kernel_rfl
 v5:=fun _=>by kernel_rfl
 t9:=by kernel_rfl
 a9:=fun _=>by kernel_rfl
 z9:=fun _=>by kernel_rfl
 v9:=fun _=>by kernel_rfl
 t12:=by kernel_rfl
 a12:=fun _=>by kernel_rfl
 z12:=fun _=>by kernel_rfl
 v12:=fun _=>by kernel_rfl
 t46:=by kernel_rfl
 a46:=fun _=>by kernel_rfl
 z46:=fun _=>by kernel_rfl
 v46:=fun _=>by kernel_rfl
 t53:=by kernel_rfl
 a53:=fun _=>by kernel_rfl
 z53:=fun _=>by kernel_rfl
 v53:=fun _=>by kernel_rfl
 t119:=by kernel_rfl
 a119:=fun _=>by kernel_rfl
 z119:=fun _=>by kernel_rfl
 t138:=by kernel_rfl
 a138:=fun _=>by kernel_rfl
 z138:=fun _=>by kernel_rfl
 v138:=fun _=>by kernel_rfl
 t139:=by kernel_rfl
 a139:=fun _=>by kernel_rfl
 z139:=fun _=>by kernel_rfl
 v139:=fun _=>by kernel_rfl
 g3:=by kernel_rfl
 g4:=by kernel_rfl }
theorem valid_ret (s:List UInt8)(w:World)(hs:s.length≤1000000000)(hT:Lib.Utf8Tabs 1 2 w):Ret prog 59 #[.string ⟨s.toArray⟩] w (fun v w'=>v=.bool (Lib.validD s)∧Below w.heap.size w w'):=by
 have:=Any.utf8_ValidString u8lays ⟨s.toArray⟩ w (by rw[str_size];omega) hT;exact ret_calls this
namespace Cm
theorem checkG_step {m:Int}{last:Option Int}{l:List Mp}{i:Nat}(hi:i < l.length):checkG m last (l.drop i) =
  if l[i].1 < 0∨m < l[i].1 then 2 else if Lib.validD l[i].2=false then 3 else if 512 < (units l[i].2).length then 5 else if last=some l[i].1 then 9 else if last.any (fun n=>decide (l[i].1 < n)) then 1 else checkG m (some l[i].1) (l.drop (i+1)):=by
 rw[List.drop_eq_getElem_cons hi,checkG]
def prev (l:List Mp):Nat→Option Int
|0=>none
|i+1=>(l[i]?).map (·.1)
end Cm
namespace Cm
theorem prev_succ {l:List Mp}{i:Nat}(hi:i < l.length):prev l (i+1)=some l[i].1:=by simp[prev,hi]
theorem prev_pos {l:List Mp}{i:Nat}(h0:i≠0)(hi:i < l.length):prev l i=some (l[i - 1]'(by omega)).1:=by
 obtain⟨j,rfl⟩:∃j,i=j+1:=⟨i - 1,by omega⟩;exact prev_succ (by omega)
end Cm
theorem ccheck46_ret (l:List Cm.Mp)(wide:Bool)(v:Value)(M:Mem)(w:World)(hut:UtM M)(hl:l.length≤1000000000)(hb:∀x∈l,x.2.length≤100000000)(hM:M.has w)(hs:SlA M.A M.w v 2 l.length (mpsC l)) :
  RetM prog 31 #[v,.bool wide] M w (fun r _=>r=.int .i64 (Cm.check l wide)):=by
 refine retM_of hM fun K hK=>S_cmap_Check_ok ?_;unfold S_cmap_Check;generalize hX:Cm.check l wide=X at hK;unfold Cm.check at hX;have go:S_cmap_Check_0 v (.int .i64 (Cm.most wide)) w K:=by
  unfold S_cmap_Check_0;rw[sl_len Tryz.underlying24 (hs.now hM)]
  try simp only[rs]
  by_cases h1:(4096:Int) < (l.length:Int)
  ·rw[if_pos (by omega)] at hX;simp only[decide_eq_true h1,i_t];exact hK _ _ M _ 0 (OwnS.memS hM) rfl M.le_refl (by rw[←hX])
  rw[if_neg (by omega)] at hX;simp only[decide_eq_false h1,i_f];rw[sl_len Tryz.underlying24 (hs.now hM)];generalize hmm:Cm.most wide=most at *;have hmost:0≤most∧most≤65535:=by rw[←hmm];cases wide<;>decide
  have fin:∀{W:World} {L:List Ent} {e:Int} (j:Nat),OwnS M.A w W L→L[j]?=some (.mem M)→X=e→K (.returned (.int .i64 e)) W:=fun j ho hj he=>hK _ _ M _ j ho hj M.le_refl (by rw[he]);refine loop (fun vs W=>∃i:Nat,vs=[.int .i64 (i:Int)]∧i≤l.length∧Cm.checkG most (Cm.prev l i) (l.drop i)=X∧OwnS M.A w W [.mem M]) (fun vs _=>l.length - n0 vs) ⟨0,rfl,by omega,hX,OwnS.memS hM⟩ ?_;clear hX;rintro vs w2 ⟨i,rfl,hi,hX,ho⟩ _;simp only[S_cmap_Check_1,gd,rs];by_cases hlt:(i:Int) < (l.length:Int)
  case neg=>
   simp only[decide_eq_false hlt,i_f];rw[List.drop_of_length_le (by omega)] at hX;exact fin 0 ho rfl hX.symm
  simp only[decide_eq_true hlt,i_t];have hi':i < l.length:=by omega
  rw[Cm.checkG_step hi'] at hX;obtain⟨g,off,hia,hcell,hld⟩:=mp_cells hs hi';have hbx:=hb l[i] (List.getElem_mem hi');rw[do_eq (hia w2),do_eq (hld w2 (ho.hasM 0 rfl))];refine o_mpa ho fun b w3 ho=>?_;refine mp_put (y:=l[i]) 0 ho rfl fun w4 ho=>?_;have ho:OwnS M.A w w4 [mpE b l[i],.mem M]:=ho;rw[fa_m0,l_cell nInt5 (ho.cell 0 rfl 0 rfl)]
  try simp only[rs]
  by_cases a1:l[i].1 < 0
  ·rw[if_pos (.inl a1)] at hX;simp only[decide_eq_true a1,rs,g_un,i_t];exact fin 1 ho rfl hX.symm
  simp only[decide_eq_false a1,rs];rw[fa_m0,l_cell nInt5 (ho.cell 0 rfl 0 rfl)]
  try simp only[rs]
  by_cases a2:most < l[i].1
  ·rw[if_pos (.inr a2)] at hX;simp only[decide_eq_true a2,rs,i_t];exact fin 1 ho rfl hX.symm
  rw[if_neg (by omega)] at hX;simp only[decide_eq_false a2,rs,i_f];rw[fa_m1,l_cell nStr5 (ho.cell 0 rfl 1 rfl)];refine c_below ho (R:=fun v=>v=.bool (Lib.validD l[i].2)) (valid_ret l[i].2 w4 (by omega) (hut w4 (ho.hasM 1 rfl))) ?_;rintro _ w5 rfl ho
  try simp only[rs]
  cases hv:Lib.validD l[i].2 with
 |false=>
   rw[if_pos hv] at hX;simp only[Bool.not_false,i_t];exact fin 1 ho rfl hX.symm
 |true=>
  rw[if_neg (by rw[hv];decide)] at hX;simp only[Bool.not_true,i_f];rw[fa_m1,l_cell nStr5 (ho.cell 0 rfl 1 rfl)];refine c_below ho (R:=fun v=>v=.string ⟨(Cm.units l[i].2).toArray⟩) (units46_ret l[i].2 w5 (by omega)) ?_;rintro _ w6 rfl ho;rw[s_len Tryz.underlying9]
  try simp only[rs]
  by_cases a3:(512:Int) < ((Cm.units l[i].2).length:Int)
  ·rw[if_pos (by omega)] at hX;simp only[decide_eq_true a3,i_t];exact fin 1 ho rfl hX.symm
  rw[if_neg (by omega)] at hX;simp only[decide_eq_false a3,i_f];by_cases h0:i=0
  ·subst h0;rw[show Cm.prev l 0=none from rfl,if_neg (by simp),if_neg (by simp)] at hX;refine quiet (q_gtr ?_);simp only[show decide ((0:Int) < ((0:Nat):Int))=false from rfl,gq_ft,gq_un];refine q_pf ?_;intro w7 hb7;have ho:=ho.grow hb7;simp only[i_f];refine quiet (q_gtr ?_);simp only[show decide ((0:Int) < ((0:Nat):Int))=false from rfl,gq_ft,gq_un];refine q_pf ?_;intro w8 hb8;have ho:=ho.grow hb8;simp only[i_f,rs];rw[wrap64_id (by omega) (by omega)];exact nextX ⟨1,rfl,by omega,by rw[Cm.prev_succ hi'];exact hX,ho.tail⟩ (by simp[n0,RowKit.intOf];omega)
  rw[Cm.prev_pos h0 hi'] at hX;have hi1:i - 1 < l.length:=by omega
  obtain⟨g2,off2,hia2,hcell2,hld2⟩:=mp_cells hs hi1;have e1:IntKind.wrap .i64 ((i:Int) - 1)=((i - 1:Nat):Int):=by rw[wrap64_id (by omega) (by omega)];omega
  have gt0:decide ((0:Int) < (i:Int))=true:=decide_eq_true (by omega);refine quietC (fun W=>OwnS M.A w W [mpE b l[i],.mem M]) ho.drew ?_;refine q_gtr ?_;simp only[gt0,gq_tt];refine q_do _ (fun _=>r_fam0) ?_;refine q_at (.int .i64 l[i].1) (fun W h=>run_load_cell nInt5 (h.cell 0 rfl 0 rfl)) ?_;refine q_do (.int .i64 ((i - 1:Nat):Int)) (fun _=>by rw[r_sub,e1]) ?_;refine q_do _ (fun W=>hia2 W) ?_;refine q_do _ (fun _=>r_fam0) ?_;refine q_at (.int .i64 l[i - 1].1) (fun W h=>run_load_cell nInt5 (hcell2 W (h.hasM 1 rfl)).1) ?_;refine q_eq ?_;refine q_pt ?_;intro w7 ho;by_cases a4:l[i].1=l[i - 1].1
  ·rw[if_pos (by rw[a4])] at hX;simp only[decide_eq_true a4,i_t];exact fin 1 ho rfl hX.symm
  rw[if_neg (fun h=>a4 (Option.some.inj h).symm)] at hX;simp only[decide_eq_false a4,i_f];refine quietC (fun W=>OwnS M.A w W [mpE b l[i],.mem M]) ho.drew ?_;refine q_gtr ?_;simp only[gt0,gq_tt];refine q_do _ (fun _=>r_fam0) ?_;refine q_at (.int .i64 l[i].1) (fun W h=>run_load_cell nInt5 (h.cell 0 rfl 0 rfl)) ?_;refine q_do (.int .i64 ((i - 1:Nat):Int)) (fun _=>by rw[r_sub,e1]) ?_;refine q_do _ (fun W=>hia2 W) ?_;refine q_do _ (fun _=>r_fam0) ?_;refine q_at (.int .i64 l[i - 1].1) (fun W h=>run_load_cell nInt5 (hcell2 W (h.hasM 1 rfl)).1) ?_;refine q_lss ?_;refine q_pt ?_;intro w8 ho;by_cases a5:l[i].1 < l[i - 1].1
  ·rw[if_pos (by simpa using a5)] at hX;simp only[decide_eq_true a5,i_t];exact fin 1 ho rfl hX.symm
  rw[if_neg (by simpa using a5)] at hX;simp only[decide_eq_false a5,i_f,rs];rw[wrap64_id (by omega) (by omega)];exact nextX ⟨i+1,rfl,by omega,by rw[Cm.prev_succ hi'];exact hX,ho.tail⟩ (by simp[n0,RowKit.intOf];omega)
 refine join fun J hJ=>?_;cases wide with
|true=>simp only[i_t];exact hJ _ _ fun _=>go
|false=>simp only[i_f];exact hJ _ _ fun _=>go
theorem rcheck46_ret (l:List Cm.Mp)(wide:Bool)(v:Value)(M:Mem)(w:World)(hl:l.length≤1000000000)(hb:∀x∈l,x.2.length≤100000000)(hM:M.has w)(hs:SlA M.A M.w v 2 l.length (mpsC l)) :
  RetM prog 34 #[v,.bool wide] M w (fun r _=>r=.int .i64 (Cm.check l wide)):=by
 refine retM_of hM fun K hK=>S_foliantref46_Check_ok ?_;unfold S_foliantref46_Check;generalize hX:Cm.check l wide=X at hK;unfold Cm.check at hX;have go:S_foliantref46_Check_0 v (.int .i64 (Cm.most wide)) w K:=by
  unfold S_foliantref46_Check_0;rw[sl_len Tryz.underlying24 (hs.now hM)]
  try simp only[rs]
  by_cases h1:(4096:Int) < (l.length:Int)
  ·rw[if_pos (by omega)] at hX;simp only[decide_eq_true h1,i_t];exact hK _ _ M _ 0 (OwnS.memS hM) rfl M.le_refl (by rw[←hX])
  rw[if_neg (by omega)] at hX;simp only[decide_eq_false h1,i_f];generalize hmm:Cm.most wide=most at *;have hmost:0≤most∧most≤65535:=by rw[←hmm];cases wide<;>decide
  have fin:∀{W:World} {L:List Ent} {e:Int} (j:Nat),OwnS M.A w W L→L[j]?=some (.mem M)→X=e→K (.returned (.int .i64 e)) W:=fun j ho hj he=>hK _ _ M _ j ho hj M.le_refl (by rw[he]);refine loop (fun vs W=>∃i:Nat,vs=[.int .i64 (i:Int)]∧i≤l.length∧Cm.checkG most (Cm.prev l i) (l.drop i)=X∧OwnS M.A w W [.mem M]) (fun vs _=>l.length - n0 vs) ⟨0,rfl,by omega,hX,OwnS.memS hM⟩ ?_;clear hX;rintro vs w2 ⟨i,rfl,hi,hX,ho⟩ _;simp only[S_foliantref46_Check_1,gd];rw[sl_len Tryz.underlying24 (hs.now (ho.hasM 0 rfl))]
  try simp only[rs]
  by_cases hlt:(i:Int) < (l.length:Int)
  case neg=>
   simp only[decide_eq_false hlt,i_f];rw[List.drop_of_length_le (by omega)] at hX;exact fin 0 ho rfl hX.symm
  simp only[decide_eq_true hlt,i_t];have hi':i < l.length:=by omega
  rw[Cm.checkG_step hi'] at hX;obtain⟨g,off,hia,hcell,hld⟩:=mp_cells hs hi';have hbx:=hb l[i] (List.getElem_mem hi');rw[do_eq (hia w2),fa_m0,l_cell nInt5 (hcell w2 (ho.hasM 0 rfl)).1]
  try simp only[rs]
  by_cases a1:l[i].1 < 0
  ·rw[if_pos (.inl a1)] at hX;simp only[decide_eq_true a1,rs,g_un,i_t];exact fin 0 ho rfl hX.symm
  simp only[decide_eq_false a1,rs];rw[do_eq (hia w2),fa_m0,l_cell nInt5 (hcell w2 (ho.hasM 0 rfl)).1]
  try simp only[rs]
  by_cases a2:most < l[i].1
  ·rw[if_pos (.inr a2)] at hX;simp only[decide_eq_true a2,rs,i_t];exact fin 0 ho rfl hX.symm
  rw[if_neg (by omega)] at hX;simp only[decide_eq_false a2,rs,i_f];rw[do_eq (hia w2),fa_m1,l_cell nStr5 (hcell w2 (ho.hasM 0 rfl)).2];refine c_below ho (R:=fun v=>v=.bool (Lib.validD l[i].2)) (rutf8_ret l[i].2 w2 (by omega)) ?_;rintro _ w5 rfl ho
  try simp only[rs]
  cases hv:Lib.validD l[i].2 with
 |false=>
   rw[if_pos hv] at hX;simp only[Bool.not_false,i_t];exact fin 0 ho rfl hX.symm
 |true=>
  rw[if_neg (by rw[hv];decide)] at hX;simp only[Bool.not_true,i_f];rw[do_eq (hia w5),fa_m1,l_cell nStr5 (hcell w5 (ho.hasM 0 rfl)).2];refine c_below ho (R:=fun v=>v=.string ⟨(Cm.units l[i].2).toArray⟩) (runits46_ret l[i].2 w5 (by omega)) ?_;rintro _ w6 rfl ho;rw[s_len Tryz.underlying9]
  try simp only[rs]
  by_cases a3:(512:Int) < ((Cm.units l[i].2).length:Int)
  ·rw[if_pos (by omega)] at hX;simp only[decide_eq_true a3,i_t];exact fin 0 ho rfl hX.symm
  rw[if_neg (by omega)] at hX;simp only[decide_eq_false a3,i_f];by_cases h0:i=0
  ·subst h0;rw[show Cm.prev l 0=none from rfl,if_neg (by simp),if_neg (by simp)] at hX;refine quiet (q_gtr ?_);simp only[show decide ((0:Int) < ((0:Nat):Int))=false from rfl,gq_ft,gq_un];refine q_pf ?_;intro w7 hb7;have ho:=ho.grow hb7;simp only[i_f];refine quiet (q_gtr ?_);simp only[show decide ((0:Int) < ((0:Nat):Int))=false from rfl,gq_ft,gq_un];refine q_pf ?_;intro w8 hb8;have ho:=ho.grow hb8;simp only[i_f,rs];rw[wrap64_id (by omega) (by omega)];exact nextX ⟨1,rfl,by omega,by rw[Cm.prev_succ hi'];exact hX,ho⟩ (by simp[n0,RowKit.intOf];omega)
  rw[Cm.prev_pos h0 hi'] at hX;have hi1:i - 1 < l.length:=by omega
  obtain⟨g2,off2,hia2,hcell2,hld2⟩:=mp_cells hs hi1;have e1:IntKind.wrap .i64 ((i:Int) - 1)=((i - 1:Nat):Int):=by rw[wrap64_id (by omega) (by omega)];omega
  have gt0:decide ((0:Int) < (i:Int))=true:=decide_eq_true (by omega);refine quietC (fun W=>OwnS M.A w W [.mem M]) ho.drew ?_;refine q_gtr ?_;simp only[gt0,gq_tt];refine q_do _ (fun W=>hia W) ?_;refine q_do _ (fun _=>r_fam0) ?_;refine q_at (.int .i64 l[i].1) (fun W h=>run_load_cell nInt5 ((hcell W (h.hasM 0 rfl)).1)) ?_;refine q_do (.int .i64 ((i - 1:Nat):Int)) (fun _=>by rw[r_sub,e1]) ?_;refine q_do _ (fun W=>hia2 W) ?_;refine q_do _ (fun _=>r_fam0) ?_;refine q_at (.int .i64 l[i - 1].1) (fun W h=>run_load_cell nInt5 (hcell2 W (h.hasM 0 rfl)).1) ?_;refine q_eq ?_;refine q_pt ?_;intro w7 ho;by_cases a4:l[i].1=l[i - 1].1
  ·rw[if_pos (by rw[a4])] at hX;simp only[decide_eq_true a4,i_t];exact fin 0 ho rfl hX.symm
  rw[if_neg (fun h=>a4 (Option.some.inj h).symm)] at hX;simp only[decide_eq_false a4,i_f];refine quietC (fun W=>OwnS M.A w W [.mem M]) ho.drew ?_;refine q_gtr ?_;simp only[gt0,gq_tt];refine q_do _ (fun W=>hia W) ?_;refine q_do _ (fun _=>r_fam0) ?_;refine q_at (.int .i64 l[i].1) (fun W h=>run_load_cell nInt5 ((hcell W (h.hasM 0 rfl)).1)) ?_;refine q_do (.int .i64 ((i - 1:Nat):Int)) (fun _=>by rw[r_sub,e1]) ?_;refine q_do _ (fun W=>hia2 W) ?_;refine q_do _ (fun _=>r_fam0) ?_;refine q_at (.int .i64 l[i - 1].1) (fun W h=>run_load_cell nInt5 (hcell2 W (h.hasM 0 rfl)).1) ?_;refine q_lss ?_;refine q_pt ?_;intro w8 ho;by_cases a5:l[i].1 < l[i - 1].1
  ·rw[if_pos (by simpa using a5)] at hX;simp only[decide_eq_true a5,i_t];exact fin 0 ho rfl hX.symm
  rw[if_neg (by simpa using a5)] at hX;simp only[decide_eq_false a5,i_f,rs];rw[wrap64_id (by omega) (by omega)];exact nextX ⟨i+1,rfl,by omega,by rw[Cm.prev_succ hi'];exact hX,ho⟩ (by simp[n0,RowKit.intOf];omega)
 refine join fun J hJ=>?_;cases wide with
|true=>simp only[i_t];exact hJ _ _ fun _=>go
|false=>simp only[i_f];exact hJ _ _ fun _=>go
theorem find1_plain:plainB prog 53=true:=by kernel_rfl
theorem cfind46_ret (l:List Cm.Mp)(n:Int)(v:Value)(M:Mem)(w:World)(hl:l.length≤1000000000)(hM:M.has w)(hs:SlA M.A M.w v 2 l.length (mpsC l)) :
  RetM prog 26 #[v,.int .i64 n] M w (fun r _=>r=.tuple #[.string ⟨((Cm.find l n).map (·.2) |>.getD []).toArray⟩,.bool (Cm.find l n).isSome]):=by
 refine retM_of hM fun K hK=>S_cmap_Find_ok ?_;unfold S_cmap_Find;have hfi:Cm.find l n=l[l.findIdx (fun x=>decide (x.1=n))]?:=find_idx _ _;rw[hfi] at hK;refine o_nb n (OwnS.memS hM) fun b3 w1 ho=>?_;rw[m_func];refine c_below ho (R:=fun u=>u=.int .i64 (if l.findIdx (fun x=>decide (x.1=n)) < l.length then ((l.findIdx (fun x=>decide (x.1=n)):Nat):Int) else -1)) ?_ ?_
 ·refine ret_of fun K hK=>S_slices_IndexFunc_foliant_api_Map_foliant_api_Map_ok ?_;unfold S_slices_IndexFunc_foliant_api_Map_foliant_api_Map;have hM1:=ho.hasM 1 rfl;have hcb:(Ent.cells b3 [.int .i64 n] 3).is w1:=ho.at_ 0 rfl;rw[sl_len Tryz.underlying24 (hs.now hM1)];refine loop (fun vs W=>∃i:Nat,vs=[.int .i64 (i:Int)]∧i≤l.length∧(∀m (h:m < l.length),m < i→decide (l[m].1=n)=false)∧Own w1 W []) (fun vs _=>l.length - n0 vs) ⟨0,rfl,by omega,fun m _ h=>by omega,Own.start w1⟩ ?_;rintro vs w2 ⟨i,rfl,hi,hlo,ho⟩ _;simp only[S_slices_IndexFunc_foliant_api_Map_foliant_api_Map_0,gd,rs];have hM2:M.has w2:=Mem.has_below hM1 ho.done;have hcb2:(Ent.cells b3 [.int .i64 n] 3).is w2:=(Ent.cells b3 [.int .i64 n] 3).keep hcb fun k hk=>ho.done.block k ((Ent.cells b3 [.int .i64 n] 3).lt hcb k hk);by_cases hlt:(i:Int) < (l.length:Int)
  case neg=>
   simp only[decide_eq_false hlt,i_f];refine hK _ _ ⟨?_,ho.done⟩;rw[if_neg];intro h;have h1:=hlo _ h (by omega);have h2:=List.findIdx_getElem (w:=h);rw[h1] at h2;cases h2
  simp only[decide_eq_true hlt,i_t];have hi':i < l.length:=by omega
  obtain⟨g,off,hia,hcell,hld⟩:=mp_cells hs hi';rw[do_eq (hia w2),do_eq (hld w2 hM2)];refine c_val find1_plain ?_;show CallX prog 53 #[mpV l[i],.pointer (some ⟨b3,0,none⟩)] w2 _ _;refine c_below ho (R:=fun u=>u=.bool (decide (l[i].1=n))) ?_ ?_
  ·refine ret_of fun K hK=>S_cmap_Find_1_ok ?_;unfold S_cmap_Find_1;refine o_mpb l[i] (Own.start w2) fun b w3 ho=>?_;rw[fa_m0,l_cell nInt5 (ho.cell 0 rfl 0 rfl),l_cell nInt5 (ho.old (cells_cell (T:=3) hcb2 (i:=0) rfl))]
   try simp only[rs]
   exact hK _ _ ⟨rfl,ho.done⟩
  rintro _ w3 rfl ho;by_cases he:l[i].1=n
  ·simp only[decide_eq_true he,i_t];have hix:=findIdx_at (p:=fun x:Cm.Mp=>decide (x.1=n)) hi' hlo (by simp[he]);exact hK _ _ ⟨by rw[hix,if_pos hi'],ho.done⟩
  simp only[decide_eq_false he,i_f]
  try simp only[rs]
  rw[wrap64_id (by omega) (by omega)];refine nextX ⟨i+1,rfl,by omega,fun m hm hmi=>?_,ho⟩ (by simp[n0,RowKit.intOf];omega);rcases Nat.lt_or_ge m i with h|h
  ·exact hlo m hm h
  ·have:m=i:=by omega
   subst this;exact decide_eq_false he
 rintro _ w2 rfl ho;by_cases hix:l.findIdx (fun x=>decide (x.1=n)) < l.length
 ·rw[if_pos hix];rw[List.getElem?_eq_getElem hix] at hK;generalize l.findIdx (fun x=>decide (x.1=n))=i at *;simp only[rs,decide_eq_false (show ¬((i:Int) < 0) by omega),i_f];obtain⟨g,off,hia,hcell,hld⟩:=mp_cells hs hix;rw[do_eq (hia w2),fa_m1,l_cell nStr5 (hcell w2 (ho.hasM 1 rfl)).2];exact hK _ _ M _ 1 ho rfl M.le_refl rfl
 ·rw[if_neg hix];rw[List.getElem?_eq_none (by omega)] at hK;simp only[rs,show decide ((-1:Int) < 0)=true from rfl,i_t];exact hK _ _ M _ 1 ho rfl M.le_refl rfl
theorem rfind46_ret (l:List Cm.Mp)(n:Int)(v:Value)(M:Mem)(w:World)(hl:l.length≤1000000000)(hM:M.has w)(hs:SlA M.A M.w v 2 l.length (mpsC l)) :
  RetM prog 27 #[v,.int .i64 n] M w (fun r _=>r=.tuple #[.string ⟨((Cm.find l n).map (·.2) |>.getD []).toArray⟩,.bool (Cm.find l n).isSome]):=by
 refine retM_of hM fun K hK=>S_foliantref46_Find_ok ?_;unfold S_foliantref46_Find;have hfi:Cm.find l n=l[l.findIdx (fun x=>decide (x.1=n))]?:=find_idx _ _;rw[hfi] at hK;refine loop (fun vs W=>∃i:Nat,vs=[.int .i64 (i:Int)]∧i≤l.length∧(∀m (h:m < l.length),m < i→decide (l[m].1=n)=false)∧OwnS M.A w W [.mem M]) (fun vs _=>l.length - n0 vs) ⟨0,rfl,by omega,fun m _ h=>by omega,OwnS.memS hM⟩ ?_;rintro vs w2 ⟨i,rfl,hi,hlo,ho⟩ _;simp only[S_foliantref46_Find_0,gd];rw[sl_len Tryz.underlying24 (hs.now (ho.hasM 0 rfl))]
 try simp only[rs]
 by_cases hlt:(i:Int) < (l.length:Int)
 case neg=>
  simp only[decide_eq_false hlt,i_f];rw[List.getElem?_eq_none (Nat.not_lt.1 fun h=>by
   have h1:=hlo _ h (by omega);have h2:=List.findIdx_getElem (w:=h);rw[h1] at h2;cases h2)] at hK
  exact hK _ _ M _ 0 ho rfl M.le_refl rfl
 simp only[decide_eq_true hlt,i_t];have hi':i < l.length:=by omega
 obtain⟨g,off,hia,hcell,hld⟩:=mp_cells hs hi';rw[do_eq (hia w2),fa_m0,l_cell nInt5 (hcell w2 (ho.hasM 0 rfl)).1]
 try simp only[rs]
 by_cases he:l[i].1=n
 ·simp only[decide_eq_true he,i_t];have hix:=findIdx_at (p:=fun x:Cm.Mp=>decide (x.1=n)) hi' hlo (by simp[he]);rw[hix,List.getElem?_eq_getElem hi'] at hK;rw[do_eq (hia w2),fa_m1,l_cell nStr5 (hcell w2 (ho.hasM 0 rfl)).2];exact hK _ _ M _ 0 ho rfl M.le_refl rfl
 simp only[decide_eq_false he,i_f]
 try simp only[rs]
 rw[wrap64_id (by omega) (by omega)];refine nextX ⟨i+1,rfl,by omega,fun m hm hmi=>?_,ho⟩ (by simp[n0,RowKit.intOf];omega);rcases Nat.lt_or_ge m i with h|h
 ·exact hlo m hm h
 ·have:m=i:=by omega
  subst this;exact decide_eq_false he
end
section
open Eng Go.RowKit
def intsW (l:List Int):List Value:=l.map fun n=>.int .i64 n
theorem intsW_one {l:List Int}:∀x∈intsW l,x.oneCell'=true:=by
 intro x hx;obtain⟨n,-,rfl⟩:=List.mem_map.1 hx;rfl
theorem intsW_get {l:List Int}{i:Nat}(h:i < l.length):(intsW l)[i]?=some (.int .i64 l[i]):=by simp[intsW,h]
theorem elInt:elB prog 3 1 8=true:=by kernel_rfl
section
variable {w:World}{PK:PKT}{K:VWP}{S:Nat→Prop}{w0:World}{L:List Ent}
theorem o_ints1 (n:Int)(ho:OwnS S w0 w L)(k:∀b w',OwnS S w0 w' (.cells b (intsW [n]) 3::L)→K (.slice (some ⟨b,0,none⟩) 1 1) w'):DoX prog (mBuildS 29 1 #[(0,.int .i64 n)]) w PK K:=
 o_new (fun b=>.slice (some ⟨b,0,none⟩) 1 1) (intsW [n]) 3 (fun _=>by kernel_rfl) ho k
theorem o_apInt (i:Nat){v v2:Value}{n m:Nat}{xs news:List Value}{cb:Array Bool}(ho:OwnS S w0 w L)(hi:L[i]?=some (.urow 3 1 v n xs))(hs:Sl w v2 1 m news)(h1:∀u∈news,u.oneCell'=true)(hb:n+m≤100000000000)
  (k:∀v' w',OwnS S w0 w' (L.set i (.urow 3 1 v' (n+m) (xs++news)))→K v' w'):DoX prog (mB .append #[29,29] 29 cb #[v,v2]) w PK K:=
 o_appendU i Tryz.underlying29 elInt (by decide) ho hi hs h1 (by omega) (by omega) k
end
end
section
open Eng Go.RowKit
def ftC (f:Ft)(wv nv mv:Value):List Value:=[.string ⟨f.name.toArray⟩,.bool f.wide,.int .i64 f.first,wv,.int .i64 f.missing,nv,mv]
def ftV (f:Ft)(wv nv mv:Value):Value:=.agg (ftC f wv nv mv).toArray
abbrev ftE (b:Nat)(f:Ft)(wv nv mv:Value):Ent:=.cells b (ftC f wv nv mv) 26
theorem aggFt:aggN prog 26=some 7:=by kernel_rfl
theorem szFt:(Tryz.prog.info? 26).map (·.size)=some 7:=by kernel_rfl
theorem nBool47:notAgg prog 4=true:=by kernel_rfl
theorem nSlI64:notAgg prog 22=true:=by kernel_rfl
theorem nSlMp:notAgg prog 24=true:=by kernel_rfl
structure FtAt (M:Mem) (f:Ft) (wv nv mv:Value):Prop where
 ws:SlA M.A M.w wv 1 f.widths.length (intsW f.widths)
 ns:SlA M.A M.w nv 1 f.names.length (strsV f.names)
 ms:SlA M.A M.w mv 2 f.maps.length (mpsC f.maps)
theorem FtAt.le {M N:Mem}{f:Ft}{wv nv mv:Value}(h:FtAt M f wv nv mv)(hle:M.le N):FtAt N f wv nv mv:=⟨h.ws.le hle,h.ns.le hle,h.ms.le hle⟩
theorem ftC_one {f:Ft}{wv nv mv:Value}(h1:wv.oneCell'=true)(h2:nv.oneCell'=true)(h3:mv.oneCell'=true):∀v∈ftC f wv nv mv,v.oneCell'=true:=by
 intro v hv;simp only[ftC,List.mem_cons,List.not_mem_nil,or_false] at hv;rcases hv with rfl|rfl|rfl|rfl|rfl|rfl|rfl<;>first|rfl|assumption
structure FtOk (f:Ft):Prop where
 name:f.name.length≤100000000
 wl:f.widths.length≤100000000
 nl:f.names.length≤100000000
 nms:∀s∈f.names,s.length≤100000000
 ml:f.maps.length≤100000000
 ms:∀x∈f.maps,x.2.length≤100000000
 first:-9223372036854775808≤f.first∧f.first≤9223372036854775807
section
variable {w:World}{PK:PKT}{K:VWP}{S:Nat→Prop}{w0:World}{L:List Ent}
theorem o_ftb (f:Ft){M:Mem}{wv nv mv:Value}(h:FtAt M f wv nv mv)(ho:OwnS S w0 w L)(k:∀b w',OwnS S w0 w' (ftE b f wv nv mv::L)→K (.pointer (some ⟨b,0,none⟩)) w'):DoX prog (mBox 26 (ftV f wv nv mv)) w PK K:=by
 obtain⟨a1,c1,rfl,_⟩:=h.ws.form;obtain⟨a2,c2,rfl,_⟩:=h.ns.form;obtain⟨a3,c3,rfl,_⟩:=h.ms.form;exact o_new (fun b=>.pointer (some ⟨b,0,none⟩)) (ftC f _ _ _) 26 (fun _=>by kernel_rfl) ho k
theorem fa_f0 {b off:Nat}:DoX prog (mFA 26 (.pointer (some ⟨b,off,none⟩)) 0) w PK K=K (.pointer (some ⟨b,off+0,none⟩)) w:=f_addr (o:=0) (by kernel_rfl)
theorem fa_f1 {b off:Nat}:DoX prog (mFA 26 (.pointer (some ⟨b,off,none⟩)) 1) w PK K=K (.pointer (some ⟨b,off+1,none⟩)) w:=f_addr (o:=1) (by kernel_rfl)
theorem fa_f2 {b off:Nat}:DoX prog (mFA 26 (.pointer (some ⟨b,off,none⟩)) 2) w PK K=K (.pointer (some ⟨b,off+2,none⟩)) w:=f_addr (o:=2) (by kernel_rfl)
theorem fa_f3 {b off:Nat}:DoX prog (mFA 26 (.pointer (some ⟨b,off,none⟩)) 3) w PK K=K (.pointer (some ⟨b,off+3,none⟩)) w:=f_addr (o:=3) (by kernel_rfl)
theorem fa_f4 {b off:Nat}:DoX prog (mFA 26 (.pointer (some ⟨b,off,none⟩)) 4) w PK K=K (.pointer (some ⟨b,off+4,none⟩)) w:=f_addr (o:=4) (by kernel_rfl)
theorem fa_f5 {b off:Nat}:DoX prog (mFA 26 (.pointer (some ⟨b,off,none⟩)) 5) w PK K=K (.pointer (some ⟨b,off+5,none⟩)) w:=f_addr (o:=5) (by kernel_rfl)
theorem fa_f6 {b off:Nat}:DoX prog (mFA 26 (.pointer (some ⟨b,off,none⟩)) 6) w PK K=K (.pointer (some ⟨b,off+6,none⟩)) w:=f_addr (o:=6) (by kernel_rfl)
theorem ft_name (ho:OwnS S w0 w L)(i:Nat){b:Nat}{f:Ft}{wv nv mv:Value}(hi:L[i]?=some (ftE b f wv nv mv)):DoX prog (mLoad 9 (.pointer (some ⟨b,0+0,none⟩))) w PK K=K (.string ⟨f.name.toArray⟩) w:=l_cell nStr5 (ho.cell i hi 0 rfl)
theorem ft_wide (ho:OwnS S w0 w L)(i:Nat){b:Nat}{f:Ft}{wv nv mv:Value}(hi:L[i]?=some (ftE b f wv nv mv)):DoX prog (mLoad 4 (.pointer (some ⟨b,0+1,none⟩))) w PK K=K (.bool f.wide) w:=l_cell nBool47 (ho.cell i hi 1 rfl)
theorem ft_first (ho:OwnS S w0 w L)(i:Nat){b:Nat}{f:Ft}{wv nv mv:Value}(hi:L[i]?=some (ftE b f wv nv mv)):DoX prog (mLoad 3 (.pointer (some ⟨b,0+2,none⟩))) w PK K=K (.int .i64 f.first) w:=l_cell nInt5 (ho.cell i hi 2 rfl)
theorem ft_ws (ho:OwnS S w0 w L)(i:Nat){b:Nat}{f:Ft}{wv nv mv:Value}(hi:L[i]?=some (ftE b f wv nv mv)):DoX prog (mLoad 22 (.pointer (some ⟨b,0+3,none⟩))) w PK K=K (wv) w:=l_cell nSlI64 (ho.cell i hi 3 rfl)
theorem ft_miss (ho:OwnS S w0 w L)(i:Nat){b:Nat}{f:Ft}{wv nv mv:Value}(hi:L[i]?=some (ftE b f wv nv mv)):DoX prog (mLoad 2 (.pointer (some ⟨b,0+4,none⟩))) w PK K=K (.int .i64 f.missing) w:=l_cell nI65 (ho.cell i hi 4 rfl)
theorem ft_nms (ho:OwnS S w0 w L)(i:Nat){b:Nat}{f:Ft}{wv nv mv:Value}(hi:L[i]?=some (ftE b f wv nv mv)):DoX prog (mLoad 23 (.pointer (some ⟨b,0+5,none⟩))) w PK K=K (nv) w:=l_cell nSlS47 (ho.cell i hi 5 rfl)
theorem ft_mps (ho:OwnS S w0 w L)(i:Nat){b:Nat}{f:Ft}{wv nv mv:Value}(hi:L[i]?=some (ftE b f wv nv mv)):DoX prog (mLoad 24 (.pointer (some ⟨b,0+6,none⟩))) w PK K=K (mv) w:=l_cell nSlMp (ho.cell i hi 6 rfl)
end
theorem named47_ret (s:List UInt8)(n:Nat)(w:World)(hn:n≤1000):Ret prog 56 #[.string ⟨s.toArray⟩,.int .i64 (n:Int)] w (fun v w'=>v=.bool (Fo.named s n)∧w=w'):=by
 refine ret_of fun K hK=>S_font_named_ok ?_;unfold S_font_named;unfold Fo.named at hK;rw[s_len Tryz.underlying9]
 try simp only[rs]
 by_cases h1:(n:Int)≤(s.length:Int)
 case neg=>
  rw[decide_eq_false (show ¬n≤s.length by omega)] at hK;simp only[decide_eq_false h1,rs,g_un];exact hK _ _ ⟨rfl,rfl⟩
 rw[decide_eq_true (show n≤s.length by omega)] at hK;simp only[decide_eq_true h1,rs];rw[s_len Tryz.underlying9]
 try simp only[rs]
 by_cases h2:(s.length:Int)≤127
 case neg=>
  rw[decide_eq_false (show ¬s.length≤127 by omega)] at hK;simp only[decide_eq_false h2,rs,g_un];exact hK _ _ ⟨rfl,rfl⟩
 rw[decide_eq_true (show s.length≤127 by omega)] at hK;simp only[decide_eq_true h2,rs];have hi:∀{K':VWP},K' (.int .i64 (Lib.indexByte s 0)) w→CallX prog 91 #[.string ⟨s.toArray⟩,.int .u8 0] w (pk K) K':=fun hk=>c_eq (indexByte_ret s 0 w) hk;refine hi ?_
 try simp only[rs]
 refine hK _ _ ⟨?_,rfl⟩
 congr 1
 rw[Bool.true_and,Bool.true_and];have h:=Oc.indexByte_nonneg 0 s;by_cases hx:Lib.indexByte s 0 < 0
 ·rw[decide_eq_false (by omega)] at h;rw[decide_eq_true hx];refine (List.all_eq_true.2 fun c hc=>?_).symm;rw[decide_eq_true_eq];intro h0;subst h0;have:s.contains (0:UInt8)=true:=by simpa using hc
  simp_all
 ·rw[decide_eq_true (by omega)] at h;rw[decide_eq_false hx];refine (List.all_eq_false.2 ⟨0,?_,by simp⟩).symm;have:s.contains (0:UInt8)=true:=by simp_all
  simpa using this
theorem rname47_ret (s:List UInt8)(n:Nat)(w:World)(hn:n≤1000)(hsl:s.length≤1000000000):Ret prog 32 #[.string ⟨s.toArray⟩,.int .i64 (n:Int)] w (fun v w'=>v=.bool (Fo.named s n)∧w=w'):=by
 refine ret_of fun K hK=>S_foliantref47_name_ok ?_;unfold S_foliantref47_name;unfold Fo.named at hK;refine loop (fun vs W=>∃i:Nat,vs=[.int .i64 (i:Int)]∧i≤s.length∧(∀m (h:m < s.length),m < i→s[m]≠0)∧W=w) (fun vs _=>s.length - n0 vs) ⟨0,rfl,by omega,fun m _ h=>by omega,rfl⟩ ?_;rintro vs _ ⟨i,rfl,hi,hlo,rfl⟩ _;simp only[S_foliantref47_name_0,gd];rw[s_len Tryz.underlying9]
 try simp only[rs]
 by_cases hlt:(i:Int) < (s.length:Int)
 ·simp only[decide_eq_true hlt,i_t];have hi':i < s.length:=by omega
  rw[s_ix (c:=s[i]) Tryz.underlying9 (by omega) (by rw[Int.toNat_natCast];exact List.getElem?_eq_getElem hi')]
  try simp only[rs]
  by_cases h0:(s[i].toNat:Int)=0
  ·simp only[h0,decide_true,i_t];have hz:s[i]=0:=UInt8.toNat_inj.1 (by show s[i].toNat=0;omega);refine hK _ _ ⟨?_,rfl⟩;rw[show (s.all fun c=>decide (c≠0))=false from List.all_eq_false.2 ⟨s[i],List.getElem_mem hi',by simp[hz]⟩,Bool.and_false]
  simp only[decide_eq_false h0,i_f]
  try simp only[rs]
  rw[wrap64_id (by omega) (by omega)];refine nextX ⟨i+1,rfl,by omega,fun m hm hmi=>?_,rfl⟩ (by simp[n0,RowKit.intOf];omega);rcases Nat.lt_or_ge m i with h|h
  ·exact hlo m hm h
  ·have:m=i:=by omega
   subst this;intro hz;exact h0 (by rw[hz];rfl)
 simp only[decide_eq_false hlt,i_f];have hall:(s.all fun c=>decide (c≠0))=true:=List.all_eq_true.2 fun c hc=>by
  obtain⟨m,hm,rfl⟩:=List.getElem_of_mem hc;exact decide_eq_true (hlo m hm (by omega))
 rw[hall,Bool.and_true] at hK;rw[s_len Tryz.underlying9]
 try simp only[rs]
 by_cases h1:(n:Int)≤(s.length:Int)
 case neg=>
  rw[decide_eq_false (show ¬n≤s.length by omega)] at hK;simp only[decide_eq_false h1,rs,g_un];exact hK _ _ ⟨rfl,rfl⟩
 rw[decide_eq_true (show n≤s.length by omega)] at hK;simp only[decide_eq_true h1,rs];rw[s_len Tryz.underlying9]
 try simp only[rs]
 exact hK _ _ ⟨by rw[Bool.true_and,decide_eq_decide.2 (show (s.length:Int)≤127↔s.length≤127 by omega)],rfl⟩
theorem bounded47_ret (n:Int)(w:World):Ret prog 58 #[.int .i64 n,.int .i64 100000] w (fun v w'=>v=.bool (Fo.wid n)∧w=w'):=by
 refine ret_of fun K hK=>S_font_bounded_int64_ok ?_;unfold S_font_bounded_int64;unfold Fo.wid at hK
 try simp only[rs]
 by_cases h1:0≤n
 ·rw[decide_eq_true h1] at hK;simp only[decide_eq_true h1,rs];exact hK _ _ ⟨by rw[Bool.true_and],rfl⟩
 ·rw[decide_eq_false h1] at hK;simp only[decide_eq_false h1,rs,g_un];exact hK _ _ ⟨rfl,rfl⟩
theorem rwidth1_ret (n:Int)(w:World):Ret prog 33 #[.int .i64 n] w (fun v w'=>v=.bool (Fo.wid n)∧w=w'):=by
 refine ret_of fun K hK=>S_foliantref47_width_ok ?_;unfold S_foliantref47_width;unfold Fo.wid at hK
 try simp only[rs]
 by_cases h1:0≤n
 ·rw[decide_eq_true h1] at hK;simp only[decide_eq_true h1,rs];exact hK _ _ ⟨by rw[Bool.true_and],rfl⟩
 ·rw[decide_eq_false h1] at hK;simp only[decide_eq_false h1,rs,g_un];exact hK _ _ ⟨rfl,rfl⟩
theorem codes1_ret (b:Bool)(w:World):Ret prog 57 #[.bool b] w (fun v w'=>v=.int .i64 (Fo.room b)∧w=w'):=by
 refine ret_of fun K hK=>S_font_codes_ok ?_;unfold S_font_codes;cases b
 ·simp only[i_f];exact hK _ _ ⟨rfl,rfl⟩
 ·simp only[i_t];exact hK _ _ ⟨rfl,rfl⟩
theorem ret_sameC {f:Nat}{args:Array Value}{v:Value}{C:World→Prop}{w:World}(h:Ret prog f args w (fun v' w'=>v'=v∧w=w'))(hC:C w):Ret prog f args w (fun v' w'=>v'=v∧C w'):=
 h.mono fun v' w' ⟨a,b⟩=>⟨a,b▸hC⟩
end
section
open Eng
def S_foliantref05_Texts_0 (t0 t1 t12 t13:Value)(w:World)(N1:List Value→World→Prop)(K:Ending→World→Prop):Prop:=
 DoX prog (mBin .lss 3 t13 t12) w (pk K) fun t14 w=>
 IfX t14 (QuietX w (fun C2=>
 QDo prog C2 (mIA 23 t0 t13) fun t18=>
 QDo prog C2 (mLoad 9 t18) fun t19=>
 QDo prog C2 (mIA 23 t1 t13) fun t22=>
 QDo prog C2 (mLoad 9 t22) fun t23=>
 QDo prog C2 (mEq .neq 9 (.tmp 19) (.tmp 23) t19 t23) fun t24=>
 ∀w,C2 w →
 IfX t24 (K (.returned (.bool false)) w) (DoX prog (mBin .add 3 t13 (.int .i64 1)) w (pk K) fun t25 w=>
 N1 [t25] w))) (K (.returned (.bool true)) w)
def S_foliantref05_Texts (t0 t1:Value)(w:World)(K:Ending→World→Prop):Prop:=
 DoX prog (mB .len #[23] 3 #[false] #[t0]) w (pk K) fun t7 w=>
 DoX prog (mB .len #[23] 3 #[false] #[t1]) w (pk K) fun t9 w=>
 DoX prog (mEq .neq 3 (.tmp 7) (.tmp 9) t7 t9) w (pk K) fun t10 w=>
 IfX t10 (K (.returned (.bool false)) w) (DoX prog (mB .len #[23] 3 #[false] #[t0]) w (pk K) fun t12 w=>
 LoopX [(.int .i64 0)] w (fun vs1 w N1=>∀_:Sg,S_foliantref05_Texts_0 t0 t1 t12 (vs1.getD 0 undef) w N1 K))
theorem S_foliantref05_Texts_eq (t0 t1:Value)(w:World)(K:Ending→World→Prop):wpX prog 26 [] [(4,[13])] none (bodyOf Tryz.f18) (topQ prog [.tmp 4] K) (startX [t0,t1]) [] w=S_foliantref05_Texts t0 t1 w K:=by kernel_rfl
theorem S_foliantref05_Texts_ok {t0 t1:Value}{w:World}{K:Ending→World→Prop}(h:S_foliantref05_Texts t0 t1 w K):Calls prog 18 #[t0,t1] w K:=
 calls_of_wpX Tryz.func18 rfl rfl rfl rfl (Eq.mpr (S_foliantref05_Texts_eq t0 t1 w K) h)
end
section
open Eng Go.RowKit
theorem nStrT:notAgg prog 9=true:=by kernel_rfl
theorem rtexts_ret (va vb:Value)(la lb:List (List UInt8))(w:World)(ha:Sl w va 1 la.length (strsV la))(hb:Sl w vb 1 lb.length (strsV lb))(hl:la.length≤1099511627776) :
  Ret prog 18 #[va,vb] w (fun r w'=>r=.bool (decide (la=lb))∧Below w.heap.size w w'):=by
 refine ret_of fun K hK=>S_foliantref05_Texts_ok ?_;unfold S_foliantref05_Texts;rw[sl_len Tryz.underlying23 ha,sl_len Tryz.underlying23 hb];simp only[rs];by_cases hlen:(la.length:Int)≠(lb.length:Int)
 ·simp only[decide_eq_true hlen,i_t];have hne:la≠lb:=fun e=>hlen (by rw[e]);exact hK _ _ ⟨by rw[decide_eq_false hne],(Own.start w).done⟩
 have hle:la.length=lb.length:=by omega
 simp only[decide_eq_false hlen,i_f,sl_len Tryz.underlying23 ha];refine loop (fun vs w'=>∃(i:Nat),vs=[.int .i64 i]∧i≤la.length∧la.take i=lb.take i∧Own w w' []) (fun vs _=>la.length - n0 vs) ⟨0,rfl,by omega,by simp,Own.start w⟩ ?_;rintro vs w2 ⟨i,rfl,hi,he,ho⟩ _;simp only[S_foliantref05_Texts_0,gd,rs];by_cases hlt:(i:Int) < (la.length:Int)
 ·have h1:i < la.length:=by omega
  have h2:i < lb.length:=by omega
  simp only[hlt,decide_true,rs];obtain⟨ba,oa,ca,rfl,hca⟩:=sl_open ha (by omega);obtain⟨bb,ob,cb,rfl,hcb⟩:=sl_open hb (by omega);refine quiet (q_do _ (fun _=>run_ia Tryz.underlying23 (show _=some 1 by kernel_rfl) (by omega) (by omega)) ?_);refine q_at (.string ⟨(la[i]).toArray⟩) (fun wc hw=>run_load_cell nStrT ((ho.grow hw).old ?_)) ?_
  ·rw[Int.toNat_natCast,Nat.mul_one];exact hca i _ (strsV_get h1)
  refine q_do _ (fun _=>run_ia Tryz.underlying23 (show _=some 1 by kernel_rfl) (by omega) (by omega)) ?_;refine q_at (.string ⟨(lb[i]).toArray⟩) (fun wc hw=>run_load_cell nStrT ((ho.grow hw).old ?_)) ?_
  ·rw[Int.toNat_natCast,Nat.mul_one];exact hcb i _ (strsV_get h2)
  refine q_sne ?_;intro w3 hw;have ho:=ho.grow hw;by_cases hq:la[i]=lb[i]
  ·simp only[hq,ne_eq,not_true,decide_false,i_f,rs];rw[wrap64_id (by omega) (by omega)];refine nextX ⟨i+1,rfl,by omega,?_,ho⟩ (by simp[n0,RowKit.intOf];omega);rw[List.take_succ_eq_append_getElem h1,List.take_succ_eq_append_getElem h2,he,hq]
  ·simp only[hq,ne_eq,not_false_eq_true,decide_true,i_t];have hne:la≠lb:=fun e=>hq (by subst e;rfl);exact hK _ _ ⟨by rw[decide_eq_false hne],ho.done⟩
 ·simp only[hlt,decide_false,rs,g_un];have hab:la=lb:=by
   rw[List.take_of_length_le (by omega),List.take_of_length_le (by omega)] at he;exact he
  exact hK _ _ ⟨by rw[decide_eq_true hab],ho.done⟩
end
section
open Eng Go.RowKit
theorem i64_at47 {M:Mem}{v:Value}{l:List Int}(hs:SlA M.A M.w v 1 l.length (intsW l)){i:Nat}(hi:i < l.length) :
  ∃p,(∀W,(mIA 22 v (.int .i64 (i:Int))).run prog W=.ok (.value (.pointer (some p))) W)∧∀W,M.has W→(mLoad 2 (.pointer (some p))).run prog W=.ok (.value (.int .i64 l[i])) W:=by
 obtain⟨b,off,cap,rfl,_⟩:=sl_open hs.1 (by omega);refine⟨⟨b,off+i,none⟩,fun W=>?_,fun W hk=>?_⟩
 ·have:=run_ia (P:=prog) (T:=22) (b:=b) (off:=off) (cap:=cap) (n:=l.length) (k:=.i64) (i:=(i:Int)) (w:=W) Tryz.underlying22 (show _=some 1 by kernel_rfl) (by omega) (by omega);rw[Int.toNat_natCast,Nat.mul_one] at this;exact this
 ·obtain⟨b',off',cap',he,hc⟩:=sl_open (hs.now hk) (by omega);cases he;exact run_load_cell nI65 (hc i _ (intsW_get hi))
theorem rmaps47_nil (va vb:Value)(M:Mem)(w:World)(hM:M.has w)(ha:SlA M.A M.w va 2 0 [])(hb:SlA M.A M.w vb 2 0 []):Ret prog 51 #[va,vb] w (fun v w'=>v=.bool true∧w=w'):=by
 refine ret_of fun K hK=>S_foliantref47_maps_ok ?_;unfold S_foliantref47_maps;rw[sl_len Tryz.underlying24 (ha.now hM),sl_len Tryz.underlying24 (hb.now hM)];simp only[rs,ne_eq,not_true_eq_false,decide_false,i_f];refine loop (fun vs W=>vs=[.int .i64 0]∧W=w) (fun vs _=>0) ⟨rfl,rfl⟩ ?_;rintro vs _ ⟨rfl,rfl⟩ _;simp only[S_foliantref47_maps_0,gd];rw[sl_len Tryz.underlying24 (ha.now hM)]
 try simp only[rs]
 rw[decide_eq_false (show ¬(0:Int) < ((0:Nat):Int) by decide)];simp only[rs,g_un,i_f];exact hK _ _ ⟨rfl,rfl⟩
theorem rsame47_ret (f:Ft)(wa na ma wb nb mb:Value)(M:Mem)(w:World)(hm:f.maps=[])(hl:f.widths.length≤100000000)(hnl:f.names.length≤100000000)(hM:M.has w)(ha:FtAt M f wa na ma)(hb:FtAt M f wb nb mb) :
  Ret prog 25 #[ftV f wa na ma,ftV f wb nb mb] w (fun v w'=>v=.bool true∧Below w.heap.size w w'):=by
 refine ret_of fun K hK=>S_foliantref47_Same_ok ?_;unfold S_foliantref47_Same;refine o_ftb f ha (OwnS.memS hM) fun b2 w1 ho=>?_;refine o_ftb f hb ho fun b3 w2 ho=>?_;have ho:OwnS M.A w w2 [ftE b3 f wb nb mb,ftE b2 f wa na ma,.mem M]:=ho;rw[fa_f3,ft_ws ho 1 rfl,sl_len Tryz.underlying22 (ha.ws.now (ho.hasM 2 rfl)),fa_f3,ft_ws ho 0 rfl,sl_len Tryz.underlying22 (hb.ws.now (ho.hasM 2 rfl))];simp only[rs,ne_eq,not_true_eq_false,decide_false,i_f];refine loop (fun vs W=>∃i:Nat,vs=[.int .i64 (i:Int)]∧i≤f.widths.length∧OwnS M.A w W [ftE b3 f wb nb mb,ftE b2 f wa na ma,.mem M]) (fun vs _=>f.widths.length - n0 vs) ⟨0,rfl,by omega,ho⟩ ?_;clear ho;rintro vs w3 ⟨i,rfl,hi,ho⟩ _;simp only[S_foliantref47_Same_0,gd];rw[fa_f3,ft_ws ho 1 rfl,sl_len Tryz.underlying22 (ha.ws.now (ho.hasM 2 rfl))]
 try simp only[rs]
 by_cases hlt:(i:Int) < (f.widths.length:Int)
 ·simp only[decide_eq_true hlt,rs];rw[fa_f3,ft_ws ho 0 rfl,sl_len Tryz.underlying22 (hb.ws.now (ho.hasM 2 rfl))];simp only[rs,decide_eq_true hlt,i_t];have hi':i < f.widths.length:=by omega
  obtain⟨p,ip,lp⟩:=i64_at47 ha.ws hi';obtain⟨q,iq,lq⟩:=i64_at47 hb.ws hi';have c1:∀{W},Below w3.heap.size w3 W→(mLoad 22 (.pointer (some ⟨b2,0+3,none⟩))).run prog W=.ok (.value wa) W:=fun h=>run_load_cell nSlI64 ((ho.grow h).cell 1 rfl 3 rfl);have c2:∀{W},Below w3.heap.size w3 W→(mLoad 22 (.pointer (some ⟨b3,0+3,none⟩))).run prog W=.ok (.value wb) W:=fun h=>run_load_cell nSlI64 ((ho.grow h).cell 0 rfl 3 rfl);refine quiet ?_;refine q_do _ (fun _=>run_fa (o:=3) (by kernel_rfl)) (q_at _ (fun W hg=>c1 hg) (q_do _ ip (q_at _ (fun W hg=>lp W ((ho.grow hg).hasM 2 rfl)) ?_)));refine q_do _ (fun _=>run_fa (o:=3) (by kernel_rfl)) (q_at _ (fun W hg=>c2 hg) (q_do _ iq (q_at _ (fun W hg=>lq W ((ho.grow hg).hasM 2 rfl)) (q_ne ?_))));intro w4 hg;have ho:=ho.grow hg;simp only[ne_eq,not_true_eq_false,decide_false,i_f]
  try simp only[rs]
  rw[wrap64_id (by omega) (by omega)];exact nextX ⟨i+1,rfl,by omega,ho⟩ (by simp[n0,RowKit.intOf];omega)
 simp only[decide_eq_false hlt,rs,g_un,i_f];rw[fa_f0,ft_name ho 1 rfl,fa_f0,ft_name ho 0 rfl,e_str];simp only[rs,decide_true];rw[fa_f1,ft_wide ho 1 rfl,fa_f1,ft_wide ho 0 rfl,e_bool Tryz.underlying4];simp only[rs,beq_self_eq_true];rw[fa_f2,ft_first ho 1 rfl,fa_f2,ft_first ho 0 rfl];simp only[rs,decide_true];rw[fa_f4,ft_miss ho 1 rfl,fa_f4,ft_miss ho 0 rfl];simp only[rs,decide_true];rw[fa_f5,ft_nms ho 1 rfl,fa_f5,ft_nms ho 0 rfl];refine c_below ho (R:=fun v=>v=.bool true) ((rtexts_ret na nb f.names f.names w3 (ha.ns.now (ho.hasM 2 rfl)) (hb.ns.now (ho.hasM 2 rfl)) (by omega)).mono fun v w' h=>⟨by rw[h.1];simp,h.2⟩) ?_;rintro _ w5 rfl ho
 try simp only[rs]
 rw[fa_f6,ft_mps ho 1 rfl,fa_f6,ft_mps ho 0 rfl];have hma:=ha.ms;have hmb:=hb.ms;rw[hm] at hma hmb;refine c_ret (rmaps47_nil ma mb M w5 (ho.hasM 2 rfl) hma hmb) ?_;rintro _ _ ⟨rfl,rfl⟩
 try simp only[rs]
 have ho:OwnS M.A w w5 ([ftE b3 f wb nb mb,ftE b2 f wa na ma]++([.mem M]++[])):=ho;exact hK _ _ ⟨rfl,(ho.front.toGives 0 rfl M.le_refl hM).below⟩
end
section
open Eng
def S_font_need (t0:Value)(w:World)(K:Ending→World→Prop):Prop:=
 DoX prog (mEq .neq 30 (.tmp 2) (.const (.int .i64 0)) t0 (.int .i64 0)) w (pk K) fun t3 w=>
 IfX t3 (DoX prog (mBuild 73 #[(0,t0)]) w (pk K) fun t5 w=>
 DoX prog (mIface 73 t5) w (pk K) fun t6 w=>
 DoX prog (mPanic t6) w (pk K) fun _ w=>
 K (.returned (.tuple #[])) w) (K (.returned (.tuple #[])) w)
theorem S_font_need_eq (t0:Value)(w:World)(K:Ending→World→Prop):wpX prog 7 [] [] none (bodyOf Tryz.f42) (topQ prog [] K) (startX [t0]) [] w=S_font_need t0 w K:=by kernel_rfl
theorem S_font_need_ok {t0:Value}{w:World}{K:Ending→World→Prop}(h:S_font_need t0 w K):Calls prog 42 #[t0] w K:=
 calls_of_wpX Tryz.func42 rfl rfl rfl rfl (Eq.mpr (S_font_need_eq t0 w K) h)
def S_font_must (t0:Value)(w:World)(K:Ending→World→Prop):Prop:=
 DoX prog (mUn .not t0) w (pk K) fun t3 w=>
 IfX t3 (CallX prog 42 #[(.int .i64 27)] w (pk K) fun t4 w=>
 K (.returned (.tuple #[])) w) (K (.returned (.tuple #[])) w)
theorem S_font_must_eq (t0:Value)(w:World)(K:Ending→World→Prop):wpX prog 5 [] [] none (bodyOf Tryz.f86) (topQ prog [] K) (startX [t0]) [] w=S_font_must t0 w K:=by kernel_rfl
theorem S_font_must_ok {t0:Value}{w:World}{K:Ending→World→Prop}(h:S_font_must t0 w K):Calls prog 86 #[t0] w K:=
 calls_of_wpX Tryz.func86 rfl rfl rfl rfl (Eq.mpr (S_font_must_eq t0 w K) h)
def S_font_reader_at (t0 t1:Value)(w:World)(K:Ending→World→Prop):Prop:=
 DoX prog (mBox 93 t0) w (pk K) fun t2 w=>
 DoX prog (mAlloc 48) w (pk K) fun t4 w=>
 DoX prog (mFA 93 t2 0) w (pk K) fun t5 w=>
 DoX prog (mLoad 50 t5) w (pk K) fun t6 w=>
 DoX prog (mFA 93 t2 1) w (pk K) fun t7 w=>
 DoX prog (mLoad 48 t7) w (pk K) fun t8 w=>
 DoX prog (mBuildS 23 1 #[(0,t1)]) w (pk K) fun t10 w=>
 CallX prog 116 #[t6,t8,t10] w (pk K) fun t11 w=>
 DoX prog (mStore 48 t4 t11) w (pk K) fun _ w=>
 RetX prog [.cell t4 48] w K
theorem S_font_reader_at_eq (t0 t1:Value)(w:World)(K:Ending→World→Prop):wpX prog 12 [] [] none (bodyOf Tryz.f85) (topQ prog [.cell 4 48] K) (startX [t0,t1]) [] w=S_font_reader_at t0 t1 w K:=by kernel_rfl
theorem S_font_reader_at_ok {t0 t1:Value}{w:World}{K:Ending→World→Prop}(h:S_font_reader_at t0 t1 w K):Calls prog 85 #[t0,t1] w K:=
 calls_of_wpX Tryz.func85 rfl rfl rfl rfl (Eq.mpr (S_font_reader_at_eq t0 t1 w K) h)
def S_font_reader_kids_0 (t2 t5 t16 t17 t18:Value)(w:World)(N1:List Value→World→Prop)(K:Ending→World→Prop):Prop:=
 DoX prog (mBin .lss 3 t18 t17) w (pk K) fun t19 w=>
 IfX t19 (DoX prog (mIA 46 t16 t18) w (pk K) fun t20 w=>
 DoX prog (mLoad 48 t20) w (pk K) fun t21 w=>
 DoX prog (mAlloc 48) w (pk K) fun t7 w=>
 DoX prog (mStore 48 t7 t21) w (pk K) fun _ w=>
 DoX prog (mFA 93 t2 0) w (pk K) fun t23 w=>
 DoX prog (mLoad 50 t23) w (pk K) fun t24 w=>
 DoX prog (mLoad 48 t7) w (pk K) fun t25 w=>
 CallX prog 49 #[t24,t25] w (pk K) fun t26 w=>
 DoX prog (mBuildS 46 1 #[(0,t26)]) w (pk K) fun t27 w=>
 DoX prog (mB .append #[46,46] 46 #[false,false] #[t5,t27]) w (pk K) fun t28 w=>
 DoX prog (mBin .add 3 t18 (.int .i64 1)) w (pk K) fun t29 w=>
 N1 [t28,t29] w) (K (.returned t5) w)
def S_font_reader_kids (t0 t1:Value)(w:World)(K:Ending→World→Prop):Prop:=
 DoX prog (mBox 93 t0) w (pk K) fun t2 w=>
 DoX prog (mBox 48 t1) w (pk K) fun t3 w=>
 DoX prog (mFA 48 t3 0) w (pk K) fun t8 w=>
 DoX prog (mLoad 3 t8) w (pk K) fun t9 w=>
 DoX prog (mEq .eql 3 (.tmp 9) (.const (.int .i64 0)) t9 (.int .i64 0)) w (pk K) fun t10 w=>
 IfX t10 (K (.returned (.slice none 0 0)) w) (DoX prog (mFA 48 t3 0) w (pk K) fun t11 w=>
 DoX prog (mLoad 3 t11) w (pk K) fun t12 w=>
 DoX prog (mEq .eql 3 (.tmp 12) (.const (.int .i64 6)) t12 (.int .i64 6)) w (pk K) fun t13 w=>
 CallX prog 86 #[t13] w (pk K) fun t14 w=>
 DoX prog (mFA 48 t3 5) w (pk K) fun t15 w=>
 DoX prog (mLoad 46 t15) w (pk K) fun t16 w=>
 DoX prog (mB .len #[46] 3 #[false] #[t16]) w (pk K) fun t17 w=>
 LoopX [(.slice none 0 0),(.int .i64 0)] w (fun vs1 w N1=>∀_:Sg,S_font_reader_kids_0 t2 (vs1.getD 0 undef) t16 t17 (vs1.getD 1 undef) w N1 K))
theorem S_font_reader_kids_eq (t0 t1:Value)(w:World)(K:Ending→World→Prop):wpX prog 31 [] [(6,[5,18])] none (bodyOf Tryz.f118) (topQ prog [.tmp 4] K) (startX [t0,t1]) [] w=S_font_reader_kids t0 t1 w K:=by kernel_rfl
theorem S_font_reader_kids_ok {t0 t1:Value}{w:World}{K:Ending→World→Prop}(h:S_font_reader_kids t0 t1 w K):Calls prog 118 #[t0,t1] w K:=
 calls_of_wpX Tryz.func118 rfl rfl rfl rfl (Eq.mpr (S_font_reader_kids_eq t0 t1 w K) h)
def S_font_number_int (t0 t1:Value)(w:World)(K:Ending→World→Prop):Prop:=
 DoX prog (mBox 48 t0) w (pk K) fun t2 w=>
 DoX prog (mFA 48 t2 0) w (pk K) fun t5 w=>
 DoX prog (mLoad 3 t5) w (pk K) fun t6 w=>
 DoX prog (mEq .eql 3 (.tmp 6) (.const (.int .i64 2)) t6 (.int .i64 2)) w (pk K) fun t7 w=>
 GDo t7 true (fun E=>DoX prog (mFA 48 t2 1) w (pk K) E) w fun t9 w=>
 GDo t7 true (fun E=>DoX prog (mLoad 2 t9) w (pk K) E) w fun t10 w=>
 GDo t7 true (fun E=>DoX prog (mBin .geq 2 t10 (.int .i64 0)) w (pk K) E) w fun t11 w=>
 DoX prog (mPick t7 t11 (.bool false)) w (pk K) fun t12 w=>
 GDo t12 true (fun E=>DoX prog (mFA 48 t2 1) w (pk K) E) w fun t14 w=>
 GDo t12 true (fun E=>DoX prog (mLoad 2 t14) w (pk K) E) w fun t15 w=>
 GDo t12 true (fun E=>E t1 w) w fun t16 w=>
 GDo t12 true (fun E=>DoX prog (mBin .leq 2 t15 t16) w (pk K) E) w fun t17 w=>
 DoX prog (mPick t12 t17 (.bool false)) w (pk K) fun t18 w=>
 CallX prog 86 #[t18] w (pk K) fun t19 w=>
 DoX prog (mFA 48 t2 1) w (pk K) fun t20 w=>
 DoX prog (mLoad 2 t20) w (pk K) fun t21 w=>
 K (.returned t21) w
theorem S_font_number_int_eq (t0 t1:Value)(w:World)(K:Ending→World→Prop):wpX prog 22 [] [] none (bodyOf Tryz.f121) (topQ prog [.tmp 4] K) (startX [t0,t1]) [] w=S_font_number_int t0 t1 w K:=by kernel_rfl
theorem S_font_number_int_ok {t0 t1:Value}{w:World}{K:Ending→World→Prop}(h:S_font_number_int t0 t1 w K):Calls prog 121 #[t0,t1] w K:=
 calls_of_wpX Tryz.func121 rfl rfl rfl rfl (Eq.mpr (S_font_number_int_eq t0 t1 w K) h)
def S_font_number_int64 (t0 t1:Value)(w:World)(K:Ending→World→Prop):Prop:=
 DoX prog (mBox 48 t0) w (pk K) fun t2 w=>
 DoX prog (mFA 48 t2 0) w (pk K) fun t5 w=>
 DoX prog (mLoad 3 t5) w (pk K) fun t6 w=>
 DoX prog (mEq .eql 3 (.tmp 6) (.const (.int .i64 2)) t6 (.int .i64 2)) w (pk K) fun t7 w=>
 GDo t7 true (fun E=>DoX prog (mFA 48 t2 1) w (pk K) E) w fun t9 w=>
 GDo t7 true (fun E=>DoX prog (mLoad 2 t9) w (pk K) E) w fun t10 w=>
 GDo t7 true (fun E=>DoX prog (mBin .geq 2 t10 (.int .i64 0)) w (pk K) E) w fun t11 w=>
 DoX prog (mPick t7 t11 (.bool false)) w (pk K) fun t12 w=>
 GDo t12 true (fun E=>DoX prog (mFA 48 t2 1) w (pk K) E) w fun t14 w=>
 GDo t12 true (fun E=>DoX prog (mLoad 2 t14) w (pk K) E) w fun t15 w=>
 GDo t12 true (fun E=>E t1 w) w fun t16 w=>
 GDo t12 true (fun E=>DoX prog (mBin .leq 2 t15 t16) w (pk K) E) w fun t17 w=>
 DoX prog (mPick t12 t17 (.bool false)) w (pk K) fun t18 w=>
 CallX prog 86 #[t18] w (pk K) fun t19 w=>
 DoX prog (mFA 48 t2 1) w (pk K) fun t20 w=>
 DoX prog (mLoad 2 t20) w (pk K) fun t21 w=>
 K (.returned t21) w
theorem S_font_number_int64_eq (t0 t1:Value)(w:World)(K:Ending→World→Prop):wpX prog 22 [] [] none (bodyOf Tryz.f119) (topQ prog [.tmp 4] K) (startX [t0,t1]) [] w=S_font_number_int64 t0 t1 w K:=by kernel_rfl
theorem S_font_number_int64_ok {t0 t1:Value}{w:World}{K:Ending→World→Prop}(h:S_font_number_int64 t0 t1 w K):Calls prog 119 #[t0,t1] w K:=
 calls_of_wpX Tryz.func119 rfl rfl rfl rfl (Eq.mpr (S_font_number_int64_eq t0 t1 w K) h)
def S_font_or_int (t0 t1 t2:Value)(w:World)(K:Ending→World→Prop):Prop:=
 DoX prog (mBox 48 t0) w (pk K) fun t3 w=>
 DoX prog (mFA 48 t3 0) w (pk K) fun t7 w=>
 DoX prog (mLoad 3 t7) w (pk K) fun t8 w=>
 DoX prog (mEq .eql 3 (.tmp 8) (.const (.int .i64 0)) t8 (.int .i64 0)) w (pk K) fun t9 w=>
 IfX t9 (K (.returned t2) w) (DoX prog (mLoad 48 t3) w (pk K) fun t11 w=>
 CallX prog 121 #[t11,t1] w (pk K) fun t13 w=>
 K (.returned t13) w)
theorem S_font_or_int_eq (t0 t1 t2:Value)(w:World)(K:Ending→World→Prop):wpX prog 14 [] [] none (bodyOf Tryz.f117) (topQ prog [.tmp 6] K) (startX [t0,t1,t2]) [] w=S_font_or_int t0 t1 t2 w K:=by kernel_rfl
theorem S_font_or_int_ok {t0 t1 t2:Value}{w:World}{K:Ending→World→Prop}(h:S_font_or_int t0 t1 t2 w K):Calls prog 117 #[t0,t1,t2] w K:=
 calls_of_wpX Tryz.func117 rfl rfl rfl rfl (Eq.mpr (S_font_or_int_eq t0 t1 t2 w K) h)
def S_font_or_int64 (t0 t1 t2:Value)(w:World)(K:Ending→World→Prop):Prop:=
 DoX prog (mBox 48 t0) w (pk K) fun t3 w=>
 DoX prog (mFA 48 t3 0) w (pk K) fun t7 w=>
 DoX prog (mLoad 3 t7) w (pk K) fun t8 w=>
 DoX prog (mEq .eql 3 (.tmp 8) (.const (.int .i64 0)) t8 (.int .i64 0)) w (pk K) fun t9 w=>
 IfX t9 (K (.returned t2) w) (DoX prog (mLoad 48 t3) w (pk K) fun t11 w=>
 CallX prog 119 #[t11,t1] w (pk K) fun t13 w=>
 K (.returned t13) w)
theorem S_font_or_int64_eq (t0 t1 t2:Value)(w:World)(K:Ending→World→Prop):wpX prog 14 [] [] none (bodyOf Tryz.f120) (topQ prog [.tmp 6] K) (startX [t0,t1,t2]) [] w=S_font_or_int64 t0 t1 t2 w K:=by kernel_rfl
theorem S_font_or_int64_ok {t0 t1 t2:Value}{w:World}{K:Ending→World→Prop}(h:S_font_or_int64 t0 t1 t2 w K):Calls prog 120 #[t0,t1,t2] w K:=
 calls_of_wpX Tryz.func120 rfl rfl rfl rfl (Eq.mpr (S_font_or_int64_eq t0 t1 t2 w K) h)
def S_font_reader_simple_4 (t8 t75:Value)(w:World)(N7:List Value→World→Prop)(K:Ending→World→Prop):Prop:=
 DoX prog (mBin .add 3 t75 (.int .i64 1)) w (pk K) fun t106 w=>
 N7 [t8,t106] w
def S_font_reader_simple_3 (t1 t8 t73 t74 t75:Value)(w:World)(N7:List Value→World→Prop)(K:Ending→World→Prop):Prop:=
 DoX prog (mBin .lss 3 t75 t74) w (pk K) fun t76 w=>
 IfX t76 (JoinX (fun J8=>
 DoX prog (mIA 46 t73 t75) w (pk K) fun t77 w=>
 DoX prog (mLoad 48 t77) w (pk K) fun t78 w=>
 DoX prog (mAlloc 48) w (pk K) fun t10 w=>
 DoX prog (mStore 48 t10 t78) w (pk K) fun _ w=>
 DoX prog (mFA 48 t10 0) w (pk K) fun t79 w=>
 DoX prog (mLoad 3 t79) w (pk K) fun t80 w=>
 DoX prog (mEq .eql 3 (.tmp 80) (.const (.int .i64 2)) t80 (.int .i64 2)) w (pk K) fun t81 w=>
 IfX t81 (DoX prog (mLoad 48 t10) w (pk K) fun t82 w=>
 CallX prog 121 #[t82,(.int .i64 255)] w (pk K) fun t83 w=>
 J8 [t83] w) (DoX prog (mFA 48 t10 0) w (pk K) fun t84 w=>
 DoX prog (mLoad 3 t84) w (pk K) fun t85 w=>
 DoX prog (mEq .eql 3 (.tmp 85) (.const (.int .i64 5)) t85 (.int .i64 5)) w (pk K) fun t86 w=>
 GDo t86 true (fun E=>E t8 w) w fun t88 w=>
 GDo t86 true (fun E=>DoX prog (mBin .geq 3 t88 (.int .i64 0)) w (pk K) E) w fun t89 w=>
 DoX prog (mPick t86 t89 (.bool false)) w (pk K) fun t90 w=>
 GDo t90 true (fun E=>E t8 w) w fun t92 w=>
 GDo t90 true (fun E=>DoX prog (mBin .lss 3 t92 (.int .i64 256)) w (pk K) E) w fun t93 w=>
 DoX prog (mPick t90 t93 (.bool false)) w (pk K) fun t94 w=>
 CallX prog 86 #[t94] w (pk K) fun t95 w=>
 QuietX w (fun C9=>
 QDo prog C9 (mNil t1) fun t97=>
 QDo prog C9 (mFA 26 t97 5) fun t98=>
 QDo prog C9 (mLoad 23 t98) fun t99=>
 QDo prog C9 (mFA 48 t10 3) fun t101=>
 QDo prog C9 (mLoad 9 t101) fun t102=>
 QDo prog C9 (mIA 23 t99 t8) fun t103=>
 ∀w,C9 w →
 DoX prog (mStore 9 t103 t102) w (pk K) fun _ w=>
 DoX prog (mBin .add 3 t8 (.int .i64 1)) w (pk K) fun t105 w=>
 J8 [t105] w))) (fun vs8 w=>∀_:Sg,S_font_reader_simple_4 (vs8.getD 0 undef) t75 w N7 K)) (K (.returned (.tuple #[])) w)
def S_font_reader_simple_2 (t1 t2 t7 t56:Value)(w:World)(K:Ending→World→Prop):Prop:=
 IfX t56 (K (.returned (.tuple #[])) w) (DoX prog (mFA 48 t7 0) w (pk K) fun t59 w=>
 DoX prog (mLoad 3 t59) w (pk K) fun t60 w=>
 DoX prog (mEq .eql 3 (.tmp 60) (.const (.int .i64 7)) t60 (.int .i64 7)) w (pk K) fun t61 w=>
 CallX prog 86 #[t61] w (pk K) fun t62 w=>
 CallX prog 19 #[] w (pk K) fun t64 w=>
 DoX prog (mNil t1) w (pk K) fun t65 w=>
 DoX prog (mFA 26 t65 5) w (pk K) fun t66 w=>
 DoX prog (mStore 23 t66 t64) w (pk K) fun _ w=>
 HeldX w (fun S6 w=>
 HDo prog S6 (mLoad 93 t2) fun t67=>
 HDo prog S6 (mFA 93 t2 0) fun t68=>
 HDo prog S6 (mLoad 50 t68) fun t69=>
 HDo prog S6 (mLoad 48 t7) fun t70=>
 DoX prog (mBuildS 23 1 #[(0,(.string ⟨#[68,105,102,102,101,114,101,110,99,101,115]⟩))]) w (pm1 (pm1 (pm1 (pm1 (pm1 (pm1 (pk K))))))) fun t71 w=>
 S6 w∧(CallX prog 116 #[t69,t70,t71] w (pm1 (pm1 (pm1 (pm1 (pm1 (pm1 (pk K))))))) fun t72 w=>
 S6 w∧(CallX prog 118 #[t67,t72] w (pm1 (pm1 (pm1 (pm1 (pm1 (pm1 (pk K))))))) fun t73 w=>
 S6 w∧(HDo prog S6 (mB .len #[46] 3 #[false] #[t73]) fun t74=>
 LoopX [(.int .i64 (-1)),(.int .i64 0)] w (fun vs7 w N7=>∀_:Sg,S_font_reader_simple_3 t1 (vs7.getD 0 undef) t73 t74 (vs7.getD 1 undef) w N7 K))))))
def S_font_reader_simple_1 (t1 t2:Value)(w:World)(K:Ending→World→Prop):Prop:=
 DoX prog (mLoad 93 t2) w (pk K) fun t52 w=>
 CallX prog 85 #[t52,(.string ⟨#[69,110,99,111,100,105,110,103]⟩)] w (pk K) fun t53 w=>
 DoX prog (mAlloc 48) w (pk K) fun t7 w=>
 DoX prog (mStore 48 t7 t53) w (pk K) fun _ w=>
 DoX prog (mFA 48 t7 0) w (pk K) fun t54 w=>
 DoX prog (mLoad 3 t54) w (pk K) fun t55 w=>
 JoinX (fun J5=>
 DoX prog (mEq .eql 3 (.tmp 55) (.const (.int .i64 0)) t55 (.int .i64 0)) w (pk K) fun t57 w=>
 IfX t57 (J5 [t57] w) (DoX prog (mEq .eql 3 (.tmp 55) (.const (.int .i64 5)) t55 (.int .i64 5)) w (pk K) fun t58 w=>
 J5 [t58] w)) (fun vs5 w=>∀_:Sg,S_font_reader_simple_2 t1 t2 t7 (vs5.getD 0 undef) w K)
def S_font_reader_simple_0 (t1 t2 t20 t21 t22:Value)(w:World)(N2:List Value→World→Prop)(K:Ending→World→Prop):Prop:=
 DoX prog (mBin .lss 3 t22 t21) w (pk K) fun t23 w=>
 IfX t23 (DoX prog (mIA 46 t20 t22) w (pk K) fun t24 w=>
 DoX prog (mLoad 48 t24) w (pk K) fun t25 w=>
 DoX prog (mAlloc 48) w (pk K) fun t5 w=>
 DoX prog (mStore 48 t5 t25) w (pk K) fun _ w=>
 HeldX w (fun S3 w=>
 HDo prog (fun _=>True) (mNil t1) fun t28=>
 HDo prog (fun _=>True) (mFA 26 t28 3) fun t29=>
 HDo prog S3 (mLoad 22 t29) fun t30=>
 HDo prog S3 (mLoad 48 t5) fun t31=>
 CallX prog 119 #[t31,(.int .i64 100000)] w (pm1 (pm1 (pm1 (pm1 (pm1 (pm1 (pm1 (pm1 (pk K))))))))) fun t32 w=>
 S3 w∧(DoX prog (mBuildS 22 1 #[(0,t32)]) w (pm1 (pm1 (pm1 (pm1 (pm1 (pm1 (pm1 (pm1 (pk K))))))))) fun t33 w=>
 S3 w∧(DoX prog (mB .append #[22,22] 22 #[false,false] #[t30,t33]) w (pm1 (pm1 (pm1 (pm1 (pm1 (pm1 (pm1 (pm1 (pk K))))))))) fun t34 w=>
 S3 w∧(HDo prog (fun _=>True) (mNil t1) fun t35=>
 HDo prog (fun _=>True) (mFA 26 t35 3) fun t36=>
 DoX prog (mStore 22 t36 t34) w (pm1 (pm1 (pm1 (pm1 (pm1 (pm1 (pm1 (pm1 (pk K))))))))) fun _ w=>
 (DoX prog (mBin .add 3 t22 (.int .i64 1)) w (pk K) fun t37 w=>
 N2 [t37] w)))))) (JoinX (fun J4=>
 DoX prog (mLoad 93 t2) w (pk K) fun t38 w=>
 CallX prog 85 #[t38,(.string ⟨#[70,111,110,116,68,101,115,99,114,105,112,116,111,114]⟩)] w (pk K) fun t39 w=>
 DoX prog (mAlloc 48) w (pk K) fun t6 w=>
 DoX prog (mStore 48 t6 t39) w (pk K) fun _ w=>
 DoX prog (mFA 48 t6 0) w (pk K) fun t40 w=>
 DoX prog (mLoad 3 t40) w (pk K) fun t41 w=>
 DoX prog (mEq .eql 3 (.tmp 41) (.const (.int .i64 7)) t41 (.int .i64 7)) w (pk K) fun t42 w=>
 IfX t42 (DoX prog (mFA 93 t2 0) w (pk K) fun t44 w=>
 DoX prog (mLoad 50 t44) w (pk K) fun t45 w=>
 DoX prog (mLoad 48 t6) w (pk K) fun t46 w=>
 DoX prog (mBuildS 23 1 #[(0,(.string ⟨#[77,105,115,115,105,110,103,87,105,100,116,104]⟩))]) w (pk K) fun t47 w=>
 CallX prog 116 #[t45,t46,t47] w (pk K) fun t48 w=>
 CallX prog 120 #[t48,(.int .i64 100000),(.int .i64 0)] w (pk K) fun t49 w=>
 DoX prog (mNil t1) w (pk K) fun t50 w=>
 DoX prog (mFA 26 t50 4) w (pk K) fun t51 w=>
 DoX prog (mStore 2 t51 t49) w (pk K) fun _ w=>
 J4 [] w) (J4 [] w)) (fun vs4 w=>∀_:Sg,S_font_reader_simple_1 t1 t2 w K))
def S_font_reader_simple (t0 t1:Value)(w:World)(K:Ending→World→Prop):Prop:=
 DoX prog (mBox 93 t0) w (pk K) fun t2 w=>
 DoX prog (mLoad 93 t2) w (pk K) fun t12 w=>
 CallX prog 85 #[t12,(.string ⟨#[70,105,114,115,116,67,104,97,114]⟩)] w (pk K) fun t13 w=>
 CallX prog 117 #[t13,(.int .i64 255),(.int .i64 0)] w (pk K) fun t14 w=>
 DoX prog (mNil t1) w (pk K) fun t15 w=>
 DoX prog (mFA 26 t15 2) w (pk K) fun t16 w=>
 DoX prog (mStore 3 t16 t14) w (pk K) fun _ w=>
 HeldX w (fun S1 w=>
 HDo prog S1 (mLoad 93 t2) fun t17=>
 HDo prog S1 (mLoad 93 t2) fun t18=>
 CallX prog 85 #[t18,(.string ⟨#[87,105,100,116,104,115]⟩)] w (pm1 (pm1 (pm1 (pm1 (pk K))))) fun t19 w=>
 S1 w∧(CallX prog 118 #[t17,t19] w (pm1 (pm1 (pm1 (pm1 (pk K))))) fun t20 w=>
 S1 w∧(HDo prog S1 (mB .len #[46] 3 #[false] #[t20]) fun t21=>
 LoopX [(.int .i64 0)] w (fun vs2 w N2=>∀_:Sg,S_font_reader_simple_0 t1 t2 t20 t21 (vs2.getD 0 undef) w N2 K))))
theorem S_font_reader_simple_eq (t0 t1:Value)(w:World)(K:Ending→World→Prop):wpX prog 107 [(10,[]),(25,[8]),(999999,[56])] [(3,[22]),(18,[8,75])] none (bodyOf Tryz.f87) (topQ prog [] K) (startX [t0,t1]) [] w=S_font_reader_simple t0 t1 w K:=by kernel_rfl
theorem S_font_reader_simple_ok {t0 t1:Value}{w:World}{K:Ending→World→Prop}(h:S_font_reader_simple t0 t1 w K):Calls prog 87 #[t0,t1] w K:=
 calls_of_wpX Tryz.func87 rfl rfl rfl rfl (Eq.mpr (S_font_reader_simple_eq t0 t1 w K) h)
def S_font_reader_maps (t0 t1 t2:Value)(w:World)(K:Ending→World→Prop):Prop:=
 DoX prog (mBox 93 t0) w (pk K) fun t3 w=>
 DoX prog (mBox 48 t2) w (pk K) fun t5 w=>
 DoX prog (mFA 48 t5 0) w (pk K) fun t10 w=>
 DoX prog (mLoad 3 t10) w (pk K) fun t11 w=>
 DoX prog (mEq .eql 3 (.tmp 11) (.const (.int .i64 0)) t11 (.int .i64 0)) w (pk K) fun t12 w=>
 IfX t12 (K (.returned (.tuple #[])) w) (DoX prog (mLoad 48 t5) w (pk K) fun t14 w=>
 CallX prog 123 #[t14] w (pk K) fun t15 w=>
 DoX prog (mExt t15 0) w (pk K) fun t16 w=>
 DoX prog (mExt t15 1) w (pk K) fun t17 w=>
 CallX prog 42 #[t17] w (pk K) fun t19 w=>
 CallX prog 124 #[t16] w (pk K) fun t22 w=>
 DoX prog (mExt t22 0) w (pk K) fun t23 w=>
 DoX prog (mExt t22 1) w (pk K) fun t24 w=>
 DoX prog (mExt t22 2) w (pk K) fun t25 w=>
 CallX prog 42 #[t25] w (pk K) fun t27 w=>
 DoX prog (mB .len #[24] 3 #[false] #[t23]) w (pk K) fun t29 w=>
 DoX prog (mEq .eql 3 (.tmp 29) (.const (.int .i64 0)) t29 (.int .i64 0)) w (pk K) fun t30 w=>
 GDo t30 false (fun E=>E t24 w) w fun t32 w=>
 GDo t30 false (fun E=>E t1 w) w fun t33 w=>
 GDo t30 false (fun E=>DoX prog (mNil t33) w (pk K) E) w fun t34 w=>
 GDo t30 false (fun E=>DoX prog (mFA 26 t34 1) w (pk K) E) w fun t35 w=>
 GDo t30 false (fun E=>DoX prog (mLoad 4 t35) w (pk K) E) w fun t36 w=>
 GDo t30 false (fun E=>DoX prog (mEq .eql 4 (.tmp 32) (.tmp 36) t32 t36) w (pk K) E) w fun t37 w=>
 DoX prog (mPick t30 (.bool true) t37) w (pk K) fun t38 w=>
 CallX prog 86 #[t38] w (pk K) fun t39 w=>
 DoX prog (mNil t1) w (pk K) fun t42 w=>
 DoX prog (mFA 26 t42 6) w (pk K) fun t43 w=>
 DoX prog (mStore 24 t43 t23) w (pk K) fun _ w=>
 K (.returned (.tuple #[])) w)
theorem S_font_reader_maps_eq (t0 t1 t2:Value)(w:World)(K:Ending→World→Prop):wpX prog 44 [] [] none (bodyOf Tryz.f89) (topQ prog [] K) (startX [t0,t1,t2]) [] w=S_font_reader_maps t0 t1 t2 w K:=by kernel_rfl
theorem S_font_reader_maps_ok {t0 t1 t2:Value}{w:World}{K:Ending→World→Prop}(h:S_font_reader_maps t0 t1 t2 w K):Calls prog 89 #[t0,t1,t2] w K:=
 calls_of_wpX Tryz.func89 rfl rfl rfl rfl (Eq.mpr (S_font_reader_maps_eq t0 t1 t2 w K) h)
def S_font_reader_font_1 (t1 t2 t5:Value)(w:World)(K:Ending→World→Prop):Prop:=
 DoX prog (mLoad 93 t1) w (pk K) fun t41 w=>
 CallX prog 85 #[t41,(.string ⟨#[84,111,85,110,105,99,111,100,101]⟩)] w (pk K) fun t42 w=>
 DoX prog (mAlloc 48) w (pk K) fun t6 w=>
 DoX prog (mStore 48 t6 t42) w (pk K) fun _ w=>
 DoX prog (mFA 48 t6 0) w (pk K) fun t43 w=>
 DoX prog (mLoad 3 t43) w (pk K) fun t44 w=>
 DoX prog (mEq .eql 3 (.tmp 44) (.const (.int .i64 0)) t44 (.int .i64 0)) w (pk K) fun t45 w=>
 GDo t45 false (fun E=>DoX prog (mFA 48 t6 0) w (pk K) E) w fun t47 w=>
 GDo t45 false (fun E=>DoX prog (mLoad 3 t47) w (pk K) E) w fun t48 w=>
 GDo t45 false (fun E=>DoX prog (mEq .eql 3 (.tmp 48) (.const (.int .i64 9)) t48 (.int .i64 9)) w (pk K) E) w fun t49 w=>
 DoX prog (mPick t45 (.bool true) t49) w (pk K) fun t50 w=>
 GDo t50 true (fun E=>DoX prog (mLoad 26 t5) w (pk K) E) w fun t52 w=>
 GDo t50 true (fun E=>CallX prog 30 #[t52] w (pk K) E) w fun t53 w=>
 DoX prog (mPick t50 t53 (.bool false)) w (pk K) fun t54 w=>
 CallX prog 86 #[t54] w (pk K) fun t55 w=>
 DoX prog (mLoad 93 t1) w (pk K) fun t56 w=>
 DoX prog (mLoad 48 t6) w (pk K) fun t57 w=>
 CallX prog 89 #[t56,t5,t57] w (pk K) fun t58 w=>
 DoX prog (mLoad 26 t5) w (pk K) fun t59 w=>
 CallX prog 16 #[t59] w (pk K) fun t60 w=>
 DoX prog (mEq .eql 30 (.tmp 60) (.const (.int .i64 0)) t60 (.int .i64 0)) w (pk K) fun t61 w=>
 CallX prog 86 #[t61] w (pk K) fun t62 w=>
 DoX prog (mLoad 26 t5) w (pk K) fun t63 w=>
 DoX prog (mStore 26 t2 t63) w (pk K) fun _ w=>
 RetX prog [.cell t2 26] w K
def S_font_reader_font_0 (t1 t5 t30 t32:Value)(w:World)(J1:List Value→World→Prop)(K:Ending→World→Prop):Prop:=
 IfX t32 (DoX prog (mLoad 93 t1) w (pk K) fun t35 w=>
 CallX prog 87 #[t35,t5] w (pk K) fun t36 w=>
 J1 [] w) (DoX prog (mEq .eql 9 (.tmp 30) (.const (.string ⟨#[84,121,112,101,48]⟩)) t30 (.string ⟨#[84,121,112,101,48]⟩)) w (pk K) fun t38 w=>
 IfX t38 (DoX prog (mLoad 93 t1) w (pk K) fun t39 w=>
 CallX prog 88 #[t39,t5] w (pk K) fun t40 w=>
 J1 [] w) (CallX prog 86 #[(.bool false)] w (pk K) fun t31 w=>
 J1 [] w))
def S_font_reader_font (t0:Value)(w:World)(K:Ending→World→Prop):Prop:=
 DoX prog (mBox 93 t0) w (pk K) fun t1 w=>
 DoX prog (mAlloc 26) w (pk K) fun t2 w=>
 DoX prog (mLoad 93 t1) w (pk K) fun t7 w=>
 CallX prog 85 #[t7,(.string ⟨#[83,117,98,116,121,112,101]⟩)] w (pk K) fun t8 w=>
 DoX prog (mAlloc 48) w (pk K) fun t3 w=>
 DoX prog (mStore 48 t3 t8) w (pk K) fun _ w=>
 DoX prog (mLoad 93 t1) w (pk K) fun t9 w=>
 CallX prog 85 #[t9,(.string ⟨#[66,97,115,101,70,111,110,116]⟩)] w (pk K) fun t10 w=>
 DoX prog (mAlloc 48) w (pk K) fun t4 w=>
 DoX prog (mStore 48 t4 t10) w (pk K) fun _ w=>
 DoX prog (mFA 93 t1 1) w (pk K) fun t11 w=>
 DoX prog (mFA 48 t11 0) w (pk K) fun t12 w=>
 DoX prog (mLoad 3 t12) w (pk K) fun t13 w=>
 DoX prog (mEq .eql 3 (.tmp 13) (.const (.int .i64 7)) t13 (.int .i64 7)) w (pk K) fun t14 w=>
 GDo t14 true (fun E=>DoX prog (mFA 48 t3 0) w (pk K) E) w fun t16 w=>
 GDo t14 true (fun E=>DoX prog (mLoad 3 t16) w (pk K) E) w fun t17 w=>
 GDo t14 true (fun E=>DoX prog (mEq .eql 3 (.tmp 17) (.const (.int .i64 5)) t17 (.int .i64 5)) w (pk K) E) w fun t18 w=>
 DoX prog (mPick t14 t18 (.bool false)) w (pk K) fun t19 w=>
 GDo t19 true (fun E=>DoX prog (mFA 48 t4 0) w (pk K) E) w fun t21 w=>
 GDo t19 true (fun E=>DoX prog (mLoad 3 t21) w (pk K) E) w fun t22 w=>
 GDo t19 true (fun E=>DoX prog (mEq .eql 3 (.tmp 22) (.const (.int .i64 5)) t22 (.int .i64 5)) w (pk K) E) w fun t23 w=>
 DoX prog (mPick t19 t23 (.bool false)) w (pk K) fun t24 w=>
 CallX prog 86 #[t24] w (pk K) fun t25 w=>
 DoX prog (mFA 48 t4 3) w (pk K) fun t26 w=>
 DoX prog (mLoad 9 t26) w (pk K) fun t27 w=>
 DoX prog (mBuild 26 #[(0,t27)]) w (pk K) fun t28 w=>
 DoX prog (mAlloc 26) w (pk K) fun t5 w=>
 DoX prog (mStore 26 t5 t28) w (pk K) fun _ w=>
 JoinX (fun J1=>
 DoX prog (mFA 48 t3 3) w (pk K) fun t29 w=>
 DoX prog (mLoad 9 t29) w (pk K) fun t30 w=>
 JoinX (fun J2=>
 DoX prog (mEq .eql 9 (.tmp 30) (.const (.string ⟨#[84,121,112,101,49]⟩)) t30 (.string ⟨#[84,121,112,101,49]⟩)) w (pk K) fun t33 w=>
 IfX t33 (J2 [t33] w) (DoX prog (mEq .eql 9 (.tmp 30) (.const (.string ⟨#[84,114,117,101,84,121,112,101]⟩)) t30 (.string ⟨#[84,114,117,101,84,121,112,101]⟩)) w (pk K) fun t34 w=>
 J2 [t34] w)) (fun vs2 w=>∀_:Sg,S_font_reader_font_0 t1 t5 t30 (vs2.getD 0 undef) w J1 K)) (fun vs1 w=>∀_:Sg,S_font_reader_font_1 t1 t2 t5 w K)
theorem S_font_reader_font_eq (t0:Value)(w:World)(K:Ending→World→Prop):wpX prog 64 [(9,[32]),(12,[])] [] none (bodyOf Tryz.f50) (topQ prog [.cell 2 26] K) (startX [t0]) [] w=S_font_reader_font t0 w K:=by kernel_rfl
theorem S_font_reader_font_ok {t0:Value}{w:World}{K:Ending→World→Prop}(h:S_font_reader_font t0 w K):Calls prog 50 #[t0] w K:=
 calls_of_wpX Tryz.func50 rfl rfl rfl rfl (Eq.mpr (S_font_reader_font_eq t0 w K) h)
def S_font_Read_p0 (x0:Deferred)(x1:Value)(x2:Value)(K:Ending→World→Prop):=pd prog [.cell x1 26,.cell x2 30] K [x0]
def S_font_Read (t0 t1:Value)(w:World)(K:Ending→World→Prop):Prop:=
 DoX prog (mBox 50 t0) w (pk K) fun t2 w=>
 DoX prog (mBox 48 t1) w (pk K) fun t3 w=>
 DoX prog (mAlloc 26) w (pk K) fun t4 w=>
 DoX prog (mAlloc 30) w (pk K) fun t5 w=>
 DoX prog (mFunc (.func 48) #[] #[t4,t5]) w (pk K) fun t6 w=>
 DfrX (dfrV t6 #[]) (fun d1=>
 HeldX w (fun S2 w=>
 HDo prog S2 (mLoad 50 t2) fun t7=>
 HDo prog S2 (mLoad 50 t2) fun t8=>
 HDo prog S2 (mLoad 48 t3) fun t9=>
 CallX prog 49 #[t8,t9] w (pm1 (pm1 (pm1 (pm1 (S_font_Read_p0 d1 t4 t5 K))))) fun t10 w=>
 S2 w∧(HDo prog (fun _=>True) (mBuild 93 #[(0,t7),(1,t10)]) fun t11=>
 CallX prog 50 #[t11] w (pm1 (pm1 (pm1 (pm1 (S_font_Read_p0 d1 t4 t5 K))))) fun t12 w=>
 S2 w∧(DoX prog (mStore 26 t4 t12) w (pm1 (pm1 (pm1 (pm1 (S_font_Read_p0 d1 t4 t5 K))))) fun _ w=>
 (DoX prog (mStore 30 t5 (.int .i64 0)) w (pm1 (pm1 (pm1 (pm1 (S_font_Read_p0 d1 t4 t5 K))))) fun _ w=>
 (Leave prog [.cell t4 26,.cell t5 30] K [d1] .returning w))))))
theorem S_font_Read_eq (t0 t1:Value)(w:World)(K:Ending→World→Prop):wpX prog 13 [] [] none (bodyOf Tryz.f23) (topQ prog [.cell 4 26,.cell 5 30] K) (startX [t0,t1]) [] w=S_font_Read t0 t1 w K:=by kernel_rfl
theorem S_font_Read_ok {t0 t1:Value}{w:World}{K:Ending→World→Prop}(h:S_font_Read t0 t1 w K):Calls prog 23 #[t0,t1] w K:=
 calls_of_wpX Tryz.func23 rfl rfl rfl rfl (Eq.mpr (S_font_Read_eq t0 t1 w K) h)
end
section
open Eng Go.RowKit
namespace Fo
def val (d:Dc)(o:Ob)(key:List UInt8):Ob:=Dk.path d (Dk.follow d o) [key]
def within (o:Ob)(most:Int):Prop:=o.k=2∧0≤o.n∧o.n≤most
def orI (o:Ob)(none:Int):Int:=if o.k=0 then none else o.n
end Fo
theorem joinF {F:(List Value→World→Prop)→Prop}{R:List Value→World→Prop}(I:List Value→World→Prop)(h0:∀J:List Value→World→Prop,(∀vs w,I vs w→J vs w)→F J)(h1:∀vs w,I vs w→R vs w):JoinX F R:=join fun J hJ=>h0 J fun vs w hi=>hJ vs w (h1 vs w hi)
def stF (e:Int):PanicEntry:={ v:=.iface 73 (.agg #[.int .i64 e]),recovered:=false }
theorem nfSt47:notIface prog 73=true:=by kernel_rfl
theorem need47_t (w:World):Ret prog 42 #[.int .i64 0] w (fun v w'=>v=.tuple #[]∧w=w'):=by
 refine ret_of fun K hK=>S_font_need_ok ?_;unfold S_font_need;simp only[n_err,show decide ((0:Int)≠0)=false from rfl,i_f];exact hK _ _ ⟨rfl,rfl⟩
theorem need47_f (e:Int)(he:e≠0)(w:World):Pan prog 42 #[.int .i64 e] w (fun c w'=>c=[stF e]∧w=w'):=by
 refine pan_of fun K hK=>S_font_need_ok ?_;unfold S_font_need;simp only[n_err,decide_eq_true he,i_t];have hb:∀{PK:PKT} {K:VWP},DoX prog (mBuild 73 #[(0,.int .i64 e)]) w PK K=K (.agg #[.int .i64 e]) w:=do_eq (by kernel_rfl);rw[hb,m_iface nfSt47,m_panic];exact hK _ _ ⟨rfl,rfl⟩
theorem must47_t (w:World):Ret prog 86 #[.bool true] w (fun v w'=>v=.tuple #[]∧w=w'):=by
 refine ret_of fun K hK=>S_font_must_ok ?_;unfold S_font_must;simp only[rs,Bool.not_true,i_f];exact hK _ _ ⟨rfl,rfl⟩
theorem must47_f (w:World):Pan prog 86 #[.bool false] w (fun c w'=>c=[stF 27]∧w=w'):=by
 refine pan_of fun K hK=>S_font_must_ok ?_;unfold S_font_must;simp only[rs,Bool.not_false,i_t];exact c_pan (need47_f 27 (by decide) w) fun c w' ⟨hc,hw⟩=>hK _ _ ⟨hc,hw⟩
section
variable {w:World}{PK:PKT}{K:VWP}{S:Nat→Prop}{w0:World}{L:List Ent}
theorem c_must47 {q:Bool}(hq:q=true)(k:K (.tuple #[]) w):CallX prog 86 #[.bool q] w PK K:=by subst hq;exact c_eq (must47_t w) k
theorem c_need47 {e:Int}(he:e=0)(k:K (.tuple #[]) w):CallX prog 42 #[.int .i64 e] w PK K:=by subst he;exact c_eq (need47_t w) k
end
theorem number47_ret (o:Ob){vk vc:Value}(h1:vk.oneCell'=true)(h2:vc.oneCell'=true)(most:Int)(w:World)(h:Fo.within o most):Ret prog 121 #[obV o vk vc,.int .i64 most] w (fun v w'=>v=.int .i64 o.n∧Below w.heap.size w w'):=by
 obtain⟨a1,a2,a3⟩:=h;refine ret_of fun K hK=>S_font_number_int_ok ?_;unfold S_font_number_int;refine o_obb o h1 h2 (Own.start w) fun b w1 ho=>?_;rw[fa_o0,ob_k ho 0 rfl];simp only[rs,decide_eq_true a1];rw[fa_o1,ob_n ho 0 rfl];simp only[rs,decide_eq_true a2];rw[fa_o1,ob_n ho 0 rfl];simp only[rs,decide_eq_true a3];refine c_must47 rfl ?_;rw[fa_o1,ob_n ho 0 rfl];exact hK _ _ ⟨rfl,ho.done⟩
theorem number47w_ret (o:Ob){vk vc:Value}(h1:vk.oneCell'=true)(h2:vc.oneCell'=true)(most:Int)(w:World)(h:Fo.within o most):Ret prog 119 #[obV o vk vc,.int .i64 most] w (fun v w'=>v=.int .i64 o.n∧Below w.heap.size w w'):=by
 obtain⟨a1,a2,a3⟩:=h;refine ret_of fun K hK=>S_font_number_int64_ok ?_;unfold S_font_number_int64;refine o_obb o h1 h2 (Own.start w) fun b w1 ho=>?_;rw[fa_o0,ob_k ho 0 rfl];simp only[rs,decide_eq_true a1];rw[fa_o1,ob_n ho 0 rfl];simp only[rs,decide_eq_true a2];rw[fa_o1,ob_n ho 0 rfl];simp only[rs,decide_eq_true a3];refine c_must47 rfl ?_;rw[fa_o1,ob_n ho 0 rfl];exact hK _ _ ⟨rfl,ho.done⟩
theorem or47_ret (o:Ob){vk vc:Value}(h1:vk.oneCell'=true)(h2:vc.oneCell'=true)(most none:Int)(w:World)(h:o.k=0∨Fo.within o most):Ret prog 117 #[obV o vk vc,.int .i64 most,.int .i64 none] w (fun v w'=>v=.int .i64 (Fo.orI o none)∧Below w.heap.size w w'):=by
 refine ret_of fun K hK=>S_font_or_int_ok ?_;unfold S_font_or_int;unfold Fo.orI at hK;refine o_obb o h1 h2 (Own.start w) fun b w1 ho=>?_;rw[fa_o0,ob_k ho 0 rfl]
 try simp only[rs]
 by_cases h0:o.k=0
 ·rw[if_pos h0] at hK;simp only[decide_eq_true h0,i_t];exact hK _ _ ⟨rfl,ho.done⟩
 ·rw[if_neg h0] at hK;simp only[decide_eq_false h0,i_f];rw[ob_v ho 0 rfl];refine c_below ho (R:=fun v=>v=.int .i64 o.n) (number47_ret o h1 h2 most w1 (h.resolve_left h0)) ?_;rintro _ w2 rfl ho;exact hK _ _ ⟨rfl,ho.done⟩
theorem or47w_ret (o:Ob){vk vc:Value}(h1:vk.oneCell'=true)(h2:vc.oneCell'=true)(most none:Int)(w:World)(h:o.k=0∨Fo.within o most):Ret prog 120 #[obV o vk vc,.int .i64 most,.int .i64 none] w (fun v w'=>v=.int .i64 (Fo.orI o none)∧Below w.heap.size w w'):=by
 refine ret_of fun K hK=>S_font_or_int64_ok ?_;unfold S_font_or_int64;unfold Fo.orI at hK;refine o_obb o h1 h2 (Own.start w) fun b w1 ho=>?_;rw[fa_o0,ob_k ho 0 rfl]
 try simp only[rs]
 by_cases h0:o.k=0
 ·rw[if_pos h0] at hK;simp only[decide_eq_true h0,i_t];exact hK _ _ ⟨rfl,ho.done⟩
 ·rw[if_neg h0] at hK;simp only[decide_eq_false h0,i_f];rw[ob_v ho 0 rfl];refine c_below ho (R:=fun v=>v=.int .i64 o.n) (number47w_ret o h1 h2 most w1 (h.resolve_left h0)) ?_;rintro _ w2 rfl ho;exact hK _ _ ⟨rfl,ho.done⟩
theorem o_ob1 {w:World}{PK:PKT}{K:VWP}{S:Nat→Prop}{w0:World}{L:List Ent}(o:Ob){vk vc:Value}(h1:vk.oneCell'=true)(h2:vc.oneCell'=true)(ho:OwnS S w0 w L)
  (k:∀b w',OwnS S w0 w' (.cells b (obC o vk vc) 48::L)→K (.slice (some ⟨b,0,none⟩) 1 1) w'):DoX prog (mBuildS 46 1 #[(0,obV o vk vc)]) w PK K:=by
 refine o_new (fun b=>.slice (some ⟨b,0,none⟩) 1 1) (obC o vk vc) 48 (fun _=>?_) ho k;cases vk<;>first|(cases h1;done)|skip
 all_goals cases vc<;>first|(cases h2;done)|kernel_rfl
theorem kids47F {M:Mem}{vc:Value}{os:List Ob}{cs:List Value}(hs:SlA M.A M.w vc 6 os.length cs)(hall:OVs M.A M.w cs os){i:Nat}(hi:i < os.length) :
  ∃b off vk xc,(∀W,(mIA 46 vc (.int .i64 (i:Int))).run prog W=.ok (.value (.pointer (some ⟨b,off,none⟩))) W)∧OV M.A M.w (obV os[i] vk xc) os[i] ∧
   ∀W,M.has W→∀j u,(obC os[i] vk xc)[j]?=some u→W.cell? ⟨b,off+j,none⟩=some u:=by
 obtain⟨b,off,cap,rfl,_⟩:=sl_open hs.1 (by omega);obtain⟨a,hl,hov,hget⟩:=OVs.get _ _ i hi hall;obtain⟨vk,xc,ocs,he,hoa⟩:=hov.open;have ea:a=obC os[i] vk xc:=by
  unfold obV at he
  injection he with he
  exact congrArg Array.toList he
 subst ea;refine⟨b,off+i*6,vk,xc,fun W=>?_,hov,fun W hW j u hj=>?_⟩
 ·have:=run_ia (P:=prog) (T:=46) (b:=b) (off:=off) (cap:=cap) (n:=os.length) (k:=.i64) (i:=(i:Int)) (w:=W) Tryz.underlying46 szOb (by omega) (by omega)
  rwa [Int.toNat_natCast] at this
 ·obtain⟨b',off',cap',he',hc⟩:=sl_open (hs.now hW) (by omega);cases he';rw[Nat.add_assoc];exact hc _ _ (hget j u hj)
def rdC (d:Dc)(vi tk tc:Value)(o:Ob)(vk vc:Value):List Value:=dcC d vi tk tc++obC o vk vc
def rdV (d:Dc)(vi tk tc:Value)(o:Ob)(vk vc:Value):Value:=.agg (rdC d vi tk tc o vk vc).toArray
abbrev rdE (b:Nat)(d:Dc)(vi tk tc:Value)(o:Ob)(vk vc:Value):Ent:=.cells b (rdC d vi tk tc o vk vc) 93
theorem aggRd:aggN prog 93=some 13:=by kernel_rfl
section
variable {w:World}{PK:PKT}{K:VWP}{S:Nat→Prop}{w0:World}{L:List Ent}
theorem o_rdb (d:Dc)(o:Ob){A:Nat→Prop}{W0:World}{vi tk tc vk vc:Value}{ics:List Value}(hda:DocAt A W0 d vi tk tc ics)(hv:OV A W0 (obV o vk vc) o)(ho:OwnS S w0 w L)
  (k:∀b w',OwnS S w0 w' (rdE b d vi tk tc o vk vc::L)→K (.pointer (some ⟨b,0,none⟩)) w'):DoX prog (mBox 93 (rdV d vi tk tc o vk vc)) w PK K:=by
 obtain⟨a1,c1,rfl,_⟩:=hda.items.form;obtain⟨_,h2⟩:=hda.trailer.slices;obtain⟨a2,c2,rfl,_⟩:=h2.keys.form;obtain⟨a3,c3,rfl,_⟩:=h2.kids.form;obtain⟨_,h4⟩:=hv.slices;obtain⟨a4,c4,rfl,_⟩:=h4.keys.form;obtain⟨a5,c5,rfl,_⟩:=h4.kids.form;exact o_new (fun b=>.pointer (some ⟨b,0,none⟩)) (rdC d _ _ _ o _ _) 93 (fun _=>by kernel_rfl) ho k
theorem fa_rd0 {b:Nat}:DoX prog (mFA 93 (.pointer (some ⟨b,0,none⟩)) 0) w PK K=K (.pointer (some ⟨b,0,none⟩)) w:=f_addr (o:=0) (by kernel_rfl)
theorem fa_rd1 {b:Nat}:DoX prog (mFA 93 (.pointer (some ⟨b,0,none⟩)) 1) w PK K=K (.pointer (some ⟨b,7,none⟩)) w:=f_addr (o:=7) (by kernel_rfl)
theorem rd_v (ho:OwnS S w0 w L)(i:Nat){b:Nat}{d:Dc}{o:Ob}{vi tk tc vk vc:Value}(hi:L[i]?=some (rdE b d vi tk tc o vk vc)):DoX prog (mLoad 93 (.pointer (some ⟨b,0,none⟩))) w PK K=K (rdV d vi tk tc o vk vc) w:=l_at (ho.agg i hi aggRd)
theorem rd_d (ho:OwnS S w0 w L)(i:Nat){b:Nat}{d:Dc}{o:Ob}{vi tk tc vk vc:Value}(hi:L[i]?=some (rdE b d vi tk tc o vk vc)):DoX prog (mLoad 50 (.pointer (some ⟨b,0,none⟩))) w PK K=K (dcV d vi tk tc) w:=l_at (ho.subAgg i hi 0 (dcC d vi tk tc) rfl aggDc)
theorem rd_o (ho:OwnS S w0 w L)(i:Nat){b:Nat}{d:Dc}{o:Ob}{vi tk tc vk vc:Value}(hi:L[i]?=some (rdE b d vi tk tc o vk vc)):DoX prog (mLoad 48 (.pointer (some ⟨b,7,none⟩))) w PK K=K (obV o vk vc) w:=l_at (ho.subAgg i hi 7 (obC o vk vc) rfl aggOb)
end
theorem at47_ret (d:Dc)(o:Ob)(key:List UInt8){vi tk tc vk vc:Value}{ics:List Value}(M:Mem)(w:World)(hd:Dk.Ok d)(hw:o.wt≤1000000000)(hM:M.has w)(hda:DocAt M.A M.w d vi tk tc ics)(hv:OV M.A M.w (obV o vk vc) o) :
  RetM prog 85 #[rdV d vi tk tc o vk vc,.string ⟨key.toArray⟩] M w (fun r N=>OV N.A N.w r (Fo.val d o key)):=by
 refine retM_of hM fun K hK=>S_font_reader_at_ok ?_;unfold S_font_reader_at;refine o_rdb d o hda hv (OwnS.memS hM) fun b2 w1 ho=>?_;refine o_oba ho fun b4 w2 ho=>?_;rw[fa_rd0,rd_d ho 1 rfl,fa_rd1,rd_o ho 1 rfl];refine o_strb1 key ho fun b7 w7 ho=>?_;obtain⟨N,hle,hrow,ho⟩:=OwnS.freezeU (ho.toU 1 1 1 rfl (by omega) (by omega)) 2 rfl;refine c_mem ho 2 rfl (dpath_ret d o [key] _ _ _ N w7 hd hw (show 1≤1000000000 by decide) (ho.hasM 2 rfl) ⟨vi,tk,tc,ics,rfl,hda.le hle⟩ (hv.le hle) hrow) ?_;intro y N2 w8 l2 hy ho;obtain⟨yk,yc,ycs,rfl,hya⟩:=hy.open;refine ob_put 0 hya.keys.one hya.kids.one ho rfl fun w9 ho=>?_;exact ret_v1 (rv_cell (ho.agg 0 rfl aggOb)) (hK _ _ N2 _ 2 ho rfl (hle.trans l2) hya.ov)
theorem kids47_ret (d:Dc)(o x:Ob){vi tk tc vk vc xk xc:Value}{ics:List Value}(M:Mem)(w:World)(hd:Dk.Ok d)(hx:x.k=0∨x.k=6)(hxw:x.wt≤1000000000)(hM:M.has w)(hda:DocAt M.A M.w d vi tk tc ics)(hv:OV M.A M.w (obV o vk vc) o)(hxv:OV M.A M.w (obV x xk xc) x) :
  RetM prog 118 #[rdV d vi tk tc o vk vc,obV x xk xc] M w (fun r N=>∃cs,SlA N.A N.w r 6 (if x.k=0 then [] else x.kids.map (Dk.follow d)).length cs∧OVs N.A N.w cs (if x.k=0 then [] else x.kids.map (Dk.follow d))):=by
 obtain⟨xk',xc',xcs,he,hxa⟩:=hxv.open;obtain⟨rfl,rfl⟩:xk=xk'∧xc=xc':=by
  have e1:=congrArg (fun v=>Value.cells v) he;simp only[obV,Value.cells,obC] at e1;simp at e1;exact⟨e1.1,e1.2⟩
 have hxl:x.kids.length≤1000000000:=by have:=Ob.len_wts x.kids;have h2:=Vl.wt_eq x;omega
 refine retM_of hM fun K hK=>S_font_reader_kids_ok ?_;unfold S_font_reader_kids;refine o_rdb d o hda hv (OwnS.memS hM) fun b2 w1 ho=>?_;refine o_obb x hxa.keys.one hxa.kids.one ho fun b3 w2 ho=>?_;rw[fa_o0,ob_k ho 0 rfl]
 try simp only[rs]
 by_cases h0:x.k=0
 ·rw[if_pos h0] at hK;simp only[decide_eq_true h0,i_t];exact hK _ _ M _ 2 ho rfl M.le_refl ⟨[],SlA.nil _ _ _ _,OVs.nil⟩
 rw[if_neg h0] at hK;simp only[decide_eq_false h0,i_f];rw[fa_o0,ob_k ho 0 rfl]
 try simp only[rs]
 refine c_must47 (decide_eq_true (hx.resolve_left h0)) ?_;rw[fa_o5,ob_kids ho 0 rfl,sl_len Tryz.underlying46 (hxa.kids.now (ho.hasM 2 rfl))];have ho:=OwnS.nilU ho 48 6;refine loop (fun vs W=>∃(i:Nat) (u:Value) (cs:List Value) (N:Mem),vs=[u,.int .i64 (i:Int)]∧i≤x.kids.length∧M.le N∧OVs N.A N.w cs ((x.kids.take i).map (Dk.follow d))∧OwnS M.A w W [.urow 48 6 u i cs,obE b3 x xk xc,rdE b2 d vi tk tc o vk vc,.mem N]) (fun vs _=>x.kids.length - n1 vs) ⟨0,_,[],M,rfl,by omega,M.le_refl,OVs.nil,ho⟩ ?_;clear ho;rintro vs w3 ⟨i,u,cs,N,rfl,hi,hle,hos,ho⟩ _;simp only[S_font_reader_kids_0,gd,rs];by_cases hlt:(i:Int) < (x.kids.length:Int)
 case neg=>
  simp only[decide_eq_false hlt,i_f];have:i=x.kids.length:=by omega
  subst this;rw[List.take_length] at hos;obtain⟨N2,l2,hs2,ho⟩:=OwnS.freezeU ho 2 rfl;exact hK _ _ N2 _ 2 ho rfl (hle.trans l2) ⟨cs,by rw[List.length_map];exact hs2,hos.le l2⟩
 simp only[decide_eq_true hlt,i_t];have hi':i < x.kids.length:=by omega
 obtain⟨b,off,yk,yc,hia,hov,hcell⟩:=kids47F (hxa.kids.le hle) (hxa.all.le hle) hi';have hM3:=ho.hasM 3 rfl;rw[do_eq (hia w3),do_eq (run_load_at (AtV.agg aggOb (cs:=obC x.kids[i] yk yc) rfl fun j v hj=>hcell w3 hM3 j v hj))];refine o_oba ho fun b7 w4 ho=>?_;refine ob_put 0 hov.oneK hov.oneC ho rfl fun w5 ho=>?_;have ho:OwnS M.A w w5 [obE b7 x.kids[i] yk yc,.urow 48 6 u i cs,obE b3 x xk xc,rdE b2 d vi tk tc o vk vc,.mem N]:=ho;rw[fa_rd0,rd_d ho 3 rfl,ob_v ho 0 rfl];have hkw:x.kids[i].wt≤x.wt:=by
  have h1:=wts_mem (List.getElem_mem hi');have h2:=Vl.wt_eq x;omega
 refine c_mem ho 4 rfl (dfollow_ret d x.kids[i] _ _ N w5 hd (by omega) (ho.hasM 4 rfl) ⟨vi,tk,tc,ics,rfl,hda.le hle⟩ hov) ?_;intro y N2 w6 l2 hy ho;obtain⟨zk,zc,zcs,rfl,hza⟩:=hy.open;refine o_ob1 (Dk.follow d x.kids[i]) hza.keys.one hza.kids.one ho fun b8 w7 ho=>?_;refine o_apO 2 ho rfl (ho.sl 0 rfl 6 1 1 rfl) (obC_one _ hza.keys.one hza.kids.one) (by omega) fun u' w8 ho=>?_
 try simp only[rs]
 rw[wrap64_id (by omega) (by omega)];refine nextX ⟨i+1,u',cs++obC (Dk.follow d x.kids[i]) zk zc,N2,rfl,by omega,hle.trans l2,?_,ho.tail.tail⟩ (by simp[n1,RowKit.intOf];omega);rw[List.take_succ_eq_append_getElem hi',List.map_append];exact OVs.snoc rfl hza.ov _ _ (hos.le l2)
end
end Go.Proofs.YtmkodaephgnehaaGreatDoor






namespace Go.Proofs.YtmkodaephgnehaaGreatDoor
section
open Eng Go.RowKit
theorem contains_ret (va:Value)(l:List (List UInt8))(x:List UInt8)(w:World)(ha:Sl w va 1 l.length (strsV l))(hl:l.length≤1099511627776) :
  Ret prog 97 #[va,.string ⟨x.toArray⟩] w (fun v w'=>v=.bool (decide (x∈l))∧w=w'):=by
 refine ret_of fun K hK=>S_slices_Contains_string_string_ok ?_;unfold S_slices_Contains_string_string;refine c_eq (sindex_ret va l x w ha hl) ?_;by_cases h:l.idxOf x < l.length
 ·rw[if_pos h];simp only[rs];refine hK _ _ ⟨?_,rfl⟩;have hm:x∈l:=List.idxOf_lt_length_iff.1 h;rw[decide_eq_true hm,decide_eq_true (by omega)]
 ·rw[if_neg h];simp only[rs];refine hK _ _ ⟨?_,rfl⟩;have hm:x ∉ l:=fun hm=>h (List.idxOf_lt_length_iff.2 hm);rw[decide_eq_false hm,decide_eq_false (by omega)]
def Dk.knownL:List (List UInt8):=[Dk.idK,Dk.infoK,Dk.rootK]
theorem Dk.known_mem (k:List UInt8):decide (k∈Dk.knownL)=Dk.known k:=by
 rw[Bool.eq_iff_iff];simp[Dk.knownL,Dk.known,or_assoc]
theorem known_ret (M:Mem)(w:World)(hM:M.has w):RetM prog 98 #[] M w (fun r N=>SlA N.A N.w r 1 3 (strsV Dk.knownL)):=by
 refine retM_of hM fun K hK=>S_docs_known_ok ?_;unfold S_docs_known;refine o_new (fun b=>.slice (some ⟨b,0,none⟩) 3 3) (strsV Dk.knownL) 9 (fun _=>by kernel_rfl) (OwnS.memS hM) fun b w1 ho=>?_;obtain⟨N,hle,hrow,ho⟩:=OwnS.freezeU (L:=[.mem M]) (ho.toU 1 3 3 (by decide) (by omega) (by omega)) 0 rfl;exact hK _ _ N _ 0 ho rfl hle hrow
theorem Dk.trail_keys (d:Dc)(hc:Vl.check 1 d.trailer=0)(h7:d.trailer.k=7)(h:d.trailer.keys.all Dk.known=false):Dk.trail d=3:=by
 unfold Dk.trail;rw[if_neg (by simp[hc]),if_neg (by simp[h7]),if_pos h]
theorem Dk.trail_end (d:Dc)(hc:Vl.check 1 d.trailer=0)(h7:d.trailer.k=7)(h:d.trailer.keys.all Dk.known=true):Dk.trail d=if (Dk.root d).k≠8∨(Dk.follow d (Dk.root d)).k≠7 then 22 else 0:=by
 unfold Dk.trail;rw[if_neg (by simp[hc]),if_neg (by simp[h7]),if_neg (by simp[h])]
theorem Dk.all_false {l:List (List UInt8)}{i:Nat}(hi:i < l.length)(h:Dk.known l[i]=false):l.all Dk.known=false:=by
 rw[List.all_eq_false];exact⟨l[i],List.getElem_mem hi,by simp[h]⟩
theorem Dk.all_true {l:List (List UInt8)}{i:Nat}(hi:l.length≤i)(h:∀m (hm:m < l.length),m < i→Dk.known l[m]=true):l.all Dk.known=true:=by
 rw[List.all_eq_true];intro x hx;obtain⟨m,hm,rfl⟩:=List.getElem_of_mem hx;exact h m hm (by omega)
theorem dtrail_ret (d:Dc)(dv:Value)(M:Mem)(w:World)(hd:Dk.Ok d)(hM:M.has w)(hdv:DV M.A M.w dv d) :
  RetM prog 66 #[dv] M w (fun r _=>r=.int .i64 (Dk.trail d)):=by
 obtain⟨vi,tk,tc,cs,rfl,hda⟩:=hdv;obtain⟨ocs,hta⟩:=hda.trailer.slices;have htw:=hd.trailer;have hkt:Pl.tot d.trailer.keys≤1000000000:=by have:=d.trailer.wt_eq;omega
 have hkl:=Pl.length_tot d.trailer.keys;refine retM_of hM fun K hK=>S_docs_trail_ok ?_;unfold S_docs_trail;refine o_dcb d hda.items.one hda.trailer.oneK hda.trailer.oneC (OwnS.memS hM) fun b w1 ho=>?_;rw[fa_d1,dc_tr ho 0 rfl];refine c_below ho (R:=fun v=>v=.int .i64 (Vl.check 1 d.trailer)) (vCheck_ret d.trailer _ w1 (OV.inw (ho.hasM 1 rfl) hda.trailer) (by omega)) ?_;rintro _ w2 rfl ho;simp only[n_err];by_cases hc:Vl.check 1 d.trailer=0
 case neg=>
  simp only[hc,ne_eq,not_false_eq_true,decide_true,i_t];exact hK _ _ M _ 1 ho rfl M.le_refl (by unfold Dk.trail;rw[if_pos hc])
 simp only[hc,ne_eq,not_true,decide_false,i_f];rw[fa_d1,fa_o0,dc_trk ho 0 rfl];simp only[rs];by_cases h7:d.trailer.k=7
 case neg=>
  simp only[h7,ne_eq,not_false_eq_true,decide_true,i_t];exact hK _ _ M _ 1 ho rfl M.le_refl (by unfold Dk.trail;rw[if_neg (by simp[hc]),if_pos h7])
 simp only[h7,ne_eq,not_true,decide_false,i_f];rw[fa_d1,fa_o4,dc_trkeys ho 0 rfl,sl_len Tryz.underlying23 (hta.keys.now (ho.hasM 1 rfl))];refine loop (fun vs W=>∃(i:Nat) (N:Mem),vs=[.int .i64 i]∧i≤d.trailer.keys.length∧M.le N∧(∀m (hm:m < d.trailer.keys.length),m < i→Dk.known d.trailer.keys[m]=true)∧OwnS M.A w W [dcE b d vi tk tc,.mem N]) (fun vs _=>d.trailer.keys.length - n0 vs)
  ⟨0,M,rfl,by omega,M.le_refl,fun m _ h=>by omega,ho⟩ ?_
 clear ho;rintro vs w3 ⟨i,N,rfl,hi,hle,hlo,ho⟩ _;simp only[S_docs_trail_0,gd,rs];by_cases hlt:(i:Int) < (d.trailer.keys.length:Int)
 ·have hi':i < d.trailer.keys.length:=by omega
  simp only[hlt,decide_true,i_t];obtain⟨p,hr⟩:=str_at hta.keys hi';obtain⟨r1,r2⟩:=hr w3 (Mem.has_of hle (ho.hasM 1 rfl));refine do_eq r1 |>.mpr (do_eq r2 |>.mpr ?_);refine c_mem ho 1 rfl (known_ret N w3 (ho.hasM 1 rfl)) fun y N2 w4 hle2 hy ho=>?_;refine c_eq (contains_ret y Dk.knownL d.trailer.keys[i] w4 (hy.now (ho.hasM 1 rfl)) (by decide)) ?_;rw[Dk.known_mem];cases hk:Dk.known d.trailer.keys[i] with
 |false=>
   simp only[rs,Bool.not_false];exact hK _ _ N2 _ 1 ho rfl (hle.trans hle2) (by rw[Dk.trail_keys d hc h7 (Dk.all_false hi' hk)])
 |true=>
   simp only[rs,Bool.not_true];rw[wrap64_id (by omega) (by omega)];refine nextX ⟨i+1,N2,rfl,by omega,hle.trans hle2,fun m hm hmi=>?_,ho⟩ (by simp[n0,RowKit.intOf];omega);rcases Nat.lt_or_ge m i with h|h
   ·exact hlo m hm h
   ·have:m=i:=by omega
    subst this;exact hk
 ·simp only[hlt,decide_false,i_f];have he:=Dk.trail_end d hc h7 (Dk.all_true (by omega) hlo);rw[fa_d1,dc_tr ho 0 rfl];refine c_mem ho 1 rfl (vget_ret d.trailer _ Dk.rootK N w3 (by omega) (ho.hasM 1 rfl) (hda.trailer.le hle)) ?_;rintro _ N2 w4 hle2 ⟨t,rfl,ht⟩ ho;obtain⟨xk,xc,rfl,ht⟩:=getD_ov ht;have hrw:(Dk.root d).wt≤1000000000:=by have:=Vl.get_wt (o:=d.trailer) (key:=Dk.rootK);unfold Dk.root;omega
  rw[show (Vl.get d.trailer Dk.rootK).getD Vl.ob0=Dk.root d from rfl] at ht ⊢;simp only[getV,ex];refine o_oba ho fun b6 w5 ho=>?_;refine ob_put 0 ht.oneK ht.oneC ho rfl fun w6 ho=>?_;rw[fa_o0,ob_k ho 0 rfl];simp only[rs];by_cases h8:(Dk.root d).k=8
  case neg=>
   simp only[h8,ne_eq,not_false_eq_true,decide_true,rs,g_un];exact hK _ _ N2 _ 2 ho rfl (hle.trans hle2) (by rw[he,if_pos (Or.inl h8)])
  simp only[h8,ne_eq,not_true,decide_false,rs];rw[dc_v ho 1 rfl,ob_v ho 0 rfl];refine c_mem ho 2 rfl (dfollow_ret d (Dk.root d) _ _ N2 w6 hd hrw (ho.hasM 2 rfl) ((hda.le (hle.trans hle2)).dv) ht) fun y N3 w7 hle3 hy ho=>?_;obtain⟨yk,yc,ycs,rfl,hya⟩:=hy.open;rw[fld_k];simp only[rs];by_cases hf:(Dk.follow d (Dk.root d)).k=7
  ·simp only[hf,ne_eq,not_true,decide_false,rs];exact hK _ _ N3 _ 2 ho rfl ((hle.trans hle2).trans hle3) (by rw[he,if_neg (by simp[h8,hf])])
  ·simp only[hf,ne_eq,not_false_eq_true,decide_true,rs];exact hK _ _ N3 _ 2 ho rfl ((hle.trans hle2).trans hle3) (by rw[he,if_pos (Or.inr hf)])
theorem dcheck_ret (d:Dc)(dv:Value)(M:Mem)(w:World)(hd:Dk.Ok d)(hM:M.has w)(hdv:DV M.A M.w dv d) :
  RetM prog 37 #[dv] M w (fun r _=>r=.int .i64 (Dk.check d)):=by
 obtain⟨vi,tk,tc,cs,rfl,hda⟩:=hdv;refine retM_of hM fun K hK=>S_docs_Check_ok ?_;unfold S_docs_Check;refine o_dcb d hda.items.one hda.trailer.oneK hda.trailer.oneC (OwnS.memS hM) fun b w1 ho=>?_;rw[fa_d0,dc_items ho 0 rfl];refine c_below ho (R:=fun v=>v=.int .i64 (Dk.itemsG none d.items)) (RetM.told (ditems_ret d.items vi cs M w1 hd.len (fun i hi=>by have:=hd.items i hi;omega) (ho.hasM 1 rfl) hda.items hda.all)) ?_;rintro _ w2 rfl ho;simp only[n_err];by_cases hc:Dk.itemsG none d.items=0
 case neg=>
  simp only[hc,ne_eq,not_false_eq_true,decide_true,i_t];exact hK _ _ M _ 1 ho rfl M.le_refl (by unfold Dk.check;rw[if_pos hc])
 simp only[hc,ne_eq,not_true,decide_false,i_f];rw[dc_v ho 0 rfl];refine c_below ho (R:=fun v=>v=.int .i64 (Dk.trail d)) (RetM.told (dtrail_ret d _ M w2 hd (ho.hasM 1 rfl) hda.dv)) ?_;rintro _ w3 rfl ho;exact hK _ _ M _ 1 ho rfl M.le_refl (by unfold Dk.check;rw[if_neg (by simp[hc])])
end
section
open Go
namespace Dk
def Rise (l:List It):Prop:=l.Pairwise fun a b=>a.num < b.num
theorem itemsG_rise:∀(l:List It) (last:Option Int),itemsG last l=0→(∀n,last=some n→∀i∈l,n < i.num)∧Rise l
|[],_,_=>⟨fun _ _ i hi=>(by cases hi),List.Pairwise.nil⟩
|i::l,last,h=>by
  rw[itemsG] at h;split at h
  ·omega
  split at h
  ·omega
  split at h
  ·rename_i h3;exact absurd h h3
  rename_i h1 h2 h3
  obtain⟨a,b⟩:=itemsG_rise l (some i.num) h;have hl:=a i.num rfl;refine⟨fun n hn x hx=>?_,List.pairwise_cons.2 ⟨hl,b⟩⟩;subst hn;simp at h2;rcases List.mem_cons.1 hx with rfl|hx
  ·exact h2
  ·have:=hl x hx;omega
theorem check_rise {d:Dc}(h:check d=0):Rise d.items:=by
 unfold check at h;split at h
 ·rename_i h1;exact absurd h h1
 ·rename_i h1
  have h1:itemsG none d.items=0:=by simpa using h1
  exact (itemsG_rise _ _ h1).2
theorem rise_get {l:List It}(h:Rise l){i j:Nat}(hij:i < j)(hj:j < l.length):l[i].num < l[j].num:=
 List.pairwise_iff_getElem.1 h i j (by omega) hj hij
theorem place_le (l:List It)(n:Int):place l n≤l.length:=by
 unfold place;exact List.Sublist.length_le (List.takeWhile_sublist _)
theorem place_at:∀{l:List It} {n:Int} {i:Nat},i≤l.length→(∀m (h:m < l.length),m < i→l[m].num < n)→(∀h:i < l.length,¬l[i].num < n)→place l n=i
|[],n,i,hi,_,_=>by
  have:i=0:=by simpa using hi
  subst this;rfl
|a::l,n,0,_,_,h2=>by
  have:=h2 (by simp);simp at this;unfold place;rw[List.takeWhile_cons,if_neg (by simpa using this)];rfl
|a::l,n,i+1,hi,h1,h2=>by
  have ha:=h1 0 (by simp) (by omega);have ih:=place_at (l:=l) (n:=n) (i:=i) (by simpa using hi) (fun m h hm=>by have:=h1 (m+1) (by simpa using h) (by omega);simpa using this) (fun h=>by have:=h2 (by simpa using h);simpa using this);unfold place at ih ⊢;rw[List.takeWhile_cons,if_pos (by simpa using ha),List.length_cons,ih]
theorem hit_at {l:List It}{n:Int}{i:Nat}(hp:place l n=i)(hi:i < l.length):hit l n=decide (l[i].num=n):=by
 unfold hit;rw[hp,List.getElem?_eq_getElem hi]
theorem hit_out {l:List It}{n:Int}(h:l.length≤place l n):hit l n=false:=by
 unfold hit;rw[List.getElem?_eq_none h]
theorem hit_lt {l:List It}{n:Int}(h:hit l n=true):place l n < l.length:=by
 rcases Nat.lt_or_ge (place l n) l.length with h'|h'
 ·exact h'
 ·rw[hit_out h'] at h;cases h
theorem lay_hit {l:List It}{i:It}(h:hit l i.num=true):lay l i=l.take (place l i.num)++i::l.drop (place l i.num+1):=by
 unfold lay;rw[if_pos h]
theorem lay_miss {l:List It}{i:It}(h:hit l i.num=false):lay l i=l.take (place l i.num)++i::l.drop (place l i.num):=by
 unfold lay;rw[if_neg (by simp[h])];rfl
theorem lay_len_hit {l:List It}{i:It}(h:hit l i.num=true):(lay l i).length=l.length:=by
 have:=hit_lt h;rw[lay_hit h];simp;omega
theorem lay_len_miss {l:List It}{i:It}(h:hit l i.num=false):(lay l i).length=l.length+1:=by
 have:=place_le l i.num;rw[lay_miss h];simp;omega
theorem lay_mem {l:List It}{i x:It}(h:x∈lay l i):x=i∨x∈l:=by
 unfold lay at h;rcases List.mem_append.1 h with h|h
 ·exact .inr (List.mem_of_mem_take h)
 ·rcases List.mem_cons.1 h with h|h
  ·exact .inl h
  ·exact .inr (List.mem_of_mem_drop h)
end Dk
end
section
open Eng Go.RowKit
namespace Eng
def Ent.two (e f:Ent):Ent:=⟨fun k=>e.blk k∨f.blk k,fun w=>e.is w∧f.is w∧∀k,e.blk k→¬f.blk k,
 fun h k=>⟨e.keep h.1 fun b hb=>k b (.inl hb),f.keep h.2.1 fun b hb=>k b (.inr hb),h.2.2⟩,fun h k hk=>hk.elim (e.lt h.1 k) (f.lt h.2.1 k)⟩
section
variable {S:Nat→Prop}{w w0:World}{L:List Ent}
theorem OwnS.split {e f:Ent}(ho:OwnS S w0 w (.two e f::L)):OwnS S w0 w (e::f::L):=by
 obtain⟨⟨he,hf,hd⟩,hb⟩:=ho.all (.two e f) (by simp);obtain⟨a1,a2⟩:=List.pairwise_cons.1 ho.apart;refine⟨ho.grew,fun x hx=>?_,List.pairwise_cons.2 ⟨fun x hx k hk=>?_,List.pairwise_cons.2 ⟨fun x hx k hk=>a1 x hx k (.inr hk),a2⟩⟩⟩
 ·rcases List.mem_cons.1 hx with rfl|hx
  ·exact⟨he,fun k hk=>hb k (.inl hk)⟩
  rcases List.mem_cons.1 hx with rfl|hx
  ·exact⟨hf,fun k hk=>hb k (.inr hk)⟩
  ·exact ho.all x (List.mem_cons_of_mem _ hx)
 ·rcases List.mem_cons.1 hx with rfl|hx
  ·exact hd k hk
  ·exact a1 x hx k (.inl hk)
theorem OwnS.two2 {e f:Ent}(ho:OwnS S w0 w L)(i j:Nat)(hij:i≠j)(hi:L[i]?=some e)(hj:L[j]?=some f):OwnS S w0 w [.two e f]:=by
 have h1:=ho.all e (List.mem_of_getElem? hi);have h2:=ho.all f (List.mem_of_getElem? hj);refine⟨ho.grew,fun x hx=>?_,List.pairwise_singleton _ _⟩;rw[List.mem_singleton] at hx;subst hx;exact⟨⟨h1.1,h2.1,OwnS.sep ho i j hij hi hj⟩,fun k hk=>hk.elim (h1.2 k) (h2.2 k)⟩
end
end Eng
section
variable {P:Program}{S:World→Prop}{K:Value→Prop}
theorem hd_do {m:Sem Next}(v:Value)(h:∀w,S w→m.run P w=.ok (.value v) w)(k:K v):HDo P S m K:=⟨v,h,k⟩
theorem hd_pure {m:Sem Next}(v:Value)(h:∀w,m.run P w=.ok (.value v) w)(k:K v):HDo P S m K:=⟨v,fun w _=>h w,k⟩
end
section
variable {w:World}{PK:PKT}{K:VWP}{S:Nat→Prop}{w0:World}{L:List Ent}
theorem m_dcT (o:Ob){vk vc:Value}(hk:vk.oneCell'=true)(hc:vc.oneCell'=true):DoX prog (mBuild 50 #[(1,obV o vk vc)]) w PK K=K (dcV ⟨[],o⟩ nilS vk vc) w:=by
 cases vk<;>first|(cases hk;done)|skip
 all_goals cases vc<;>first|(cases hc;done)|exact do_eq (by kernel_rfl)
theorem o_its1 (i:It){vk vc:Value}(hk:vk.oneCell'=true)(hc:vc.oneCell'=true)(ho:OwnS S w0 w L)(k:∀b w',OwnS S w0 w' (itE b i vk vc::L)→K (.slice (some ⟨b,0,none⟩) 1 1) w'):DoX prog (mBuildS 45 1 #[(0,itV i vk vc)]) w PK K:=by
 cases vk<;>first|(cases hk;done)|skip
 all_goals cases vc<;>first|(cases hc;done)|exact o_new (fun b=>.slice (some ⟨b,0,none⟩) 1 1) (itC i _ _) 89 (fun _=>by kernel_rfl) ho k
theorem sl_one1 {b:Nat}{cs:List Value}{T:TypeId}{sz:Nat}(h:w.heap[b]?=some (.cells cs.toArray T (0,0)))(hsz:0 < sz)(hl:cs.length=sz):Sl w (.slice (some ⟨b,0,none⟩) 1 1) sz 1 cs:=
 ⟨by omega,some ⟨b,0,none⟩,1,rfl,fun h=>(by cases h),fun p hp=>by cases hp;exact⟨fun _=>rfl,fun j u hj=>by rw[Nat.zero_add];exact cells_cell (T:=T) h hj⟩⟩
theorem o_apI (i:Nat){v v2:Value}{n m:Nat}{xs news:List Value}{cb:Array Bool}(ho:OwnS S w0 w L)(hi:L[i]?=some (.urow 89 8 v n xs))(hs:Sl w v2 8 m news)(h1:∀u∈news,u.oneCell'=true)(hb:n+m≤1000000000000)
  (k:∀v' w',OwnS S w0 w' (L.set i (.urow 89 8 v' (n+m) (xs++news)))→K v' w'):DoX prog (mB .append #[45,45] 45 cb #[v,v2]) w PK K:=
 o_appendU i Tryz.underlying45 elIt (by decide) ho hi hs h1 (by omega) (by omega) k
theorem ret_dc {K:Ending→World→Prop}{b:Nat}{d:Dc}{vi vk vc:Value}(i:Nat)(ho:OwnS S w0 w L)(hi:L[i]?=some (dcE b d vi vk vc))(k:K (.returned (dcV d vi vk vc)) w):RetX prog [.cell (.pointer (some ⟨b,0,none⟩)) 50] w K:=
 ret_v1 (rv_cell (ho.agg i hi aggDc)) k
theorem ret_dc2 {K:Ending→World→Prop}{b:Nat}{d:Dc}{vi vk vc x:Value}(i:Nat)(ho:OwnS S w0 w L)(hi:L[i]?=some (dcE b d vi vk vc))(k:K (.returned (.tuple #[dcV d vi vk vc,x])) w):RetX prog [.cell (.pointer (some ⟨b,0,none⟩)) 50,.val x] w K:=
 ret_v2 (rv_cell (ho.agg i hi aggDc)) rv_val k
end
theorem ivs_1 {A:Nat→Prop}{w:World}{i:It}{vk vc:Value}(h:OV A w (obV i.obj vk vc) i.obj):IVs A w (itC i vk vc) [i]:=by
 have:=Rws.cons (R:=itR A w) (a:=itC i vk vc) (rest:=[]) (x:=i) (xs:=[]) ⟨vk,vc,rfl,h⟩ .nil
 rwa [List.append_nil] at this
theorem ivs_app {A:Nat→Prop}{w:World}:∀{cs ds:List Value} {l m:List It},IVs A w cs l→IVs A w ds m→IVs A w (cs++ds) (l++m)
|_,_,_,_,.nil,h=>h
|_,_,_,_,.cons hx t,h=>by
  rw[List.append_assoc,List.cons_append];exact .cons hx (ivs_app t h)
theorem ivs_take {A:Nat→Prop}{w:World}:∀{cs:List Value} {l:List It} (i:Nat),IVs A w cs l→IVs A w (cs.take (i*8)) (l.take i)
|_,_,0,_=>by rw[Nat.zero_mul,List.take_zero,List.take_zero];exact .nil
|_,_,i+1,.nil=>by rw[List.take_nil,List.take_nil];exact .nil
|_,_,i+1,.cons (a:=a) hx t=>by
  have hl:=itR_len _ _ hx;rw[List.take_succ_cons,List.take_append,List.take_of_length_le (by omega),hl,show (i+1)*8 - 8=i*8 by omega];exact .cons hx (ivs_take i t)
theorem ivs_drop {A:Nat→Prop}{w:World}:∀{cs:List Value} {l:List It} (i:Nat),IVs A w cs l→IVs A w (cs.drop (i*8)) (l.drop i)
|_,_,0,h=>by rw[Nat.zero_mul,List.drop_zero,List.drop_zero];exact h
|_,_,i+1,.nil=>by rw[List.drop_nil,List.drop_nil];exact .nil
|_,_,i+1,.cons (a:=a) hx t=>by
  have hl:=itR_len _ _ hx;rw[List.drop_succ_cons,List.drop_append,List.drop_eq_nil_of_le (by omega),hl,show (i+1)*8 - 8=i*8 by omega,List.nil_append];exact ivs_drop i t
theorem fresh_ret (d:Dc)(dv:Value)(M:Mem)(w:World)(hd:Dk.Ok d)(hM:M.has w)(hdv:DV M.A M.w dv d) :
  Ret prog 135 #[dv] w (fun r w'=>∃e',(∃(N:Mem) (vi vk vc:Value) (cs:List Value),e'=Ent.two (.urow 89 8 vi d.items.length cs) (.mem N)∧r=dcV d vi vk vc∧M.le N∧OV N.A N.w (obV d.trailer vk vc) d.trailer∧IVs N.A N.w cs d.items)∧Turn (.mem M) e' w w'):=by
 obtain⟨vi,tk,tc,cs,rfl,hda⟩:=hdv;have htw:=hd.trailer;have hlen:=hd.len;refine ret_of fun K hK=>S_docs_fresh_ok ?_;unfold S_docs_fresh;refine o_dcb d hda.items.one hda.trailer.oneK hda.trailer.oneC (OwnS.memS hM) fun b1 w1 ho=>?_;refine o_dca ho fun b2 w2 ho=>?_;rw[fa_d1,dc_tr ho 1 rfl];refine c_mem ho 2 rfl (clone_ret d.trailer _ M w2 (by omega) (ho.hasM 2 rfl) hda.trailer) fun y N w3 hle hy ho=>?_;obtain⟨yk,yc,ycs,rfl,hya⟩:=hy.open;rw[m_dcT d.trailer hy.oneK hy.oneC];refine o_dca ho fun b3 w4 ho=>?_;refine dc_put (d':=⟨[],d.trailer⟩) 0 rfl hy.oneK hy.oneC ho rfl fun w5 ho=>?_;rw[fa_d0,dc_items ho 2 rfl,sl_len Tryz.underlying45 (hda.items.now (Mem.has_of hle (ho.hasM 3 rfl)))];have ho:OwnS M.A w w5 [.urow 89 8 nilS 0 [],dcE b3 ⟨[],d.trailer⟩ nilS yk yc,dcE b2 Dk.dc0 nilS nilS nilS,dcE b1 d vi tk tc,.mem N]:=ho.nilU _ _;refine loop (fun vs W=>∃(i:Nat) (N:Mem) (v:Value) (ds:List Value),vs=[.int .i64 i]∧i≤d.items.length∧M.le N∧OV N.A N.w (obV d.trailer yk yc) d.trailer∧IVs N.A N.w ds (d.items.take i) ∧
   OwnS M.A w W [.urow 89 8 v i ds,dcE b3 ⟨[],d.trailer⟩ v yk yc,dcE b2 Dk.dc0 nilS nilS nilS,dcE b1 d vi tk tc,.mem N]) (fun vs _=>d.items.length - n0 vs)
  ⟨0,N,nilS,[],rfl,by omega,hle,hy,.nil,ho⟩ ?_
 clear ho;rintro vs w6 ⟨i,N,v,ds,rfl,hi,hle,hy,hds,ho⟩ _;simp only[S_docs_fresh_0,gd,rs];have hv1:=urow_one (ho.at_ 0 rfl);by_cases hlt:(i:Int) < (d.items.length:Int)
 ·have hi':i < d.items.length:=by omega
  have hwi:=hd.items _ (List.getElem_mem hi');simp only[hlt,decide_true,i_t];obtain⟨xk,xc,bi,oi,hx,hr⟩:=item_at hda.items hda.all hi';obtain⟨r1,r2⟩:=hr w6 (Mem.has_of hle (ho.hasM 4 rfl));refine do_eq r1 |>.mpr (do_eq (run_it r2) |>.mpr ?_);refine o_ita ho fun b6 w7 ho=>?_;refine it_put 0 hx.oneK hx.oneC ho rfl fun w8 ho=>?_;have ho:OwnS M.A w w8 [itE b6 d.items[i] xk xc,.urow 89 8 v i ds,dcE b3 ⟨[],d.trailer⟩ v yk yc,dcE b2 Dk.dc0 nilS nilS nilS,dcE b1 d vi tk tc,.mem N]:=ho;have ho:=ho.drew;refine⟨fun W=>(dcE b3 ⟨[],d.trailer⟩ v yk yc).is W∧(itE b6 d.items[i] xk xc).is W,⟨ho.at_ 2 rfl,ho.at_ 0 rfl⟩,?_⟩;refine hd_pure _ (fun _=>run_fa fo_d0) ?_;refine hd_do v (fun W h=>run_load_cell nSlIt (cells_cell (T:=50) h.1 (i:=0) rfl)) ?_;refine hd_do (itV d.items[i] xk xc) (fun W h=>run_load_at (AtV.agg aggIt (cs:=itC d.items[i] xk xc) rfl fun j u hj=>by rw[Nat.zero_add];exact cells_cell (T:=89) h.2 hj)) ?_;refine c_mem ho 5 rfl (copied_ret d.items[i] N _ (by omega) (ho.hasM 5 rfl) (hx.le hle)) ?_;rintro _ N2 w9 hle2 ⟨zk,zc,rfl,hz⟩ ho;refine⟨⟨ho.at_ 2 rfl,ho.at_ 0 rfl⟩,?_⟩;refine o_its1 d.items[i] hz.oneK hz.oneC ho fun b7 w10 ho=>?_;refine⟨⟨ho.at_ 3 rfl,ho.at_ 1 rfl⟩,?_⟩;refine o_apI 2 ho rfl (sl_one1 (ho.at_ 0 rfl) (by decide) rfl) (itC_one _ hz.oneK hz.oneC) (by omega) fun v' w11 ho=>?_;refine⟨⟨ho.at_ 3 rfl,ho.at_ 1 rfl⟩,?_⟩;refine hd_pure _ (fun _=>run_fa fo_d0) ?_;refine o_store 3 ho rfl (by kernel_rfl) (urow_one (ho.at_ 2 rfl)) (show 0 < 7 by omega) fun w12 ho=>?_;have ho:OwnS M.A w w12 [itE b7 d.items[i] zk zc,itE b6 d.items[i] xk xc,.urow 89 8 v' (i+1) (ds++itC d.items[i] zk zc),dcE b3 ⟨[],d.trailer⟩ v' yk yc,dcE b2 Dk.dc0 nilS nilS nilS,dcE b1 d vi tk tc,.mem N2]:=ho;rw[wrap64_id (by omega) (by omega)];refine nextX ⟨i+1,N2,v',_,rfl,by omega,hle.trans hle2,hy.le hle2,?_,ho.tail.tail⟩ (by simp[n0,RowKit.intOf];omega);rw[List.take_succ_eq_append_getElem hi'];exact ivs_app (IVs.le hle2 hds) (ivs_1 hz)
 ·have hi':i=d.items.length:=by omega
  subst hi';simp only[hlt,decide_false,i_f];rw[List.take_of_length_le (Nat.le_refl _)] at hds;rw[dc_v ho 1 rfl];refine dc_put 2 hv1 hy.oneK hy.oneC ho rfl fun w7 ho=>?_;refine ret_dc 2 ho rfl (hK _ _ ⟨_,⟨N,v,yk,yc,ds,rfl,rfl,hle,hy,hds⟩,?_⟩);exact OwnS.back (e:=.mem M) (OwnS.two2 ho 0 4 (by omega) rfl rfl)
theorem isnanI_ret (x:Int)(w:World):Ret prog 212 #[.int .i64 x] w (fun v w'=>v=.bool false∧w=w'):=by
 refine ret_of fun K hK=>S_cmp_isNaN_int_ok ?_;unfold S_cmp_isNaN_int;rw[n_int];exact hK _ _ ⟨by simp,rfl⟩
def Dk.cmpI (a b:Int):Int:=if a < b then -1 else if b < a then 1 else 0
theorem ccompare_ret (x y:Int)(w:World):Ret prog 186 #[.int .i64 x,.int .i64 y] w (fun v w'=>v=.int .i64 (Dk.cmpI x y)∧w=w'):=by
 refine ret_of fun K hK=>S_cmp_Compare_int_ok ?_;unfold S_cmp_Compare_int;refine c_eq (isnanI_ret x w) (c_eq (isnanI_ret y w) ?_);simp only[rs];by_cases h1:x < y
 ·simp only[h1,decide_true,i_t];exact hK _ _ ⟨by simp[Dk.cmpI,h1],rfl⟩
 simp only[h1,decide_false,i_f];by_cases h2:y < x
 ·simp only[h2,decide_true,i_t];exact hK _ _ ⟨by simp[Dk.cmpI,h1,h2],rfl⟩
 simp only[h2,decide_false,i_f];exact hK _ _ ⟨by simp[Dk.cmpI,h1,h2],rfl⟩
theorem bynum_plain:plainB prog 164=true:=by kernel_rfl
theorem bynum_ret (i:It)(n:Int){vk vc:Value}(hk:vk.oneCell'=true)(hc:vc.oneCell'=true)(w:World):Ret prog 164 #[itV i vk vc,.int .i64 n] w (fun v w'=>v=.int .i64 (Dk.cmpI i.num n)∧Below w.heap.size w w'):=by
 refine ret_of fun K hK=>S_docs_byNum_ok ?_;unfold S_docs_byNum;refine o_itb i hk hc (Own.start w) fun b w1 ho=>?_;rw[fa_i0,it_num ho 0 rfl];refine c_eq (ccompare_ret i.num n w1) ?_;exact hK _ _ ⟨rfl,ho.done⟩
theorem bsf_ret (l:List It)(n:Int)(vi:Value)(cs:List Value)(M:Mem)(w:World)(hl:l.length≤100000000000)(hr:Dk.Rise l)(hM:M.has w)(hs:SlA M.A M.w vi 8 l.length cs)(hall:IVs M.A M.w cs l) :
  Ret prog 163 #[vi,.int .i64 n,.func (.func 164) #[] #[]] w (fun v w'=>v=.tuple #[.int .i64 (Dk.place l n:Nat),.bool (Dk.hit l n)]∧Below w.heap.size w w'):=by
 refine ret_of fun K hK=>S_slices_BinarySearchFunc_foliant_api_Item_foliant_api_Item_int_ok ?_;unfold S_slices_BinarySearchFunc_foliant_api_Item_foliant_api_Item_int;rw[sl_len Tryz.underlying45 (hs.now hM)];refine loop (fun vs w'=>∃(i j:Nat),vs=[.int .i64 i,.int .i64 j]∧i≤j∧j≤l.length∧(∀m (h:m < l.length),m < i→l[m].num < n)∧(∀m (h:m < l.length),j≤m→¬l[m].num < n)∧OwnS M.A w w' [.mem M]) (fun vs _=>n1 vs - n0 vs)
  ⟨0,l.length,rfl,by omega,by omega,fun m _ h=>by omega,fun m h1 h2=>by omega,OwnS.memS hM⟩ ?_
 rintro vs w2 ⟨i,j,rfl,hij,hj,hlo,hhi,ho⟩ _;have fin:∀{v:Value} {W:World},v=.tuple #[.int .i64 (Dk.place l n:Nat),.bool (Dk.hit l n)]→OwnS M.A w W [.mem M]→K (.returned v) W:=fun hv ho=>hK _ _ ⟨hv,(ho.toGives 0 rfl M.le_refl hM).below⟩;simp only[S_slices_BinarySearchFunc_foliant_api_Item_foliant_api_Item_int_0,gd,rs];by_cases hlt:(i:Int) < (j:Int)
 ·simp only[hlt,decide_true,i_t];rw[wrap64_id (by omega) (by omega),c_int (show (Tryz.prog.underlying 3).isSome=true by kernel_rfl) Tryz.underlying58,b_shr (by omega),shr1 (by omega) (by omega),
   c_int (show (Tryz.prog.underlying 58).isSome=true by kernel_rfl) Tryz.underlying3,wrap64_id (by omega) (by omega)]
  obtain⟨h,hh⟩:∃h:Nat,((i:Int)+(j:Int)) / 2=(h:Int):=⟨(i+j) / 2,by omega⟩;rw[hh];have h1:i≤h:=by omega
  have h2:h < j:=by omega
  have h3:h < l.length:=by omega
  obtain⟨xk,xc,bi,oi,hx,hrd⟩:=item_at hs hall h3;obtain⟨r1,r2⟩:=hrd w2 (ho.hasM 0 rfl);refine do_eq r1 |>.mpr (do_eq (run_it r2) |>.mpr ?_);refine c_val bynum_plain (c_below ho (R:=fun v=>v=.int .i64 (Dk.cmpI l[h].num n)) (bynum_ret l[h] n hx.oneK hx.oneC w2) ?_);rintro _ w3 rfl ho;simp only[rs];by_cases hc:l[h].num < n
  ·have:Dk.cmpI l[h].num n < 0:=by simp[Dk.cmpI,hc]
   simp only[this,decide_true,i_t];rw[wrap64_id (by omega) (by omega)];refine nextX ⟨h+1,j,rfl,by omega,by omega,fun m hm hmi=>?_,hhi,ho⟩ (by simp[n0,n1,RowKit.intOf];omega);rcases Nat.lt_or_ge m h with h4|h4
   ·have:=Dk.rise_get hr h4 h3;omega
   ·have:m=h:=by omega
    subst this;exact hc
  ·have:¬Dk.cmpI l[h].num n < 0:=by unfold Dk.cmpI;rw[if_neg hc];split<;>omega
   simp only[this,decide_false,i_f];refine nextX ⟨i,h,rfl,by omega,by omega,hlo,fun m hm hmi=>?_,ho⟩ (by simp[n0,n1,RowKit.intOf];omega);rcases Nat.lt_or_ge h m with h4|h4
   ·have:=Dk.rise_get hr h4 hm;omega
   ·have:m=h:=by omega
    subst this;exact hc
 ·have he:i=j:=by omega
  subst he;simp only[hlt,decide_false,i_f];have hp:Dk.place l n=i:=Dk.place_at hj hlo (fun h=>hhi i h (Nat.le_refl _));by_cases hn:(i:Int) < (l.length:Int)
  ·have hi':i < l.length:=by omega
   simp only[hn,decide_true,rs];obtain⟨xk,xc,bi,oi,hx,hrd⟩:=item_at hs hall hi';obtain⟨r1,r2⟩:=hrd w2 (ho.hasM 0 rfl);refine do_eq r1 |>.mpr (do_eq (run_it r2) |>.mpr ?_);refine c_val bynum_plain (c_below ho (R:=fun v=>v=.int .i64 (Dk.cmpI l[i].num n)) (bynum_ret l[i] n hx.oneK hx.oneC w2) ?_);rintro _ w3 rfl ho;simp only[rs];refine fin ?_ ho;rw[Dk.hit_at hp hi',hp];have hge:=hhi i hi' (Nat.le_refl _);have:decide (Dk.cmpI l[i].num n=0)=decide (l[i].num=n):=by
    unfold Dk.cmpI;rw[if_neg hge];by_cases h:n < l[i].num
    ·rw[if_pos h,decide_eq_false (by omega),decide_eq_false (by omega)]
    ·rw[if_neg h,decide_eq_true rfl,decide_eq_true (by omega)]
   rw[this]
  ·simp only[hn,decide_false,rs,g_un];refine fin ?_ ho;rw[hp,Dk.hit_out (by omega)]
end
section
open Eng Go.RowKit
theorem IVs.all_le {M:Mem}{w:World}(hM:M.has w){cs:List Value}{l:List It}(h:IVs M.A M.w cs l):IVs (Mem.all w).A (Mem.all w).w cs l:=
 IVs.le (M:=M) (N:=Mem.all w) ⟨fun b hb=>Mem.bd hM hb,hM⟩ h
theorem dlay_ret (l:List It)(v:Value)(cs:List Value)(i:It){vk vc:Value}(M:Mem)(w:World)(hu:(Ent.two (.urow 89 8 v l.length cs) (.mem M)).is w)(hl:l.length≤10000000000)(hw:i.obj.wt≤100000000000)(hr:Dk.Rise l)(hall:IVs M.A M.w cs l)
  (hv:OV M.A M.w (obV i.obj vk vc) i.obj) :
  Ret prog 136 #[v,itV i vk vc] w (fun r w'=>∃e',(∃(N:Mem) (ds:List Value),e'=Ent.two (.urow 89 8 r (Dk.lay l i).length ds) (.mem N)∧M.le N∧IVs N.A N.w ds (Dk.lay l i))∧Turn (Ent.two (.urow 89 8 v l.length cs) (.mem M)) e' w w'):=by
 refine ret_of fun K hK=>S_docs_lay_ok ?_;unfold S_docs_lay;have ho:=(OwnS.lend hu).split;have hcl:cs.length=l.length*8:=Rws.len itR_len hall;refine o_itb i hv.oneK hv.oneC ho fun b w1 ho=>?_;rw[fa_i0,it_num ho 0 rfl];have hsa:SlA (Mem.all w1).A (Mem.all w1).w v 8 l.length cs:=mem_urow (M:=Mem.all w1) (N:=Mem.all w1) rfl (fun k hk=>(Ent.urow 89 8 v l.length cs).lt (ho.at_ 1 rfl) k hk) (ho.at_ 1 rfl);refine c_below ho (R:=fun v=>v=.tuple #[.int .i64 (Dk.place l i.num:Nat),.bool (Dk.hit l i.num)]) (bsf_ret l i.num v cs (Mem.all w1) w1 (by omega) hr (Mem.all_has w1) hsa (IVs.all_le (ho.hasM 2 rfl) hall)) ?_;rintro _ w2 rfl ho;simp only[ex];cases hh:Dk.hit l i.num with
|true=>
  simp only[i_t];have hlt:=Dk.hit_lt hh;rw[it_v ho 0 rfl];refine c_mem ho 2 rfl (copied_ret i M w2 hw (ho.hasM 2 rfl) hv) ?_;rintro _ N w3 hle ⟨yk,yc,rfl,hy⟩ ho;have hu:=ho.at_ 1 rfl;obtain⟨g,cap,rfl⟩:=urow_open hu (by omega);refine do_eq (run_ia Tryz.underlying45 szIt (by omega) (by omega)) |>.mpr ?_;rw[Int.toNat_natCast,Nat.zero_add];refine o_storeU 1 ho rfl (u:=itV i yk yc) (new:=itC i yk yc) rfl szIt (itC_one _ hy.oneK hy.oneC) (by show _+8≤_;omega) fun w4 ho=>?_;have ho:OwnS _ w w4 [itE b i vk vc,.urow 89 8 (.slice (some ⟨g,0,none⟩) l.length cap) l.length (cs.take (Dk.place l i.num*8)++itC i yk yc++cs.drop (Dk.place l i.num*8+8)),.mem N]:=ho;refine hK _ _ ⟨_,⟨N,cs.take (Dk.place l i.num*8)++itC i yk yc++cs.drop (Dk.place l i.num*8+8),rfl,hle,?_⟩,?_⟩
  ·rw[Dk.lay_hit hh,List.append_assoc,show Dk.place l i.num*8+8=(Dk.place l i.num+1)*8 by omega];exact ivs_app (ivs_take _ (IVs.le hle hall)) (ivs_app (ivs_1 hy) (ivs_drop _ (IVs.le hle hall)))
  ·rw[Dk.lay_len_hit hh];exact OwnS.back (OwnS.two2 ho 1 2 (by omega) rfl rfl)
|false=>
  simp only[i_f];have hple:=Dk.place_le l i.num;rw[it_v ho 0 rfl];refine c_mem ho 2 rfl (copied_ret i M w2 hw (ho.hasM 2 rfl) hv) ?_;rintro _ N w3 hle ⟨yk,yc,rfl,hy⟩ ho;refine o_its1 i hy.oneK hy.oneC ho fun nb w4 ho=>?_;refine c_turn 2 ho rfl (sinsert_i_ret v l.length cs (Dk.place l i.num) nb (itC i yk yc) w4 (ho.at_ 2 rfl) (ho.at_ 0 rfl) rfl (fun h=>(OwnS.sep ho 2 0 (by omega) rfl rfl) nb h rfl) (IVs.one hall) (itC_one _ hy.oneK hy.oneC) hple (by omega)) ?_;rintro r e' w5 rfl ho;have ho:OwnS _ w w5 [itE nb i yk yc,itE b i vk vc,.urow 89 8 r (l.length+1) (cs.take (Dk.place l i.num*8)++itC i yk yc++cs.drop (Dk.place l i.num*8)),.mem N]:=ho;refine hK _ _ ⟨_,⟨N,cs.take (Dk.place l i.num*8)++itC i yk yc++cs.drop (Dk.place l i.num*8),rfl,hle,?_⟩,?_⟩
  rotate_left
  ·rw[Dk.lay_len_miss hh];exact OwnS.back (OwnS.two2 ho 2 3 (by omega) rfl rfl)
  ·rw[Dk.lay_miss hh,List.append_assoc];exact ivs_app (ivs_take _ (IVs.le hle hall)) (ivs_app (ivs_1 hy) (ivs_drop _ (IVs.le hle hall)))
theorem dtold_ret (d:Dc)(dv:Value)(M:Mem)(w:World)(hd:Dk.Ok d)(hM:M.has w)(hdv:DV M.A M.w dv d) :
  RetM prog 137 #[dv] M w (fun r N=>∃v',r=errV v' (Dk.right d).2∧DV N.A N.w v' (Dk.right d).1):=by
 obtain⟨vi,tk,tc,cs,rfl,hda⟩:=hdv;refine retM_of hM fun K hK=>S_docs_told_ok ?_;unfold S_docs_told;refine o_dcb d hda.items.one hda.trailer.oneK hda.trailer.oneC (OwnS.memS hM) fun b w1 ho=>?_;refine o_dca ho fun b2 w2 ho=>?_;rw[dc_v ho 1 rfl];refine c_below ho (R:=fun v=>v=.int .i64 (Dk.check d)) (RetM.told (dcheck_ret d _ M w2 hd (ho.hasM 2 rfl) hda.dv)) ?_;rintro _ w3 rfl ho;simp only[n_err];by_cases hc:Dk.check d=0
 ·simp only[hc,ne_eq,not_true,decide_false,i_f];rw[dc_v ho 1 rfl];refine dc_put 0 hda.items.one hda.trailer.oneK hda.trailer.oneC ho rfl fun w4 ho=>?_;refine ret_dc2 0 ho rfl (hK _ _ M _ 2 ho rfl M.le_refl ⟨dcV d vi tk tc,?_,?_⟩)
  ·unfold Dk.right;rw[if_neg (by simp[hc])];rfl
  ·unfold Dk.right;rw[if_neg (by simp[hc])];exact hda.dv
 ·simp only[hc,ne_eq,not_false_eq_true,decide_true,i_t];rw[m_dc0];refine dc_put 0 rfl rfl rfl ho rfl fun w4 ho=>?_;refine ret_dc2 0 ho rfl (hK _ _ M _ 2 ho rfl M.le_refl ⟨dcV Dk.dc0 nilS nilS nilS,?_,?_⟩)
  ·unfold Dk.right;rw[if_pos hc];rfl
  ·unfold Dk.right;rw[if_pos hc];exact (dc0_at M).dv
theorem Dk.lay_ok {d:Dc}{i:It}(hd:Dk.Ok d)(hl:d.items.length < 10000000000)(hw:i.obj.wt≤1000000000):Dk.Ok ⟨Dk.lay d.items i,d.trailer⟩:=by
 refine⟨?_,fun x hx=>?_,hd.trailer⟩
 ·show (Dk.lay d.items i).length≤_;cases hh:Dk.hit d.items i.num with
 |true=>rw[Dk.lay_len_hit hh];omega
 |false=>rw[Dk.lay_len_miss hh];omega
 ·rcases Dk.lay_mem hx with rfl|hx
  ·exact hw
  ·exact hd.items x hx
theorem dput_ret (d:Dc)(i:It)(dv iv:Value)(M:Mem)(w:World)(hd:Dk.Ok d)(hl:d.items.length < 10000000000)(hw:i.obj.wt≤1000000000)(hM:M.has w)(hdv:DV M.A M.w dv d)(hiv:IV M.A M.w iv i) :
  RetM prog 106 #[dv,iv] M w (fun r N=>∃v',r=errV v' (Dk.put d i).2∧DV N.A N.w v' (Dk.put d i).1):=by
 have hdv0:=hdv;obtain⟨vi,tk,tc,cs,rfl,hda⟩:=hdv;obtain⟨vk,vc,rfl,hv⟩:=hiv;refine retM_of hM fun K hK=>S_docs_Put_ok ?_;unfold S_docs_Put;refine o_dcb d hda.items.one hda.trailer.oneK hda.trailer.oneC (OwnS.memS hM) fun b2 w1 ho=>?_;refine o_itb i hv.oneK hv.oneC ho fun b3 w2 ho=>?_;refine o_dca ho fun b4 w3 ho=>?_;have bad:∀{W:World} {e:Int},OwnS M.A w W [dcE b4 Dk.dc0 nilS nilS nilS,itE b3 i vk vc,dcE b2 d vi tk tc,.mem M]→Dk.put d i=(Dk.dc0,e) →
   DoX prog (mBuild 50 #[]) W (pk K) (fun t W=>DoX prog (mStore 50 (.pointer (some ⟨b4,0,none⟩)) t) W (pk K) fun _ W=>RetX prog [.cell (.pointer (some ⟨b4,0,none⟩)) 50,.val (.int .i64 e)] W K):=by
  intro W e ho he;rw[m_dc0];refine dc_put 0 rfl rfl rfl ho rfl fun w4 ho=>?_;exact ret_dc2 0 ho rfl (hK _ _ M _ 3 ho rfl M.le_refl ⟨dcV Dk.dc0 nilS nilS nilS,by rw[he];rfl,by rw[he];exact (dc0_at M).dv⟩)
 rw[dc_v ho 2 rfl];refine c_below ho (R:=fun v=>v=.int .i64 (Dk.check d)) (RetM.told (dcheck_ret d _ M w3 hd (ho.hasM 3 rfl) hda.dv)) ?_;rintro _ w4 rfl ho;simp only[n_err];by_cases hc:Dk.check d=0
 case neg=>
  simp only[hc,ne_eq,not_false_eq_true,decide_true,i_t];exact bad ho (by unfold Dk.put;rw[if_pos hc])
 simp only[hc,ne_eq,not_true,decide_false,i_f];rw[it_v ho 1 rfl];refine c_below ho (R:=fun v=>v=.int .i64 (Dk.alone i)) (RetM.told (alone_ret i M w4 (by omega) (ho.hasM 3 rfl) hv)) ?_;rintro _ w5 rfl ho;simp only[n_err];by_cases ha:Dk.alone i=0
 case neg=>
  simp only[ha,ne_eq,not_false_eq_true,decide_true,i_t];exact bad ho (by unfold Dk.put;rw[if_neg (by simp[hc]),if_pos ha])
 simp only[ha,ne_eq,not_true,decide_false,i_f];have hp:Dk.put d i=Dk.right ⟨Dk.lay d.items i,d.trailer⟩:=by unfold Dk.put;rw[if_neg (by simp[hc]),if_neg (by simp[ha])]
 rw[dc_v ho 2 rfl];refine c_turn 3 ho rfl (fresh_ret d _ M w5 hd (ho.hasM 3 rfl) hda.dv) ?_;rintro _ _ w6 ⟨N,fi,fk,fc,ds,rfl,rfl,hle,hft,hfa⟩ ho;have hfi1:=urow_one (ho.at_ 3 rfl).1;refine dc_put 2 hfi1 hft.oneK hft.oneC ho rfl fun w7 ho=>?_;rw[fa_d0,dc_items ho 2 rfl,it_v ho 1 rfl];refine c_turn 3 ho rfl (dlay_ret d.items fi ds i N w7 (ho.at_ 3 rfl) hd.len (by omega) (Dk.check_rise hc) hfa (hv.le hle)) ?_;rintro r _ w8 ⟨N2,es,rfl,hle2,hla⟩ ho;have hr1:=urow_one (ho.at_ 3 rfl).1;rw[fa_d0];refine o_store 2 ho rfl (by kernel_rfl) hr1 (show 0 < 7 by omega) fun w9 ho=>?_;have ho:OwnS M.A w w9 [dcE b4 Dk.dc0 nilS nilS nilS,itE b3 i vk vc,dcE b2 ⟨Dk.lay d.items i,d.trailer⟩ r fk fc,Ent.two (.urow 89 8 r (Dk.lay d.items i).length es) (.mem N2)]:=ho;have ho:=(ho.perm (L':=[Ent.two (.urow 89 8 r (Dk.lay d.items i).length es) (.mem N2),dcE b4 Dk.dc0 nilS nilS nilS,itE b3 i vk vc,dcE b2 ⟨Dk.lay d.items i,d.trailer⟩ r fk fc]) (List.perm_append_comm (l₁:=[_,_,_]) (l₂:=[_]))).split;obtain⟨N3,hle3,hrow,ho⟩:=OwnS.freezeU (L:=[.mem N2,dcE b4 Dk.dc0 nilS nilS nilS,itE b3 i vk vc,dcE b2 ⟨Dk.lay d.items i,d.trailer⟩ r fk fc]) ho 0 rfl;have ho:OwnS M.A w w9 [.mem N3,dcE b4 Dk.dc0 nilS nilS nilS,itE b3 i vk vc,dcE b2 ⟨Dk.lay d.items i,d.trailer⟩ r fk fc]:=ho;have hnew:DocAt N3.A N3.w ⟨Dk.lay d.items i,d.trailer⟩ r fk fc es:=⟨hrow,IVs.le hle3 hla,hft.le (hle2.trans hle3)⟩;rw[dc_v ho 3 rfl];refine c_mem ho 0 rfl (dtold_ret ⟨Dk.lay d.items i,d.trailer⟩ _ N3 w9 (Dk.lay_ok hd hl hw) (ho.hasM 0 rfl) hnew.dv) ?_;rintro _ N4 w10 hle4 ⟨y,rfl,hy⟩ ho;obtain⟨yi,yk,yc,ys,rfl,hya⟩:=hy;simp only[errV,ex];refine dc_put 1 hya.items.one hya.trailer.oneK hya.trailer.oneC ho rfl fun w11 ho=>?_;exact ret_dc2 1 ho rfl (hK _ _ N4 _ 0 ho rfl (((hle.trans hle2).trans hle3).trans hle4) ⟨dcV (Dk.right ⟨Dk.lay d.items i,d.trailer⟩).1 yi yk yc,by rw[hp];rfl,by rw[hp];exact hya.dv⟩)
end
end Go.Proofs.YtmkodaephgnehaaGreatDoor















namespace Go.Proofs.YtmkodaephgnehaaGreatDoor
section
open Go
namespace Vl
theorem not_mem_take {l:List (List UInt8)}{key:List UInt8}:key ∉ l.take (place l key):=by
 intro h;obtain⟨m,hm,he⟩:=List.getElem_of_mem h;rw[List.length_take] at hm;have hlt:m < place l key:=by omega
 have:=place_lt hlt;rw[List.getElem_take] at he;rw[he,less_irrefl] at this;cases this
theorem get_put {o:Ob}{key:List UInt8}{v:Ob}(hk:keyed o=true)(hl:o.keys.length=o.kids.length):get (put o key v) key=some v:=by
 have hp:=place_le o.keys key;unfold get;rw[show keyed (put o key v)=keyed o from rfl,hk,if_pos rfl];have e:(put o key v).keys=o.keys.take (place o.keys key)++key::o.keys.drop (place o.keys key+if hit o.keys key then 1 else 0):=rfl;have e2:(put o key v).kids=o.kids.take (place o.keys key)++v::o.kids.drop (place o.keys key+if hit o.keys key then 1 else 0):=rfl;have hi:(put o key v).keys.idxOf key=place o.keys key:=by
  rw[e];refine idx_at (by simp;omega) ?_ ?_
  ·rw[List.take_left' (by rw[List.length_take];omega)];exact not_mem_take
  ·rw[List.getElem_append_right (by rw[List.length_take];omega)];simp[List.length_take,Nat.min_eq_left hp]
 rw[hi,if_pos (by rw[e];simp;omega),e2,List.getElem?_append_right (by rw[List.length_take];omega),List.length_take];have:place o.keys key - min (place o.keys key) o.kids.length=0:=by omega
 rw[this];rfl
theorem checks_iff {d:Nat}:∀{os:List Ob},checks d os=0↔∀o∈os,check d o=0
|[]=>by simp[checks]
|o::os=>by
  rw[checks];split
  ·rename_i h
   constructor
   ·intro e;exact absurd e h
   ·intro e;exact absurd (e o List.mem_cons_self) h
  ·rename_i h
   have h:=Classical.not_not.1 h;rw[checks_iff];simp[h]
theorem gd_at (l:List (List UInt8)){i:Nat}(h:i < l.length):l.getD i []=l[i]:=by rw[List.getD_eq_getElem?_getD,List.getElem?_eq_getElem h];rfl
theorem rising_iff {o:Ob}:rising o=true↔o.keys.length=o.kids.length∧Rise o.keys∧(∀k∈o.keys,name k=true∧(o.k=9→k≠lenK))∧∀c∈o.kids,c.k≠0:=by
 unfold rising;simp only[Bool.and_eq_true,decide_eq_true_eq,List.all_eq_true,List.mem_range];constructor
 ·rintro⟨hl,h⟩;have hat:∀i (hi:i < o.keys.length),name o.keys[i]=true∧(i=0∨less (o.keys.getD (i - 1) []) o.keys[i]=true)∧(o.k=9→o.keys[i]≠lenK)∧(o.kids[i]'(by omega)).k≠0:=by
   intro i hi;have:=h i hi;unfold keyAt at this;rw[gd_at _ hi,List.getD_eq_getElem?_getD (l:=o.kids),List.getElem?_eq_getElem (by omega:i < o.kids.length)] at this;simp only[Bool.and_eq_true,Bool.or_eq_true,decide_eq_true_eq,Option.getD_some,Bool.not_eq_true',Bool.and_eq_false_iff,decide_eq_false_iff_not] at this;obtain⟨⟨⟨a,b⟩,c⟩,e⟩:=this;exact⟨a,b,fun h9 hk=>c.elim (fun x=>x h9) (fun x=>x hk),e⟩
  refine⟨hl,?_,?_,?_⟩
  ·refine List.pairwise_iff_getElem.2 fun i j hi hj hij=>?_;have step:∀i (hi:i+1 < o.keys.length),less o.keys[i] o.keys[i+1]=true:=by
    intro i hi;have:=(hat (i+1) hi).2.1;rcases this with h0|h0
    ·omega
    ·rwa [Nat.add_sub_cancel,gd_at _ (by omega:i < o.keys.length)] at h0
   have:∀d,∀j (hj:j < o.keys.length),j=i+1+d→less o.keys[i] o.keys[j]=true:=by
    intro d
    induction d with
   |zero=>intro j hj he;subst he;exact step i hj
   |succ d ih=>
     intro j hj he;subst he;exact less_trans (ih (i+1+d) (by omega) rfl) (step (i+1+d) hj)
   exact this (j - (i+1)) j hj (by omega)
  ·intro k hk;obtain⟨i,hi,rfl⟩:=List.getElem_of_mem hk;exact⟨(hat i hi).1,(hat i hi).2.2.1⟩
  ·intro c hc;obtain⟨i,hi,rfl⟩:=List.getElem_of_mem hc;exact (hat i (by omega)).2.2.2
 ·rintro⟨hl,hr,hk,hc⟩;refine⟨hl,fun i hi=>?_⟩;unfold keyAt;rw[gd_at _ hi,List.getD_eq_getElem?_getD (l:=o.kids),List.getElem?_eq_getElem (by omega:i < o.kids.length)];simp only[Bool.and_eq_true,Bool.or_eq_true,decide_eq_true_eq,Option.getD_some,Bool.not_eq_true',Bool.and_eq_false_iff,decide_eq_false_iff_not];refine⟨⟨⟨(hk _ (List.getElem_mem hi)).1,?_⟩,?_⟩,hc _ (List.getElem_mem _)⟩
  ·rcases Nat.eq_zero_or_pos i with h0|h0
   ·exact .inl h0
   ·refine .inr ?_;rw[gd_at _ (by omega:i - 1 < o.keys.length)];exact rise_get hr (by omega) hi
  ·by_cases h9:o.k=9
   ·exact .inr ((hk _ (List.getElem_mem hi)).2 h9)
   ·exact .inl h9
theorem check_iff {d:Nat}{o:Ob}:check d o=0↔(d≤24∧usesOk o=true∧(o.k=9→d≤1)∧fits o=true∧o.s.length≤long o.k∧o.kids.length≤8191∧form o=true)∧∀c∈o.kids,check (d+1) c=0:=by
 rw[check_eq];have hw:why d o=0↔(d≤24∧usesOk o=true∧(o.k=9→d≤1)∧fits o=true∧o.s.length≤long o.k∧o.kids.length≤8191∧form o=true):=by
  unfold why;split
  ·simp;omega
  rename_i h1
  split
  ·rename_i h2
   simp only[show (10:Int)≠0 by decide,false_iff,not_and];rintro - a b;rcases h2 with h2|h2
   ·rw[h2] at a;cases a
   ·have:=b h2.1;omega
  rename_i h2
  simp only[not_or,Bool.not_eq_false,not_and,Nat.not_lt] at h2;split
  ·rename_i h3;simp[h3]
  rename_i h3
  split
  ·rename_i h4;simp;intros;omega
  rename_i h4
  split
  ·rename_i h5;simp;intros;omega
  rename_i h5
  split
  ·rename_i h6;simp[h6]
  rename_i h6
  simp only[Bool.not_eq_false] at h3 h6;exact⟨fun _=>⟨by omega,h2.1,h2.2,h3,by omega,by omega,h6⟩,fun _=>rfl⟩
 split
 ·rename_i h
  constructor
  ·intro e;exact absurd e h
  ·intro e;exact absurd (hw.2 e.1) h
 ·rename_i h
  have h:=Classical.not_not.1 h;rw[checks_iff];exact⟨fun e=>⟨hw.1 h,e⟩,fun e=>e.2⟩
end Vl
namespace Dk
end Dk
end
end Go.Proofs.YtmkodaephgnehaaGreatDoor



namespace Go.Proofs.YtmkodaephgnehaaGreatDoor
section
open Go
namespace Ps
open Lx (next Tok)
theorem put_mem {o v:Ob}{key:List UInt8}:(∀k∈(Vl.put o key v).keys,k=key∨k∈o.keys)∧(∀c∈(Vl.put o key v).kids,c=v∨c∈o.kids)∧(Vl.put o key v).kids.length≤o.kids.length+1:=by
 unfold Vl.put;simp only[Ob.keys,Ob.kids];refine⟨fun k hk=>?_,fun c hc=>?_,?_⟩
 ·rcases List.mem_append.1 hk with h|h
  ·exact .inr (List.mem_of_mem_take h)
  ·rcases List.mem_cons.1 h with h|h
   ·exact .inl h
   ·exact .inr (List.mem_of_mem_drop h)
 ·rcases List.mem_append.1 hc with h|h
  ·exact .inr (List.mem_of_mem_take h)
  ·rcases List.mem_cons.1 h with h|h
   ·exact .inl h
   ·exact .inr (List.mem_of_mem_drop h)
 ·simp only[List.length_append,List.length_take,List.length_cons,List.length_drop];split<;>omega
end Ps
end
end Go.Proofs.YtmkodaephgnehaaGreatDoor


namespace Go.Proofs.YtmkodaephgnehaaGreatDoor
section
open Go
namespace Vl
def lk (k:List UInt8):List (List UInt8)→List Ob→Option Ob
|a::ks,c::cs=>if a=k then some c else lk k ks cs
|_,_=>none
theorem lk_eq (k:List UInt8):∀(ks:List (List UInt8)) (cs:List Ob),(if ks.idxOf k < ks.length then cs[ks.idxOf k]? else none)=lk k ks cs
|[],cs=>by simp[lk]
|a::ks,[]=>by simp[lk]
|a::ks,c::cs=>by
  rw[lk,←lk_eq k ks cs,List.idxOf_cons];by_cases h:a=k
  ·subst h;simp
  ·have hb:(a==k)=false:=by simpa using h
   simp[hb,h]
theorem lk_app {k:List UInt8}:∀{ks:List (List UInt8)} {cs:List Ob} (ks':List (List UInt8)) (cs':List Ob),ks.length=cs.length→lk k (ks++ks') (cs++cs')=(lk k ks cs).or (lk k ks' cs')
|[],[],_,_,_=>by simp[lk]
|[],c::cs,_,_,h=>by simp at h
|a::ks,[],_,_,h=>by simp at h
|a::ks,c::cs,ks',cs',h=>by
  rw[List.cons_append,List.cons_append,lk,lk,lk_app ks' cs' (by simpa using h)];split<;>rfl
theorem get_put_ne {o:Ob}{key k:List UInt8}{v:Ob}(hl:o.keys.length=o.kids.length)(hne:key≠k):get (put o key v) k=get o k:=by
 unfold get;rw[show keyed (put o key v)=keyed o from rfl,lk_eq,lk_eq]
 congr 1
 have hp:=place_le o.keys key;rw[show (put o key v).keys=o.keys.take (place o.keys key)++key::o.keys.drop (place o.keys key+if hit o.keys key then 1 else 0) from rfl,
  show (put o key v).kids=o.kids.take (place o.keys key)++v::o.kids.drop (place o.keys key+if hit o.keys key then 1 else 0) from rfl,
  lk_app _ _ (by rw[List.length_take,List.length_take];omega),lk,if_neg hne]
 conv=>rhs;rw[←List.take_append_drop (place o.keys key) o.keys,←List.take_append_drop (place o.keys key) o.kids,lk_app _ _ (by rw[List.length_take,List.length_take];omega)]
 congr 1
 by_cases hh:hit o.keys key=true
 ·rw[if_pos hh];have hg:o.keys[place o.keys key]?=some key:=by simpa[hit] using hh
  obtain⟨hlt,hg⟩:=List.getElem?_eq_some_iff.1 hg;rw[List.drop_eq_getElem_cons (i:=place o.keys key) hlt,List.drop_eq_getElem_cons (i:=place o.keys key) (l:=o.kids) (by omega),lk,if_neg (by rw[hg];exact hne)]
 ·rw[if_neg hh];rfl
end Vl
namespace Dk
end Dk
namespace Pg
section
variable {d:Dc}{j:It}{o o':Ob}
end
end Pg
end
section
open Go
namespace Vl
theorem get_out {o:Ob}{key:List UInt8}(h:key ∉ o.keys):get o key=none:=by
 unfold get;split
 ·rw[if_neg (fun h2=>h (List.idxOf_lt_length_iff.1 h2))]
 ·rfl
theorem put_check {o:Ob}{key:List UInt8}{v:Ob}(hc:check 1 o=0)(hk:keyed o=true)(hn:name key=true)(hL:o.k=9→key≠lenK)(hv:v.k≠0)(hcv:check 2 v=0)(hf:o.kids.length≤8190):check 1 (put o key v)=0:=by
 obtain⟨⟨a1,a2,a3,a4,a5,a6,a7⟩,hkids⟩:=check_iff.1 hc;have h79:o.k=7∨o.k=9:=by simpa[keyed] using hk
 have hr:rising o=true:=by
  unfold form at a7;simp only[Bool.and_eq_true,Bool.or_eq_true,Bool.not_eq_true',decide_eq_false_iff_not] at a7;rcases a7.2 with h|h
  ·exact absurd h79 h
  ·exact h
 obtain⟨r1,r2,r3,r4⟩:=rising_iff.1 hr;obtain⟨p1,p2⟩:=rise_put (key:=key) (v:=v) r2 r1;obtain⟨m1,m2,m3⟩:=Ps.put_mem (o:=o) (v:=v) (key:=key);have ek:(put o key v).k=o.k:=rfl;refine check_iff.2 ⟨⟨a1,?_,a3,a4,a5,by omega,?_⟩,fun c hcm=>?_⟩
 ·unfold usesOk at a2 ⊢;rw[ek];rcases h79 with e|e
  ·rw[e] at a2 ⊢;simp[used] at a2 ⊢;exact a2
  ·rw[e] at a2 ⊢;simp[used] at a2 ⊢;exact a2
 ·have hr2:rising (put o key v)=true:=rising_iff.2 ⟨p2,p1,fun k hkk=>by
   rcases m1 k hkk with rfl|e
   ·exact⟨hn,fun h=>hL h⟩
   ·exact r3 k e,fun c hcc=>by
   rcases m2 c hcc with rfl|e
   ·exact hv
   ·exact r4 c e⟩
  unfold form;rw[ek,hr2];rcases h79 with e|e<;>rw[e]<;>rfl
 ·rcases m2 c hcm with rfl|e
  ·exact hcv
  ·exact hkids c e
end Vl
end
section
open Go
namespace Fo
def kType:List UInt8:=[84,121,112,101]
def kFont:List UInt8:=[70,111,110,116]
def kSub:List UInt8:=[83,117,98,116,121,112,101]
def kT1:List UInt8:=[84,121,112,101,49]
def kBase:List UInt8:=[66,97,115,101,70,111,110,116]
def kFirst:List UInt8:=[70,105,114,115,116,67,104,97,114]
def kWid:List UInt8:=[87,105,100,116,104,115]
def kDesc:List UInt8:=[70,111,110,116,68,101,115,99,114,105,112,116,111,114]
def kFName:List UInt8:=[70,111,110,116,78,97,109,101]
def kMiss:List UInt8:=[77,105,115,115,105,110,103,87,105,100,116,104]
def kEnc:List UInt8:=[69,110,99,111,100,105,110,103]
def kDiff:List UInt8:=[68,105,102,102,101,114,101,110,99,101,115]
def kToU:List UInt8:=[84,111,85,110,105,99,111,100,101]
def nm (s:List UInt8):Ob:=.mk 5 0 0 s [] []
def int (n:Int):Ob:=.mk 2 n 0 [] [] []
def arr (l:List Ob):Ob:=.mk 6 0 0 [] [] l
abbrev Pr:=List UInt8×Ob
def flatP (l:List Pr):List Ob:=l.flatMap fun p=>[nm p.1,p.2]
def ob7:Ob:=.mk 7 0 0 [] [] []
def mkD (l:List Pr):Ob:=l.foldl (fun o p=>Vl.put o p.1 p.2) ob7
def wtP (l:List Pr):Nat:=(l.map fun p=>p.1.length+1+p.2.wt).sum
theorem flatP_cons (p:Pr)(l:List Pr):flatP (p::l)=nm p.1::p.2::flatP l:=by unfold flatP;rw[List.flatMap_cons];rfl
theorem flatP_len:∀l:List Pr,(flatP l).length=2*l.length
|[]=>rfl
|p::l=>by rw[flatP_cons];simp only[List.length_cons];rw[flatP_len l];omega
theorem flatP_names:∀l:List Pr,Vl.namesOk (flatP l)=true
|[]=>rfl
|p::l=>by
  rw[flatP_cons,Vl.namesOk,flatP_names l];show (decide ((5:Int)=5)&&true)=true
  decide
theorem dictG_flat:∀(l:List Pr) (met:List (List UInt8)) (o:Ob),(l.map (·.1)).Nodup→(∀p∈l,p.1 ∉ met)→(∀p∈l,p.2.k≠0)→Vl.dictG met o (flatP l)=Vl.right (l.foldl (fun o p=>Vl.put o p.1 p.2) o)
|[],met,o,_,_,_=>rfl
|p::l,met,o,hn,hm,hk=>by
  rw[flatP_cons,Vl.dictG,List.foldl_cons];have hn:p.1 ∉ l.map (·.1)∧(l.map (·.1)).Nodup:=by simpa using hn
  have h1:¬(nm p.1).s∈met:=hm p (List.mem_cons_self ..);rw[if_neg h1,if_pos (hk p (List.mem_cons_self ..))];refine dictG_flat l _ _ hn.2 (fun q hq h=>?_) (fun q hq=>hk q (List.mem_cons_of_mem _ hq));rcases List.mem_append.1 h with h|h
  ·exact hm q (List.mem_cons_of_mem _ hq) h
  ·have e:q.1=p.1:=by simpa[nm,Ob.s] using h
   exact hn.1 (by rw[←e];exact List.mem_map_of_mem hq)
theorem fold_ok:∀(l:List Pr) (o:Ob),Vl.check 1 o=0→o.k=7→(l.map (·.1)).Nodup→(∀p∈l,Vl.name p.1=true∧p.2.k≠0∧Vl.check 2 p.2=0)→o.kids.length+l.length≤8190 →
  Vl.check 1 (l.foldl (fun o p=>Vl.put o p.1 p.2) o)=0∧(l.foldl (fun o p=>Vl.put o p.1 p.2) o).k=7∧(∀p∈l,Vl.get (l.foldl (fun o p=>Vl.put o p.1 p.2) o) p.1=some p.2)∧(∀k,k ∉ l.map (·.1)→Vl.get (l.foldl (fun o p=>Vl.put o p.1 p.2) o) k=Vl.get o k) ∧
  (l.foldl (fun o p=>Vl.put o p.1 p.2) o).wt≤o.wt+wtP l
|[],o,hc,h7,_,_,_=>⟨hc,h7,(fun p h=>by cases h),fun _ _=>rfl,by simp[wtP]⟩
|p::r,o,hc,h7,hn,hp,hl=>by
  have hn:p.1 ∉ r.map (·.1)∧(r.map (·.1)).Nodup:=by simpa using hn
  obtain⟨p1,p2,p3⟩:=hp p (List.mem_cons_self ..);have hk:Vl.keyed o=true:=by unfold Vl.keyed;rw[h7];rfl
  have hl:o.kids.length+(r.length+1)≤8190:=hl;have c:=Vl.put_check (key:=p.1) (v:=p.2) hc hk p1 (fun h=>by rw[h7] at h;exact absurd h (by decide)) p2 p3 (by omega);obtain⟨_,_,m3⟩:=Ps.put_mem (o:=o) (v:=p.2) (key:=p.1);have hv:=(Vl.valid_keys hc hk).2;have gp:=Vl.get_put (key:=p.1) (v:=p.2) hk hv;have gn:∀k,p.1≠k→Vl.get (Vl.put o p.1 p.2) k=Vl.get o k:=fun k hne=>Vl.get_put_ne hv hne;have pw:=Vl.put_wt o p.1 p.2;obtain⟨i1,i2,i3,i4,i5⟩:=fold_ok r (Vl.put o p.1 p.2) c h7 hn.2 (fun q hq=>hp q (List.mem_cons_of_mem _ hq)) (by omega);rw[List.foldl_cons];refine⟨i1,i2,fun q hq=>?_,fun k hk=>?_,?_⟩
  ·rcases List.mem_cons.1 hq with rfl|hq
   ·rw[i4 _ hn.1];exact gp
   ·exact i3 q hq
  ·rw[i4 k (fun h=>hk (by simp[h])),gn k (fun e=>hk (by simp[e]))]
  ·unfold wtP at i5 ⊢;rw[List.map_cons,List.sum_cons];omega
def okP (l:List Pr):Prop:=(l.map (·.1)).Nodup∧(∀p∈l,Vl.name p.1=true∧p.2.k≠0∧Vl.check 2 p.2=0)∧l.length≤8000
theorem ob7_check:Vl.check 1 ob7=0:=by decide
theorem ob7_get (k:List UInt8):Vl.get ob7 k=none:=Vl.get_out (by simp[ob7,Ob.keys])
theorem mkD_ok {l:List Pr}(h:okP l):Vl.check 1 (mkD l)=0∧(mkD l).k=7∧(∀p∈l,Vl.get (mkD l) p.1=some p.2)∧(∀k,k ∉ l.map (·.1)→Vl.get (mkD l) k=none)∧(mkD l).wt≤ob7.wt+wtP l:=by
 obtain⟨i1,i2,i3,i4,i5⟩:=fold_ok l ob7 ob7_check rfl h.1 h.2.1 (by have:=h.2.2;show 0+l.length≤8190;omega);exact⟨i1,i2,i3,fun k hk=>(i4 k hk).trans (ob7_get k),i5⟩
theorem mkD_dict {l:List Pr}(h:okP l):Vl.dict (flatP l)=(mkD l,0):=by
 have h1:=mkD_ok h;unfold Vl.dict;rw[if_neg (by rw[flatP_len];omega),if_neg (by rw[flatP_names];decide)];rw[dictG_flat l [] _ h.1 (fun _ _ h=>by cases h) (fun p hp=>(h.2.1 p hp).2.1)];show Vl.right (mkD l)=_;unfold Vl.right;rw[if_neg (by rw[h1.1];decide)]
theorem named_name {s:List UInt8}{n:Nat}(h:named s n=true):Vl.name s=true:=by
 unfold named at h;simp only[Bool.and_eq_true,decide_eq_true_eq,List.all_eq_true] at h;unfold Vl.name;simp only[Bool.and_eq_true,decide_eq_true_eq];exact⟨h.1.2,fun h0=>h.2 0 h0 rfl⟩
theorem nm_check {s:List UInt8}(h:Vl.name s=true){d:Nat}(hd:d≤24):Vl.check d (nm s)=0:=by
 have hl:s.length≤127:=by unfold Vl.name at h;simp only[Bool.and_eq_true,decide_eq_true_eq] at h;exact h.1
 refine Vl.check_iff.2 ⟨⟨hd,rfl,(fun e=>absurd e (show ¬((5:Int)=9) by decide)),rfl,hl,(show (0:Nat)≤8191 by decide),?_⟩,(fun c hc=>by cases hc)⟩;show (((!(decide ((5:Int)=5))||Vl.name s)&&(!(decide ((5:Int)=7∨(5:Int)=9))||_))=true);rw[h];rfl
theorem int_check {n:Int}(h1:-2147483647≤n)(h2:n≤2147483647){d:Nat}(hd:d≤24):Vl.check d (int n)=0:=by
 refine Vl.check_iff.2 ⟨⟨hd,rfl,(fun e=>absurd e (show ¬((2:Int)=9) by decide)),?_,(show (0:Nat)≤32767 by decide),(show (0:Nat)≤8191 by decide),rfl⟩,(fun c hc=>by cases hc)⟩;show decide (-2147483647≤n∧n≤2147483647)=true;exact decide_eq_true ⟨h1,h2⟩
theorem arr_check {l:List Ob}{d:Nat}(hd:d≤24)(hl:l.length≤8191)(h:∀c∈l,Vl.check (d+1) c=0):Vl.check d (arr l)=0:=
 Vl.check_iff.2 ⟨⟨hd,rfl,(fun e=>absurd e (show ¬((6:Int)=9) by decide)),rfl,(show (0:Nat)≤32767 by decide),hl,rfl⟩,h⟩
theorem dct_check {ks:List (List UInt8)}{cs:List Ob}{d:Nat}(hd:d≤24)(hr:Vl.Rise ks)(hn:∀k∈ks,Vl.name k=true)(hl:ks.length=cs.length)(hm:cs.length≤8191)(h0:∀c∈cs,c.k≠0)(h:∀c∈cs,Vl.check (d+1) c=0):Vl.check d (.mk 7 0 0 [] ks cs)=0:=by
 refine Vl.check_iff.2 ⟨⟨hd,rfl,(fun e=>absurd e (show ¬((7:Int)=9) by decide)),rfl,(show (0:Nat)≤32767 by decide),hm,?_⟩,h⟩;unfold Vl.form;rw[(Vl.rising_iff (o:=.mk 7 0 0 [] ks cs)).2 ⟨hl,hr,fun k hk=>⟨hn k hk,fun e=>absurd e (show ¬((7:Int)=9) by decide)⟩,h0⟩];rfl
def descP (f:Ft):List Pr:=[(kType,nm kDesc),(kFName,nm f.name),(kMiss,int f.missing)]
def encP (f:Ft):List Pr:=[(kType,nm kEnc),(kDiff,arr (int 0::f.names.map nm))]
def narrowP (f:Ft):List Pr:=
 [(kType,nm kFont),(kSub,nm kT1),(kBase,nm f.name)]++((if f.first < 256 then [(kFirst,int f.first)] else [])++((if f.widths=[] then [] else [(kWid,arr (f.widths.map int))]) ++
  ((if 0 < f.missing then [(kDesc,mkD (descP f))] else [])++(if f.names=[] then [] else [(kEnc,mkD (encP f))]))))
theorem desc_eq (f:Ft):mkD (descP f)=.mk 7 0 0 [] [kFName,kMiss,kType] [nm f.name,int f.missing,nm kDesc]:=by rfl
theorem enc_eq (f:Ft):mkD (encP f)=.mk 7 0 0 [] [kDiff,kType] [arr (int 0::f.names.map nm),nm kEnc]:=by rfl
structure Good (f:Ft):Prop where
 name:Vl.name f.name=true
 name1:f.name.length≤127
 first0:0≤f.first
 wl:f.widths.length≤4096
 room:f.first+f.widths.length≤room f.wide
 miss:0≤f.missing∧f.missing≤100000
 ws:∀n∈f.widths,0≤n∧n≤100000
 names:f.names=[]∨(f.wide=false∧f.names.length=256)
 nms:∀s∈f.names,Vl.name s=true
theorem good_of {f:Ft}(h:may f=true):Good f:=by
 unfold may at h;simp only[Bool.and_eq_true,decide_eq_true_eq,List.all_eq_true,Bool.or_eq_true,Bool.not_eq_true',wid] at h;obtain⟨⟨⟨⟨⟨⟨⟨h1,h2⟩,h3⟩,h4⟩,h5⟩,h6⟩,h7⟩,h8⟩:=h;have hn:=named_name h1;exact⟨hn,by unfold Vl.name at hn;simp only[Bool.and_eq_true,decide_eq_true_eq] at hn;exact hn.1,h2,h3,h4,h5,h6,h7,fun s hs=>named_name (h8 s hs)⟩
theorem desc_ok {f:Ft}(h:Good f):okP (descP f):=by
 refine⟨(show [kType,kFName,kMiss].Nodup by decide),fun p hp=>?_,(show 3≤8000 by decide)⟩;simp only[descP,List.mem_cons,List.not_mem_nil,or_false] at hp;rcases hp with rfl|rfl|rfl
 ·exact⟨(show Vl.name kType=true by decide),(show (5:Int)≠0 by decide),nm_check (by decide) (by decide)⟩
 ·exact⟨(show Vl.name kFName=true by decide),(show (5:Int)≠0 by decide),nm_check h.name (by decide)⟩
 ·exact⟨(show Vl.name kMiss=true by decide),(show (2:Int)≠0 by decide),int_check (by have:=h.miss;omega) (by have:=h.miss;omega) (by decide)⟩
theorem diff_check {f:Ft}(h:Good f){d:Nat}(hd:d≤20):Vl.check d (arr (int 0::f.names.map nm))=0:=by
 refine arr_check (by omega) ?_ fun c hc=>?_
 ·rw[List.length_cons,List.length_map];rcases h.names with e|e
  ·rw[e];decide
  ·rw[e.2];decide
 ·rcases List.mem_cons.1 hc with rfl|hc
  ·exact int_check (by decide) (by decide) (by omega)
  ·obtain⟨s,hs,rfl⟩:=List.mem_map.1 hc;exact nm_check (h.nms s hs) (by omega)
theorem narrow_mem {f:Ft}{p:Pr}:p∈narrowP f↔p=(kType,nm kFont)∨p=(kSub,nm kT1)∨p=(kBase,nm f.name)∨(f.first < 256∧p=(kFirst,int f.first))∨(f.widths≠[]∧p=(kWid,arr (f.widths.map int))) ∨
  (0 < f.missing∧p=(kDesc,mkD (descP f)))∨(f.names≠[]∧p=(kEnc,mkD (encP f))):=by
 unfold narrowP;by_cases h1:f.first < 256<;>by_cases h2:f.widths=[]<;>by_cases h3:0 < f.missing<;>by_cases h4:f.names=[]<;>simp[h1,h2,h3,h4]
theorem narrow_keys (f:Ft):((narrowP f).map (·.1)).Nodup:=by
 unfold narrowP;by_cases h1:f.first < 256<;>by_cases h2:f.widths=[]<;>by_cases h3:0 < f.missing<;>by_cases h4:f.names=[]<;>simp only[h1,h2,h3,h4,if_true,if_false,List.map_append,List.map_cons,List.map_nil,List.append_nil,List.nil_append]<;>decide
theorem narrow_ok {f:Ft}(h:Good f)(hw:f.wide=false):okP (narrowP f):=by
 have hr:f.first+f.widths.length≤256:=by have:=h.room;rw[hw] at this;exact this
 refine⟨narrow_keys f,fun p hp=>?_,?_⟩
 ·rcases narrow_mem.1 hp with rfl|rfl|rfl|⟨h1,rfl⟩|⟨h1,rfl⟩|⟨h1,rfl⟩|⟨h1,rfl⟩
  ·exact⟨(show Vl.name kType=true by decide),(show (5:Int)≠0 by decide),nm_check (by decide) (by decide)⟩
  ·exact⟨(show Vl.name kSub=true by decide),(show (5:Int)≠0 by decide),nm_check (by decide) (by decide)⟩
  ·exact⟨(show Vl.name kBase=true by decide),(show (5:Int)≠0 by decide),nm_check h.name (by decide)⟩
  ·exact⟨(show Vl.name kFirst=true by decide),(show (2:Int)≠0 by decide),int_check (by have:=h.first0;omega) (by omega) (by decide)⟩
  ·refine⟨(show Vl.name kWid=true by decide),(show (6:Int)≠0 by decide),arr_check (by decide) (by rw[List.length_map];have:=h.wl;omega) fun c hc=>?_⟩;obtain⟨n,hn,rfl⟩:=List.mem_map.1 hc;have:=h.ws n hn;exact int_check (by omega) (by omega) (by decide)
  ·refine⟨(show Vl.name kDesc=true by decide),(show (7:Int)≠0 by decide),?_⟩;rw[desc_eq];refine dct_check (by decide) (show List.Pairwise (fun a b=>Vl.less a b=true) [kFName,kMiss,kType] by decide) (by decide) rfl (show 3≤8191 by decide) (fun c hc=>?_) fun c hc=>?_<;>simp only[List.mem_cons,List.not_mem_nil,or_false] at hc<;>rcases hc with rfl|rfl|rfl
   ·exact (show (5:Int)≠0 by decide)
   ·exact (show (2:Int)≠0 by decide)
   ·exact (show (5:Int)≠0 by decide)
   ·exact nm_check h.name (by decide)
   ·exact int_check (by have:=h.miss;omega) (by have:=h.miss;omega) (by decide)
   ·exact nm_check (by decide) (by decide)
  ·refine⟨(show Vl.name kEnc=true by decide),(show (7:Int)≠0 by decide),?_⟩;rw[enc_eq];refine dct_check (by decide) (show List.Pairwise (fun a b=>Vl.less a b=true) [kDiff,kType] by decide) (by decide) rfl (show 2≤8191 by decide) (fun c hc=>?_) fun c hc=>?_<;>simp only[List.mem_cons,List.not_mem_nil,or_false] at hc<;>rcases hc with rfl|rfl
   ·exact (show (6:Int)≠0 by decide)
   ·exact (show (5:Int)≠0 by decide)
   ·exact diff_check h (by decide)
   ·exact nm_check (by decide) (by decide)
 ·unfold narrowP;by_cases h1:f.first < 256<;>by_cases h2:f.widths=[]<;>by_cases h3:0 < f.missing<;>by_cases h4:f.names=[]<;>simp[h1,h2,h3,h4]
end Fo
end
end Go.Proofs.YtmkodaephgnehaaGreatDoor
