/- Texts that go together: LxD LxE LxF LxG LxH LxI SRef03 LxR SHead SRef17 HdA LxS LxT LxU LxV LxW LxX LxY LxZ LxAA LxAB LxAC SLaw04 PlT LxAD SLaw03 LxAE HdB HdC SLaw17 HdD SRef55 ScA ObJ MkB SWrite ObK ObL ObM ObN ObO. -/
import Derived.Test.YtjloddgofmdmgaaGreatDoorRows
import Derived.Lib.SmallJoins
import Derived.Test.YtjloddgofmdmgaaGreatDoorMbbiofpfn
import Derived.Test.YtjloddgofmdmgaaGreatDoorMhijkokaf
import Derived.Test.YtjloddgofmdmgaaGreatDoorMgcppajji
set_option linter.defProp false
set_option linter.unusedSimpArgs false
set_option linter.unusedVariables false
set_option maxRecDepth 20000
open Go.Proofs.Tryz (prog)
namespace Go.Proofs.YtjloddgofmdmgaaGreatDoor
section
open Eng Go.RowKit
theorem cut_nil (s:List UInt8)(i:Nat):Lx.cut s i i=[]:=by simp[Lx.cut]
theorem cut_cons {s:List UInt8}{i j:Nat}(h:i < j)(hj:j≤s.length):Lx.cut s i j=s[i]::Lx.cut s (i+1) j:=by
 unfold Lx.cut;rw[Lx.drop_cons (show i < s.length by omega),show j - i=(j - (i+1))+1 by omega,List.take_succ_cons]
theorem cut_length {s:List UInt8}{i j:Nat}(hj:j≤s.length):(Lx.cut s i j).length=j - i:=by
 unfold Lx.cut;simp;omega
theorem cut_one {s:List UInt8}{i:Nat}(h:i < s.length):Lx.cut s i (i+1)=[s[i]]:=by rw[cut_cons (by omega) (by omega),cut_nil]
theorem cut_two {s:List UInt8}{i:Nat}(h:i+1 < s.length):Lx.cut s i (i+2)=[s[i],s[i+1]]:=by rw[cut_cons (by omega) (by omega),cut_one h]
theorem s_cut {s:List UInt8}{i j:Nat}{x y:Int}{w:World}{PK:PKT}{K:VWP}(hx:x=(i:Int))(hy:y=(j:Int))(h:i≤j)(hj:j≤s.length) :
  DoX prog (mSlice 9 (.string ⟨s.toArray⟩) (some (.int .i64 x)) (some (.int .i64 y)) none) w PK K=K (.string ⟨(Lx.cut s i j).toArray⟩) w:=by
 subst hx;subst hy;rw[s_slice Tryz.underlying9 (by omega) (by omega) (by omega)];rfl
theorem s_at {s:List UInt8}{i:Nat}{w:World}{PK:PKT}{K:VWP}(h:i < s.length) :
  DoX prog (mIx 9 (.string ⟨s.toArray⟩) (.int .i64 (i:Int))) w PK K=K (.int .u8 (s[i].toNat:Int)) w:=
 s_ix (c:=s[i]) Tryz.underlying9 (Int.natCast_nonneg i) (by simp[h])
theorem unhexE_two (a b:UInt8):Lx.unhexE [a,b]=if Lx.digit a < 0∨Lx.digit b < 0 then ([],3) else ([Lx.byte (Lx.digit a) (Lx.digit b)],0):=by
 by_cases h:Lx.digit a < 0∨Lx.digit b < 0
 ·rw[if_pos h];exact unhexE_none (by rw[Lx.unhex,if_pos h])
 ·rw[if_neg h];exact unhexE_some (by rw[Lx.unhex,if_neg h,Lx.unhex];rfl)
theorem name_ret (s:List UInt8)(a:Nat)(w:World)(hs:s.length≤1099511627776)(ha:a < s.length):Ret prog 111 #[cutV s a] w (fun v w'=>v=tokR (Lx.name s a)∧Below w.heap.size w w'):=by
 refine ret_of fun K hK=>S_lex_cutter_name_ok ?_;unfold S_lex_cutter_name;refine o_cut s a (Own.start w) fun b1 w1 ho=>?_;refine o_tok ho fun b w2 ho=>?_;have hw1:IntKind.wrap .i64 ((a:Int)+1)=((a+1:Nat):Int):=by rw[wrap64_id (by omega) (by omega)];omega
 simp only[cut_v ho 1 rfl,fa_c1,cut_a ho 1 rfl,rs,hw1];have hto:=Lx.run_le s (show a+1≤s.length by omega);have hto2:a+1≤Lx.run s (a+1):=by unfold Lx.run;omega
 refine c_below ho (run_ret s a (a+1) w2 hs (by omega)) ?_;rintro _ w3 rfl ho;simp only[fa_c1,cut_a ho 1 rfl,rs,hw1];generalize hT:Lx.run s (a+1)=tt at *;refine loop (fun vs w'=>∃(i:Nat) (v d:Value) (acc:List UInt8),vs=[d,v,.int .i64 i]∧a+1≤i∧i≤tt∧acc.length≤i∧Lx.nameF (Lx.cut s (a+1) tt)=(Lx.nameF (Lx.cut s i tt)).map (acc++·)∧Own w w' [BRow v acc,tokE b Lx.none_,cutE b1 s a])
  (fun vs _=>tt - n2 vs) ⟨a+1,_,_,[],rfl,by omega,hto2,by simp,by simp,ho.nilRow _ 1⟩ ?_
 rintro vs w4 ⟨i,v,d,acc,rfl,hi1,hi2,hacc,he,ho⟩ _;simp only[S_lex_cutter_name_0,gd];rw[b_lss];by_cases hlt:(i:Int) < (tt:Int)
 ·have hi3:i < tt:=by omega
  have hi4:i < s.length:=by omega
  simp only[hlt,decide_true,i_t,fa_c0,cut_s ho 2 rfl,s_at hi4];rw[cut_cons hi3 hto] at he;have e1:=u8d s[i] 35 35 rfl;refine join fun J hJ=>?_;have fin:∀(j:Nat) (c:UInt8) (n:Int) (d:Value) (w5:World),(c.toNat:Int)=n→i≤j→j < tt→Lx.nameF (Lx.cut s (a+1) tt)=(Lx.nameF (Lx.cut s (j+1) tt)).map (acc++c::·)→Own w w5 [BRow v acc,tokE b Lx.none_,cutE b1 s a]→J [d,.int .i64 j,.int .u8 n] w5:=by
   intro j c n d w5 hc hij hjt he ho;refine hJ _ _ fun _=>?_;simp only[S_lex_cutter_name_1,gd];refine o_app1 c hc ho (by omega) fun v' w6 ho=>?_;rw[b_add,wrap64_id (by omega) (by omega)];refine nextX ⟨j+1,v',_,acc++[c],rfl,by omega,by omega,by simp;omega,?_,ho⟩ (by simp[n2,RowKit.intOf];omega);rw[he]
   congr 1
   funext x;simp
  by_cases h35:s[i]=35
  ·simp only[rs,e1,decide_eq_true h35];rw[wrap64_id (by omega) (by omega)];by_cases hend:(tt:Int)≤(i:Int)+2
   ·simp only[hend,decide_true,i_t];refine tok_tail 1 ho rfl (refused_ret 3 _) fun w' hb=>hK _ _ ⟨?_,hb⟩;have hn:Lx.nameF (s[i]::Lx.cut s (i+1) tt)=none:=by
     have hl:=cut_length (s:=s) (i:=i+1) hto;cases hc:Lx.cut s (i+1) tt with
    |nil=>simp[Lx.nameF,h35]
    |cons x t=>
      cases t with
     |nil=>simp[Lx.nameF,h35]
     |cons y t=>rw[hc] at hl;simp at hl;omega
    rw[hn] at he;simp only[Lx.name,hT,he,Option.map_none]
   ·simp only[hend,decide_false,i_f,rs,fa_c0,cut_s ho 2 rfl];rw[wrap64_id (n:=(i:Int)+1) (by omega) (by omega),wrap64_id (n:=(i:Int)+3) (by omega) (by omega),s_cut (i:=i+1) (j:=i+3) (by simp) (by simp) (by omega) (by omega)];have hi5:i+1 < s.length:=by omega
    have hi6:i+2 < s.length:=by omega
    rw[show Lx.cut s (i+1) (i+3)=[s[i+1],s[i+2]] from cut_two (i:=i+1) (by omega)];have hlist:s[i]::Lx.cut s (i+1) tt=s[i]::s[i+1]::s[i+2]::Lx.cut s (i+3) tt:=by
     rw[cut_cons (show i+1 < tt by omega) hto,cut_cons (show i+1+1 < tt by omega) hto]
    rw[hlist,Lx.nameF,if_pos h35] at he;have b1:=Lx.digit_bd s[i+1];have b2:=Lx.digit_bd s[i+2];refine c_below ho (unhex_ret [s[i+1],s[i+2]] w4 (by simp)) ?_;rintro _ w5 rfl ho;have bad:(Lx.digit s[i+1] < 0∨Lx.digit s[i+2] < 0∨16*Lx.digit s[i+1]+Lx.digit s[i+2]=0)→Lx.name s a=Lx.refused 3:=by
     intro h;rw[if_pos h] at he;simp only[Lx.name,hT,he,Option.map_none]
    rw[x_0,x_1,unhexE_two];by_cases hbad:Lx.digit s[i+1] < 0∨Lx.digit s[i+2] < 0
    ·rw[if_pos hbad];simp only[rs,g_un,ne_eq,show ¬((3:Int)=0) by decide,not_false_eq_true,decide_true];refine tok_tail 1 ho rfl (refused_ret 3 _) fun w' hb=>hK _ _ ⟨?_,hb⟩;rw[bad (by rcases hbad with h|h<;>simp[h])]
    ·rw[if_neg hbad];have hb0:=byte_nat (a:=Lx.digit s[i+1]) (b:=Lx.digit s[i+2]) (by omega) (by omega) (by omega) (by omega);simp only[rs,g_un,ne_eq,not_true,decide_false];by_cases hz:16*Lx.digit s[i+1]+Lx.digit s[i+2]=0
     ·have hbz:Lx.byte (Lx.digit s[i+1]) (Lx.digit s[i+2])=0:=UInt8.toNat_inj.1 (by have:((0:UInt8).toNat:Int)=0:=rfl;omega);rw[hbz];simp only[rs,decide_true];refine tok_tail 1 ho rfl (refused_ret 3 _) fun w' hb=>hK _ _ ⟨?_,hb⟩;rw[bad (.inr (.inr hz))]
     ·have hbz:¬([Lx.byte (Lx.digit s[i+1]) (Lx.digit s[i+2])]=[(0:UInt8)]):=by
       intro h
       injection h with h _
       rw[h] at hb0;exact hz (by rw[←hb0];rfl)
      rw[if_neg (by omega)] at he;simp only[rs,hbz,decide_false];rw[s_ix (c:=Lx.byte (Lx.digit s[i+1]) (Lx.digit s[i+2])) Tryz.underlying9 (by omega) rfl];refine fin (i+2) _ _ _ _ rfl (by omega) (by omega) ?_ ho;rw[he,Option.map_map];rfl
  ·simp only[rs,e1,decide_eq_false h35];refine fin i s[i] _ _ _ rfl (by omega) hi3 ?_ ho;rw[he,Lx.nameF_ne h35,Option.map_map];rfl
 ·have hi3:i=tt:=by omega
  subst hi3;simp only[hlt,decide_false,i_f,cut_v ho 2 rfl,o_strB 0 ho rfl];rw[cut_nil,Lx.nameF,Option.map_some,List.append_nil] at he;refine tok_tail 1 ho rfl (told_ret s a 4 i acc 127 _) fun w' hb=>hK _ _ ⟨?_,hb⟩;simp only[Lx.name,hT,he]
end
section
open Eng Go.RowKit
theorem wrap8_mod (n:Int):IntKind.wrap .u8 n=n % 256:=by
 simp[IntKind.wrap,IntKind.signed,IntKind.bits]
theorem escL_ix (c:UInt8):match Lx.escL c with
 |some b=>∃k:Nat,Lib.indexByte [110,114,116,98,102] c=(k:Int)∧k < 5∧Lx.cut [10,13,9,8,12] k (k+1)=[b]
 |none=>Lib.indexByte [110,114,116,98,102] c=-1:=by
 by_cases h1:c=110
 ·subst h1;exact⟨0,by decide,by decide,by decide⟩
 by_cases h2:c=114
 ·subst h2;exact⟨1,by decide,by decide,by decide⟩
 by_cases h3:c=116
 ·subst h3;exact⟨2,by decide,by decide,by decide⟩
 by_cases h4:c=98
 ·subst h4;exact⟨3,by decide,by decide,by decide⟩
 by_cases h5:c=102
 ·subst h5;exact⟨4,by decide,by decide,by decide⟩
 have e:Lx.escL c=none:=by simp[Lx.escL,h1,h2,h3,h4,h5]
 rw[e];have g:∀x:UInt8,c≠x→(x==c)=false:=fun x hx=>by simpa using fun h:x=c=>hx h.symm
 simp[Lib.indexByte,g _ h1,g _ h2,g _ h3,g _ h4,g _ h5]
theorem o_str1 {S:Nat→Prop}{w0 w:World}{L:List Ent}{n:Int}{PK PK2:PKT}{K:VWP}(c:UInt8)(h:(c.toNat:Int)=n)(ho:OwnS S w0 w L)
  (k:∀w',OwnS S w0 w' L→K (.string ⟨[c].toArray⟩) w') :
  DoX prog (mBuildS 71 1 #[(0,.int .u8 n)]) w PK fun t w=>DoX prog (mConv 71 9 t) w PK2 K:=by
 refine o_new (fun b=>.slice (some ⟨b,0,none⟩) [c].length [c].length) (bytesV [c]) 5 (fun w=>m_b1 w c h) ho fun b w' ho'=>?_;rw[c_bytes (l:=[c]) Tryz.underlying71 Tryz.underlying5 Tryz.underlying9 (ho'.sl 0 rfl 1 [c].length [c].length rfl)];exact k _ ho'.tail
theorem escaped_ret (s:List UInt8)(a:Int)(i:Nat)(w:World)(hs:s.length≤1099511627776)(h:i < s.length):Ret prog 165 #[cutV s a,.int .i64 i] w (fun v w'=>v=.tuple #[.string ⟨(Lx.escF (s.drop i)).1.toArray⟩,.int .i64 ((i+(Lx.escF (s.drop i)).2:Nat):Int)]∧Below w.heap.size w w'):=by
 refine ret_of fun K hK=>S_lex_cutter_escaped_ok ?_;unfold S_lex_cutter_escaped;refine o_cut s a (Own.start w) fun b1 w1 ho=>?_;simp only[fa_c0,cut_s ho 0 rfl,s_at h];refine c_eq (indexByte_ret [110,114,116,98,102] s[i] w1) ?_;have hd:=Lx.drop_cons h;have hx:=escL_ix s[i];cases hl:Lx.escL s[i] with
|some b=>
  rw[hl] at hx;obtain⟨k,hk,hk5,hc⟩:=hx;have hn:(0:Int)≤(k:Int):=by omega
  simp only[hk,rs,hn,decide_true];rw[wrap64_id (n:=(k:Int)+1) (by omega) (by omega),wrap64_id (n:=(i:Int)+1) (by omega) (by omega)];rw[show (⟨#[10,13,9,8,12]⟩:ByteArray)=⟨([10,13,9,8,12]:List UInt8).toArray⟩ from rfl,s_cut (i:=k) (j:=k+1) rfl (by simp) (by omega) (by simp;omega),hc];exact hK _ _ ⟨by rw[hd,Lx.escF,hl];simp,ho.done⟩
|none=>
  rw[hl] at hx;simp only[hx,rs,show ¬((0:Int)≤-1) by decide,decide_false,cut_v ho 0 rfl];refine c_below ho (end_ret s a i w1 hs h) ?_;rintro _ w2 rfl ho;rw[x_0,x_1];cases he:Lx.eol s[i] with
 |true=>
   simp only[if_true,rs];refine hK _ _ ⟨?_,ho.done⟩;rw[hd,Lx.escF,hl];simp only[he,if_true,Lx.line,hd]
 |false=>
   simp only[Bool.false_eq_true,if_false,i_f];have hE:Lx.escF (s.drop i)=if 0 < (Lx.octF 3 0 (s.drop i)).2 then ([UInt8.ofNat (Lx.octF 3 0 (s.drop i)).1],(Lx.octF 3 0 (s.drop i)).2) else ([s[i]],1):=by
    rw[hd,Lx.escF,hl];simp only[he,Bool.false_eq_true,if_false]
   refine loop (fun vs w'=>∃(j n:Nat),vs=[.int .i64 n,.int .i64 j]∧i≤j∧j≤i+3∧j≤s.length∧n < 8 ^ (j - i)∧Lx.octF 3 0 (s.drop i)=((Lx.octF (3 - (j - i)) n (s.drop j)).1,(Lx.octF (3 - (j - i)) n (s.drop j)).2+(j - i))∧Own w w' [cutE b1 s a])
    (fun vs _=>i+3 - n1 vs) ⟨i,0,rfl,by omega,by omega,by omega,by simp,by simp,ho⟩ ?_
   rintro vs w3 ⟨j,n,rfl,hj1,hj2,hj3,hn,ho8,ho⟩ _;simp only[S_lex_cutter_escaped_0,gd,fa_c0,cut_s ho 0 rfl,s_len Tryz.underlying9];have hn2:n < 512:=Nat.lt_of_lt_of_le hn (Nat.pow_le_pow_right (by decide) (by omega:j - i≤3));have stop:Lx.octF (3 - (j - i)) n (s.drop j)=(n,0)→IfX (.bool (decide ((i:Int) < (j:Int)))) (DoX prog (mConv 3 5 (.int .i64 n)) w3 (pk K) fun t73 w=>
     DoX prog (mBuildS 71 1 #[(0,t73)]) w (pk K) fun t74 w=>
     DoX prog (mConv 71 9 t74) w (pk K) fun t75 w=>
     K (.returned (.tuple #[t75,.int .i64 j])) w) (DoX prog (mSlice 9 (.string ⟨s.toArray⟩) (some (.int .i64 i)) (some (.int .i64 (IntKind.wrap .i64 ((i:Int)+1)))) none) w3 (pk K) fun t82 w=>
     K (.returned (.tuple #[t82,.int .i64 (IntKind.wrap .i64 ((i:Int)+1))])) w):=by
    intro h0;rw[h0] at ho8;by_cases hij:(i:Int) < (j:Int)
    ·simp only[hij,decide_true,i_t];rw[c_8,wrap8_mod];refine o_str1 (UInt8.ofNat n) (by rw[UInt8.toNat_ofNat'];omega) ho fun w' ho=>?_;refine hK _ _ ⟨?_,ho.done⟩;rw[hE,ho8,if_pos (by simp;omega)];simp only;rw[show i+(0+(j - i))=j by omega]
    ·simp only[hij,decide_false,i_f];rw[wrap64_id (by omega) (by omega),s_cut (i:=i) (j:=i+1) rfl (by simp) (by omega) (by omega),cut_one h];refine hK _ _ ⟨?_,ho.done⟩;rw[hE,ho8,if_neg (by simp;omega)];simp
   by_cases hlt:(j:Int) < (s.length:Int)
   ·have hj4:j < s.length:=by omega
    have hdj:=Lx.drop_cons hj4;by_cases hj5:(j:Int) < (i:Int)+3
    ·obtain⟨m,hm⟩:∃m,3 - (j - i)=m+1:=⟨3 - (j - i) - 1,by omega⟩;have hw3:IntKind.wrap .i64 ((i:Int)+3)=(i:Int)+3:=wrap64_id (by omega) (by omega);rw[hm,hdj,Lx.octF] at ho8;by_cases h48:(48:Int)≤(s[j].toNat:Int)
     ·by_cases h55:(s[j].toNat:Int)≤55
      ·have hoct:Lx.oct s[j]=true:=by simp[Lx.oct];omega
       simp only[hlt,decide_true,rs,hw3,hj5,fa_c0,cut_s ho 0 rfl,s_at hj4,h48,h55];rw[wrap8_id (by omega) (by omega),c_64 (by omega) (by omega)];simp only[rs];rw[wrap64_id (n:=8*(n:Int)) (by omega) (by omega),wrap64_id (by omega) (by omega),wrap64_id (by omega) (by omega)];rw[if_pos hoct] at ho8;refine nextX ⟨j+1,8*n+(s[j].toNat - 48),by simp;omega,by omega,by omega,by omega,?_,?_,ho⟩ (by simp[n1,RowKit.intOf];omega)
       ·rw[show j+1 - i=(j - i)+1 by omega,Nat.pow_succ];omega
       ·rw[ho8,show 3 - (j+1 - i)=m by omega];refine Prod.ext rfl ?_;simp only;omega
      ·simp only[hlt,decide_true,rs,hw3,hj5,fa_c0,cut_s ho 0 rfl,s_at hj4,h48,h55,decide_false,g_un];refine stop ?_;rw[hm,hdj,Lx.octF,if_neg];simp[Lx.oct];omega
     ·simp only[hlt,decide_true,rs,hw3,hj5,fa_c0,cut_s ho 0 rfl,s_at hj4,h48,decide_false,g_un];refine stop ?_;rw[hm,hdj,Lx.octF,if_neg];simp[Lx.oct];omega
    ·have hw3:IntKind.wrap .i64 ((i:Int)+3)=(i:Int)+3:=wrap64_id (by omega) (by omega);simp only[hlt,decide_true,rs,hw3,hj5,fa_c0,cut_s ho 0 rfl,decide_false,g_un];refine stop ?_;rw[show 3 - (j - i)=0 by omega,Lx.octF]
   ·simp only[hlt,decide_false,rs,fa_c0,cut_s ho 0 rfl,g_un];refine stop ?_;rw[show j=s.length by omega,List.drop_length];cases 3 - (s.length - i)<;>rfl
end
section
open Eng Go.RowKit
theorem bldString_q {w0 w:World}{L:List Ent}(i:Nat){b:Nat}{v:Value}{l:List UInt8}(ho:Own w0 w L)(hi:L[i]?=some (Bld b v l)):Ret prog 34 #[.pointer (some ⟨b,0,none⟩)] w (fun r w'=>r=.string ⟨l.toArray⟩∧Own w0 w' L):=by
 refine (bldString_ret (ho.at_ i hi)).mono ?_;rintro r w' ⟨e',⟨rfl,rfl⟩,ht⟩;have:=ho.turn i hi ht;have e:L.set i (Bld b v l)=L:=by
  obtain⟨h1,h2⟩:=List.getElem?_eq_some_iff.1 hi;rw[←h2];exact List.set_getElem_self h1
 rw[e] at this;exact⟨rfl,this⟩
theorem told_q {w0 w:World}{L:List Ent}{x:Value}{f:Nat}{args:Array Value}(ho:Own w0 w L)(h:Ret prog f args w (fun v w'=>v=x∧Below w.heap.size w w')):Ret prog f args w (fun r w'=>r=x∧Own w0 w' L):=
 h.mono fun _ _ r=>⟨r.1,ho.grow r.2⟩
theorem textG_eol {s:List UInt8}{i o:Nat}(h:i < s.length)(he:Lx.eol s[i]=true):Lx.textG 0 o (s.drop i)=(Lx.textG 0 o (s.drop (Lx.line s i))).map fun r=>(10::r.1,r.2+(Lx.line s i - i)):=by
 have hd:=Lx.drop_cons h;have h1:=Lx.lineF_pos s[i] (s.drop (i+1));have h2:=Lx.lineF_le (s.drop i);rw[hd] at h2;have hl:Lx.line s i=i+Lx.lineF (s[i]::s.drop (i+1)):=by rw[Lx.line,hd]
 rw[hd,Lx.textG,if_pos he,Lx.textG_skip _ _ _ (by simp at h2 ⊢;omega),Option.map_map,List.drop_drop,hl,show i+1+(Lx.lineF (s[i]::s.drop (i+1)) - 1)=i+Lx.lineF (s[i]::s.drop (i+1)) by omega]
 congr 1
 funext r
 refine Prod.ext rfl ?_;simp only[Function.comp];omega
theorem textG_esc {s:List UInt8}{i o:Nat}(h:i+1 < s.length)(he:s[i]=92):Lx.textG 0 o (s.drop i)=(Lx.textG 0 o (s.drop (i+1+(Lx.escF (s.drop (i+1))).2))).map fun r=>((Lx.escF (s.drop (i+1))).1++r.1,r.2+1+(Lx.escF (s.drop (i+1))).2):=by
 have hd:=Lx.drop_cons (show i < s.length by omega);have hd2:=Lx.drop_cons h;have h2:=Lx.escF_le (s.drop (i+1));have hn:Lx.eol s[i]=false:=by rw[he];rfl
 rw[hd,Lx.textG,if_neg (by rw[hn];decide),if_pos he];rw[if_neg (by rw[hd2];exact List.cons_ne_nil _ _),Lx.textG_skip _ _ _ h2,Option.map_map,List.drop_drop]
 congr 1
 funext r
 refine Prod.ext rfl ?_;simp only[Function.comp];omega
theorem text_ret (s:List UInt8)(a:Nat)(w:World)(hs:s.length≤1099511627776)(ha:a < s.length):Ret prog 112 #[cutV s a] w (fun v w'=>v=tokR (Lx.text s a)∧Below w.heap.size w w'):=by
 refine ret_of fun K hK=>S_lex_cutter_text_ok ?_;unfold S_lex_cutter_text;refine o_cut s a (Own.start w) fun b1 w1 ho=>?_;refine o_tok ho fun b w2 ho=>?_;refine o_new (fun b=>.pointer (some ⟨b,0,none⟩)) [.pointer none,.slice none 0 0] 73 (fun _=>by kernel_rfl) ho fun b4 w3 ho=>?_;have ho:Own w w3 [Bld b4 (.slice none 0 0) [],tokE b Lx.none_,cutE b1 s a]:=OwnS.closeB (l:=[]) (.inl rfl) roomy_nil ((ho.nilRow 5 1).swap);have hw1:IntKind.wrap .i64 ((a:Int)+1)=((a+1:Nat):Int):=by rw[wrap64_id (by omega) (by omega)];omega
 simp only[fa_c1,cut_a ho 2 rfl,rs,hw1];refine loop (fun vs w'=>∃(i o:Nat) (v d:Value) (acc:List UInt8),vs=[d,.int .i64 o,.int .i64 i]∧a+1≤i∧i≤s.length∧1≤o∧o≤i∧acc.length≤i∧Lx.textG 0 1 (s.drop (a+1))=(Lx.textG 0 o (s.drop i)).map (fun r=>(acc++r.1,r.2+(i - (a+1))))∧Own w w' [Bld b4 v acc,tokE b Lx.none_,cutE b1 s a])
  (fun vs _=>s.length - n2 vs) ⟨a+1,1,_,_,[],rfl,by omega,by omega,by omega,by omega,by simp,by simp,ho⟩ ?_
 rintro vs w4 ⟨i,o,v,d,acc,rfl,hi1,hi2,ho1,ho2,hacc,he,ho⟩ _;simp only[S_lex_cutter_text_0,gd,fa_c0,cut_s ho 2 rfl,s_len Tryz.underlying9];rw[b_lss];have bad:∀{w5},Own w w5 [Bld b4 v acc,tokE b Lx.none_,cutE b1 s a]→Lx.textG 0 o (s.drop i)=none→CallX prog 107 #[(.int .i64 4)] w5 (pk K) fun t42 w=>
   DoX prog (mExt t42 0) w (pk K) fun t43 w=>
   DoX prog (mExt t42 1) w (pk K) fun t44 w=>
   DoX prog (mStore 90 (.pointer (some ⟨b,0,none⟩)) t43) w (pk K) fun _ w=>
   RetX prog [.cell (.pointer (some ⟨b,0,none⟩)) 90,.val t44] w K:=by
  intro w5 ho hn;rw[hn,Option.map_none] at he;exact tok_tail 1 ho rfl (refused_ret 4 _) fun w' hb=>hK _ _ ⟨by rw[Lx.text,he],hb⟩
 by_cases hlt:(i:Int) < (s.length:Int)
 ·have hi3:i < s.length:=by omega
  have hd:=Lx.drop_cons hi3;simp only[hlt,decide_true,i_t,cut_v ho 2 rfl];refine c_below ho (end_ret s a i w4 hs hi3) ?_;rintro _ w5 rfl ho;rw[x_0,x_1];cases hE:Lx.eol s[i] with
 |true=>
   simp only[if_true,i_t];have hlp:=Lx.lineF_pos s[i] (s.drop (i+1));have hll:=Lx.lineF_le (s.drop i);have hL:Lx.line s i=i+Lx.lineF (s.drop i):=rfl;rw[←hd] at hlp;rw[List.length_drop] at hll;refine c_turn 0 ho rfl (writeByteN_ret (k:=10) (ho.at_ 0 rfl) (by omega) rfl (by omega)) ?_;rintro _ _ w6 ⟨rfl,v',rfl⟩ ho;refine nextX ⟨Lx.line s i,o,v',_,acc++[10],rfl,by omega,by omega,ho1,by omega,by simp;omega,?_,ho⟩ (by simp[n2,RowKit.intOf];omega);rw[he,textG_eol hi3 hE,Option.map_map]
   congr 1
   funext r
   refine Prod.ext (by simp) ?_;simp only[Function.comp];omega
 |false=>
   simp only[Bool.false_eq_true,if_false,i_f];refine join fun J hJ=>?_;simp only[fa_c0,cut_s ho 2 rfl,s_at hi3];have e1:=u8d s[i] 92 92 rfl;have e2:=u8d s[i] 40 40 rfl;have e3:=u8d s[i] 41 41 rfl;have hne:¬(Lx.eol s[i]=true):=by rw[hE];decide
   rw[hd,Lx.textG,if_neg hne] at he;have hput:∀(o':Nat) (d:Value),1≤o'→o'≤i+1→Lx.textG 0 1 (s.drop (a+1))=(Lx.textG 0 o' (s.drop (i+1))).map (fun r=>(acc++s[i]::r.1,r.2+1+(i - (a+1))))→J [d,.int .i64 o',.int .i64 i] w5:=by
    intro o' d h1 h2 he;refine hJ _ _ fun _=>?_;have h0:¬((o':Int)=0):=by omega
    simp only[S_lex_cutter_text_1,gd,rs,h0,decide_false,fa_c0,cut_s ho 2 rfl,s_at hi3];refine c_turn 0 ho rfl (writeByte_ret (c:=s[i]) (ho.at_ 0 rfl) (by omega)) ?_;rintro _ _ w6 ⟨rfl,v',rfl⟩ ho;rw[wrap64_id (by omega) (by omega)];refine nextX ⟨i+1,o',v',_,acc++[s[i]],rfl,by omega,by omega,h1,by omega,by simp;omega,?_,ho⟩ (by simp[n2,RowKit.intOf];omega);rw[he]
    congr 1
    funext r
    refine Prod.ext (by simp) ?_;simp only;omega
   by_cases g1:s[i]=92
   ·simp only[rs,e1,decide_eq_true g1];rw[wrap64_id (by omega) (by omega)];simp only[fa_c0,cut_s ho 2 rfl,s_len Tryz.underlying9,rs];rw[if_pos g1] at he;by_cases hend:(i:Int)+1=(s.length:Int)
    ·simp only[hend,decide_true,i_t];refine bad ho ?_;rw[hd,Lx.textG,if_neg hne,if_pos g1,if_pos (List.drop_eq_nil_of_le (by omega))]
    ·have hi4:i+1 < s.length:=by omega
     simp only[hend,decide_false,i_f,cut_v ho 2 rfl,rs];rw[show (i:Int)+1=((i+1:Nat):Int) by omega];have hel:=Lx.escF_le (s.drop (i+1));rw[List.length_drop] at hel;refine c_below ho (escaped_ret s a (i+1) w5 hs hi4) ?_;rintro _ w6 rfl ho;rw[x_0,x_1];have hxl:(Lx.escF (s.drop (i+1))).1.length≤1:=by
      rw[Lx.drop_cons hi4,Lx.escF];split
      ·simp
      ·split
       ·simp
       ·split<;>simp
     refine c_turn 0 ho rfl (writeString_ret (ho.at_ 0 rfl) (by omega)) ?_;rintro _ _ w7 ⟨_,v',rfl⟩ ho;refine nextX ⟨i+1+(Lx.escF (s.drop (i+1))).2,o,v',_,acc++(Lx.escF (s.drop (i+1))).1,rfl,by omega,by omega,ho1,by omega,by simp;omega,?_,ho⟩ (by simp[n2,RowKit.intOf];omega);have:=textG_esc (o:=o) hi4 g1;rw[hd,Lx.textG,if_neg hne,if_pos g1] at this;rw[he,this,Option.map_map]
     congr 1
     funext r
     refine Prod.ext (by simp) ?_;simp only[Function.comp];omega
   rw[if_neg g1] at he;simp only[rs,e1,decide_eq_false g1];by_cases g2:s[i]=40
   ·simp only[rs,e2,decide_eq_true g2];rw[wrap64_id (by omega) (by omega)];rw[if_pos g2,Option.map_map] at he;exact hput (o+1) d (by omega) (by omega) he
   rw[if_neg g2] at he;simp only[rs,e2,decide_eq_false g2];by_cases g3:s[i]=41
   ·simp only[rs,e3,decide_eq_true g3];rw[wrap64_id (by omega) (by omega)];rw[if_pos g3] at he;by_cases g4:o≤1
    ·have g5:(o:Int) - 1=0:=by omega
     rw[if_pos g4,Option.map_some,List.append_nil] at he;rw[g5];refine hJ _ _ fun _=>?_;simp only[S_lex_cutter_text_1,gd,rs,decide_true];refine quietC (fun w'=>Own w w' [Bld b4 v acc,tokE b Lx.none_,cutE b1 s a]) ho.drew ?_;refine q_at _ (fun _ ho=>cutr_v ho 2 rfl) ?_;refine q_do (.int .i64 ((i:Int)+1)) (fun _=>by rw[r_add,wrap64_id (by omega) (by omega)]) ?_;refine q_call _ (fun _ ho=>bldString_q 0 ho rfl) ?_;refine q_call (tokR (Lx.told 3 a ((i:Int)+1) acc 32767)) (fun w' ho=>told_q ho (told_ret s a 3 _ acc 32767 w')) ?_;refine q_do _ (fun _=>run_ext0) (q_do _ (fun _=>run_ext1) ?_);intro w6 ho;refine tok_put 1 ho rfl fun w' ho=>hK _ _ ⟨?_,ho.done⟩;simp only[Lx.text,he];rw[show ((a+1+(1+(i - (a+1))):Nat):Int)=(i:Int)+1 by omega]
    ·rw[if_neg g4,Option.map_map] at he;rw[show (o:Int) - 1=((o - 1:Nat):Int) by omega];exact hput (o - 1) d (by omega) (by omega) he
   rw[if_neg g3,Option.map_map] at he;simp only[rs,e3,decide_eq_false g3];exact hput o d ho1 (by omega) he
 ·have hi3:i=s.length:=by omega
  simp only[hlt,decide_false,i_f];refine bad ho ?_;rw[hi3,List.drop_length];rfl
end
section
open Eng Go.RowKit
def n3 (vs:List Value):Nat:=(RowKit.intOf (vs.getD 3 undef)).toNat
theorem hexS {w:World}{PK:PKT}{K:VWP}{a:Int}(c:Nat)(ha:0≤a)(ha2:a≤15):DoX prog (mBin .shl 3 (.int .i64 a) (.int .u64 4)) w PK K=K (.int .i64 (16*a)) w:=by
 rw[b_shl (by omega)];have:=hexor_fin ⟨a.toNat,by omega⟩ ⟨0,by omega⟩;have e:a*2 ^ (min (4:Int).toNat IntKind.i64.bits)=16*a:=by
  rw[show (2:Int) ^ (min (4:Int).toNat IntKind.i64.bits)=16 from rfl];omega
 rw[e,wrap64_id (by omega) (by omega)]
theorem cut_hex_ret (s:List UInt8)(a:Nat)(w:World)(hs:s.length≤1099511627776)(ha:a < s.length):Ret prog 110 #[cutV s a] w (fun v w'=>v=tokR (Lx.hex s a)∧Below w.heap.size w w'):=by
 refine ret_of fun K hK=>S_lex_cutter_hex_ok ?_;unfold S_lex_cutter_hex;refine o_cut s a (Own.start w) fun b1 w1 ho=>?_;refine o_tok ho fun b w2 ho=>?_;have hw1:IntKind.wrap .i64 ((a:Int)+1)=((a+1:Nat):Int):=by rw[wrap64_id (by omega) (by omega)];omega
 simp only[fa_c1,cut_a ho 1 rfl,rs,hw1]
 let ext (acc:List UInt8) (n:Nat) (r:(List UInt8×Nat) ⊕ Int):(List UInt8×Nat) ⊕ Int:=match r with|.inl r=>.inl (acc++r.1,r.2+n)|.inr e=>.inr e
 refine loop (fun vs w'=>∃(i:Nat) (h:Int) (v d:Value) (acc:List UInt8),vs=[d,v,.int .i64 h,.int .i64 i]∧a+1≤i∧i≤s.length∧-1≤h∧h≤15∧acc.length≤i∧Lx.hexF (-1) (s.drop (a+1))=ext acc (i - (a+1)) (Lx.hexF h (s.drop i))∧Own w w' [BRow v acc,tokE b Lx.none_,cutE b1 s a])
  (fun vs _=>s.length - n3 vs) ⟨a+1,-1,_,_,[],rfl,by omega,by omega,by omega,by omega,by simp,?_,ho.nilRow _ 1⟩ ?_
 ·cases Lx.hexF (-1) (s.drop (a+1))<;>simp[ext]
 rintro vs w4 ⟨i,h,v,d,acc,rfl,hi1,hi2,hh1,hh2,hacc,he,ho⟩ _;simp only[S_lex_cutter_hex_0,gd,fa_c0,cut_s ho 2 rfl,s_len Tryz.underlying9];rw[b_lss];have bad:∀(e:Int) {w5},Own w w5 [BRow v acc,tokE b Lx.none_,cutE b1 s a]→Lx.hexF h (s.drop i)=.inr e→CallX prog 107 #[(.int .i64 e)] w5 (pk K) fun t42 w=>
   DoX prog (mExt t42 0) w (pk K) fun t43 w=>
   DoX prog (mExt t42 1) w (pk K) fun t44 w=>
   DoX prog (mStore 90 (.pointer (some ⟨b,0,none⟩)) t43) w (pk K) fun _ w=>
   RetX prog [.cell (.pointer (some ⟨b,0,none⟩)) 90,.val t44] w K:=by
  intro e w5 ho hn;rw[hn] at he;exact tok_tail 1 ho rfl (refused_ret e _) fun w' hb=>hK _ _ ⟨by simp only[Lx.hex,he,ext],hb⟩
 by_cases hlt:(i:Int) < (s.length:Int)
 ·have hi3:i < s.length:=by omega
  have hd:=Lx.drop_cons hi3;simp only[hlt,decide_true,i_t];refine join fun J hJ=>?_;simp only[fa_c0,cut_s ho 2 rfl,s_at hi3];have e1:=u8d s[i] 62 62 rfl;have go:∀(h':Int) (v' d':Value) (acc':List UInt8) (w5:World),-1≤h'→h'≤15→acc'.length≤i+1→Lx.hexF (-1) (s.drop (a+1))=ext acc' (i+1 - (a+1)) (Lx.hexF h' (s.drop (i+1)))→Own w w5 [BRow v' acc',tokE b Lx.none_,cutE b1 s a]→J [d',v',.int .i64 h'] w5:=by
   intro h' v' d' acc' w5 h1 h2 h3 h4 ho;refine hJ _ _ fun _=>?_;simp only[S_lex_cutter_hex_2,gd,rs];rw[wrap64_id (by omega) (by omega)];exact nextX ⟨i+1,h',v',_,acc',rfl,by omega,by omega,h1,h2,h3,h4,ho⟩ (by simp[n3,RowKit.intOf];omega)
  rw[hd,Lx.hexF] at he;have hb0:=Lx.digit_bd s[i];by_cases g1:s[i]=62
  ·simp only[rs,e1,decide_eq_true g1];rw[if_pos g1] at he;refine join fun J3 hJ3=>?_;have fin:∀(v':Value) (acc':List UInt8) (w5:World),acc'=acc++(if 0≤h then [Lx.byte h 0] else [])→Own w w5 [BRow v' acc',tokE b Lx.none_,cutE b1 s a]→J3 [v'] w5:=by
    intro v' acc' w5 hacc' ho;refine hJ3 _ _ fun _=>?_;simp only[S_lex_cutter_hex_1,gd,rs,cut_v ho 2 rfl,o_strB 0 ho rfl];rw[wrap64_id (by omega) (by omega)];refine tok_tail 1 ho rfl (told_ret s a 3 _ acc' 32767 _) fun w' hb=>hK _ _ ⟨?_,hb⟩;simp only[Lx.hex,he,ext];rw[hacc',show ((a+1+(1+(i - (a+1))):Nat):Int)=(i:Int)+1 by omega]
   by_cases g2:0≤h
   ·simp only[rs,g2,decide_true];rw[hexS 0 g2 hh2,c_8,wrap8_mod];have hb:=byte_nat (a:=h) (b:=0) g2 hh2 (by omega) (by omega);refine o_app1 (Lx.byte h 0) (by omega) ho (by omega) fun v' w6 ho=>?_;exact fin _ _ _ (by rw[if_pos g2]) ho
   ·simp only[rs,g2,decide_false];exact fin _ _ _ (by rw[if_neg g2,List.append_nil]) ho
  rw[if_neg g1] at he;simp only[rs,e1,decide_eq_false g1];refine c_eq (digit_ret s[i] w4) ?_;refine c_eq (white_ret s[i] w4) ?_;cases hw:Oc.white s[i] with
 |true=>
   simp only[rs];rw[if_pos hw] at he;refine go h v _ acc _ hh1 hh2 (by omega) ?_ ho;rw[he];cases Lx.hexF h (s.drop (i+1)) with
  |inl r=>simp only[ext];rw[show r.2+1+(i - (a+1))=r.2+(i+1 - (a+1)) by omega]
  |inr e=>rfl
 |false=>
   rw[if_neg (by rw[hw];decide)] at he;by_cases g2:Lx.digit s[i] < 0
   ·simp only[rs,g2,decide_true];refine bad 3 ho ?_;rw[hd,Lx.hexF,if_neg g1,if_neg (by rw[hw];decide),if_pos g2]
   rw[if_neg g2] at he;by_cases g3:h < 0
   ·simp only[rs,g2,g3,decide_false,decide_true];rw[if_pos g3] at he;refine go _ v _ acc _ hb0.1 hb0.2 (by omega) ?_ ho;rw[he];cases Lx.hexF (Lx.digit s[i]) (s.drop (i+1)) with
   |inl r=>simp only[ext];rw[show r.2+1+(i - (a+1))=r.2+(i+1 - (a+1)) by omega]
   |inr e=>rfl
   ·simp only[rs,g2,g3,decide_false];rw[if_neg g3] at he;have hor:=hexor (a:=h) (b:=Lx.digit s[i]) (by omega) (by omega) (by omega) (by omega);rw[b_shl (by omega),b_or,hor,c_8,wrap8_id (by omega) (by omega)];refine o_app1 (Lx.byte h (Lx.digit s[i])) (byte_nat (by omega) (by omega) (by omega) (by omega)) ho (by omega) fun v' w6 ho=>?_;refine go (-1) v' _ _ _ (by omega) (by omega) (by simp;omega) ?_ ho;rw[he];cases Lx.hexF (-1) (s.drop (i+1)) with
   |inl r=>simp only[ext,List.append_assoc,List.singleton_append];rw[show r.2+1+(i - (a+1))=r.2+(i+1 - (a+1)) by omega]
   |inr e=>rfl
 ·have hi3:i=s.length:=by omega
  simp only[hlt,decide_false,i_f];refine bad 4 ho ?_;rw[hi3,List.drop_length];rfl
end
section
open Eng Go.RowKit
theorem trimLeft_ret (s cs:List UInt8)(w:World)(hcs:cs.length < 4294967281)(ha:cs.all (fun c=>decide (c.toNat < 128))=true):Ret prog 212 #[.string ⟨s.toArray⟩,.string ⟨cs.toArray⟩] w
  (fun v w'=>v=.string ⟨(s.dropWhile (cs.contains ·)).toArray⟩∧Below w.heap.size w w'):=
 Calls.mono (Any.strings_TrimLeft_laid Tryz.lays161 (by kernel_rfl) ⟨s.toArray⟩ ⟨cs.toArray⟩ w (by rw[str_size];exact hcs)
  (fun j b hj=>by
   have:=List.all_eq_true.1 ha b (List.mem_of_getElem? hj);simpa using this)) (by rintro e w' ⟨rfl,h⟩;exact retK ⟨rfl,h⟩)
theorem tw_all {p:UInt8→Bool}:∀l:List UInt8,l.takeWhile p=l↔∀x∈l,p x=true
|[]=>by simp
|c::t=>by
  have ih:=tw_all (p:=p) t;cases h:p c with
 |true=>rw[List.takeWhile_cons_of_pos h];simp[ih,h]
 |false=>rw[List.takeWhile_cons_of_neg (by simp[h])];simp[h]
theorem dw_le {p:UInt8→Bool}(l:List UInt8):(l.dropWhile p).length≤l.length:=(List.dropWhile_sublist p).length_le
theorem contains1_ret (s:List UInt8)(c:UInt8)(w:World):Ret prog 214 #[.string ⟨s.toArray⟩,.string ⟨#[c]⟩] w (fun v w'=>v=.bool (s.contains c)∧w=w'):=by
 refine Calls.mono (Tryz.strings_Contains_one ⟨s.toArray⟩ c w) ?_;rintro e w' ⟨rfl,rfl⟩;refine retK ⟨?_,rfl⟩;have e:decide (0≤Lib.indexByte s c)=s.contains c:=by
  rcases ix_cases c s with ⟨h1,h2,_⟩|⟨i,h1,h2,h3,_⟩
  ·rw[h1];have hn:s.contains c=false:=by
    rw[List.contains_eq_any_beq,List.any_eq_false];intro x hx;have:=(tw_all s).1 h2 x hx;intro h;rw[beq_iff_eq] at h;subst h;simp at this
   rw[hn];rfl
  ·rw[h1];have hy:s.contains c=true:=by
    by_cases h:c∈s
    ·simpa using h
    ·exfalso;have h4:s.takeWhile (fun x=>x != c)=s:=(tw_all s).2 fun x hx=>by
      have:x≠c:=fun e=>h (e▸hx);simpa using this
     rw[h4] at h3;have:=congrArg List.length h3;simp at this;omega
   rw[hy];simp
 rw[←e]
theorem sgn_mem (c:UInt8):([43,45]:List UInt8).contains c=Lx.sgn c:=by
 simp[Lx.sgn]
theorem dig_mem (c:UInt8):([48,49,50,51,52,53,54,55,56,57]:List UInt8).contains c=Lx.dig c:=by
 have:∀n:Fin 256,([48,49,50,51,52,53,54,55,56,57]:List UInt8).contains (UInt8.ofNat n.val)=(decide (48≤n.val)&&decide (n.val≤57)):=by decide +kernel
 have h:=this ⟨c.toNat,c.toNat_lt⟩;simpa[Lx.dig] using h
theorem sgn_not_dig (c:UInt8)(h:Lx.sgn c=true):Lx.dig c=false:=by
 simp only[Lx.sgn,Bool.or_eq_true,decide_eq_true_eq] at h;rcases h with rfl|rfl<;>rfl
theorem class_form (s:List UInt8):(decide (s.length - (s.dropWhile Lx.sgn).length≤1)&&(decide (s.dropWhile Lx.sgn≠[])&&(s.dropWhile Lx.sgn).all Lx.dig))=Lx.intForm s:=by
 cases s with
|nil=>rfl
|cons c t=>
  cases hc:Lx.sgn c with
 |false=>
   have h1:(c::t).dropWhile Lx.sgn=c::t:=by rw[List.dropWhile_cons_of_neg (by simp[hc])]
   have h2:Lx.unsign (c::t)=c::t:=by simp[Lx.unsign,hc]
   rw[h1,Lx.intForm,h2];simp
 |true=>
   have h1:(c::t).dropWhile Lx.sgn=t.dropWhile Lx.sgn:=List.dropWhile_cons_of_pos hc;have h2:Lx.unsign (c::t)=t:=by simp[Lx.unsign,hc]
   rw[h1,Lx.intForm,h2];cases t with
  |nil=>rfl
  |cons d u=>
    cases hd:Lx.sgn d with
   |false=>
     have h3:(d::u).dropWhile Lx.sgn=d::u:=by rw[List.dropWhile_cons_of_neg (by simp[hd])]
     rw[h3];simp
   |true=>
     have h3:(d::u).dropWhile Lx.sgn=u.dropWhile Lx.sgn:=List.dropWhile_cons_of_pos hd;have h4:=dw_le (p:=Lx.sgn) u;have h5:¬((c::d::u).length - ((d::u).dropWhile Lx.sgn).length≤1):=by
      rw[h3];simp only[List.length_cons];omega
     rw[decide_eq_false h5];simp[sgn_not_dig d hd]
theorem intForm_drop {s:List UInt8}(h:Lx.intForm s=true):s.dropWhile Lx.sgn=Lx.unsign s:=by
 cases s with
|nil=>rfl
|cons c t=>
  cases hc:Lx.sgn c with
 |false=>rw[List.dropWhile_cons_of_neg (by simp[hc])];simp[Lx.unsign,hc]
 |true=>
   rw[List.dropWhile_cons_of_pos hc];have h2:Lx.unsign (c::t)=t:=by simp[Lx.unsign,hc]
   rw[Lx.intForm,h2] at h;rw[h2];cases t with
  |nil=>rfl
  |cons d u=>
    cases hd:Lx.sgn d with
   |false=>rw[List.dropWhile_cons_of_neg (by simp[hd])]
   |true=>simp[sgn_not_dig d hd] at h
theorem class_ret (s:List UInt8)(w:World)(hs:s.length≤1099511627776):Ret prog 166 #[.string ⟨s.toArray⟩] w (fun v w'=>v=.int .i64 (if Lx.intForm s then 1 else if s.contains 46 then 2 else 0)∧Below w.heap.size w w'):=by
 refine ret_of fun K hK=>S_lex_class_ok ?_;unfold S_lex_class;refine c_below (Own.start w) (trimLeft_ret s [43,45] w (by decide) rfl) ?_;rintro _ w1 rfl ho;have hds:s.dropWhile (fun x=>([43,45]:List UInt8).contains x)=s.dropWhile Lx.sgn:=by
  congr 1;funext c;exact sgn_mem c
 rw[hds,s_len Tryz.underlying9];rw[s_len Tryz.underlying9];have hle:=dw_le (p:=Lx.sgn) s;have hcf:=class_form s;have tl:∀w2,Own w w2 []→Lx.intForm s=false→CallX prog 214 #[.string ⟨s.toArray⟩,(.string ⟨#[46]⟩)] w2 (pk K) fun t22 w=>
   IfX t22 (K (.returned (.int .i64 2)) w) (K (.returned (.int .i64 0)) w):=by
  intro w2 ho hi;refine c_eq (contains1_ret s 46 w2) ?_;cases hc:s.contains 46 with
 |true=>simp only[rs];exact hK _ _ ⟨by rw[if_neg (by rw[hi];decide),if_pos hc],ho.done⟩
 |false=>simp only[rs];exact hK _ _ ⟨by rw[if_neg (by rw[hi];decide),if_neg (by rw[hc];decide)],ho.done⟩
 simp only[rs];rw[wrap64_id (by omega) (by omega)];by_cases h1:(s.length:Int) - ((s.dropWhile Lx.sgn).length:Int)≤1
 ·have h1':s.length - (s.dropWhile Lx.sgn).length≤1:=by omega
  rw[decide_eq_true h1'] at hcf;simp only[h1,decide_true,rs];by_cases h2:s.dropWhile Lx.sgn≠[]
  ·rw[decide_eq_true h2] at hcf;rw[show (⟨#[]⟩:ByteArray)=⟨([]:List UInt8).toArray⟩ from rfl];simp only[rs,decide_eq_true h2];refine c_below ho (trim_ret (s.dropWhile Lx.sgn) [48,49,50,51,52,53,54,55,56,57] w1 (by omega) (by decide) rfl) ?_;rintro _ w2 rfl ho;have ht:decide (Lib.trimS (s.dropWhile Lx.sgn) [48,49,50,51,52,53,54,55,56,57]=[])=(s.dropWhile Lx.sgn).all Lx.dig:=by
    have hp:Fx.isDig=Lx.dig:=by funext c;rw[←dig_mem c,←digs_contains c]
    have this:=trimS_nil (s.dropWhile Lx.sgn);rw[hp] at this;cases hall:(s.dropWhile Lx.sgn).all Lx.dig with
   |true=>rw[decide_eq_true (this.2 hall)]
   |false=>rw[decide_eq_false (fun e=>by rw[this.1 e] at hall;cases hall)]
   simp only[rs,ht];rw[Bool.true_and,Bool.true_and] at hcf;rw[hcf];cases hi:Lx.intForm s with
  |true=>simp only[i_t];exact hK _ _ ⟨by rw[if_pos hi],ho.done⟩
  |false=>simp only[i_f];exact tl w2 ho hi
  ·rw[decide_eq_false h2,Bool.false_and,Bool.and_false] at hcf;rw[show (⟨#[]⟩:ByteArray)=⟨([]:List UInt8).toArray⟩ from rfl];simp only[rs,decide_eq_false h2,g_un];exact tl w1 ho hcf.symm
 ·have h1':¬(s.length - (s.dropWhile Lx.sgn).length≤1):=by omega
  rw[decide_eq_false h1',Bool.false_and] at hcf;simp only[h1,decide_false,rs,g_un];exact tl w1 ho hcf.symm
theorem val_snoc (c:UInt8)(l:List UInt8)(n:Nat):Lx.val n (l++[c])=10*Lx.val n l+(c.toNat - 48):=by
 unfold Lx.val;rw[List.foldl_append,List.foldl_cons,List.foldl_nil]
theorem lwhole_ret (s:List UInt8)(w:World)(hs:s.length≤1099511627776)(hf:Lx.intForm s=true):Ret prog 167 #[.string ⟨s.toArray⟩] w (fun v w'=>v=pair (Lx.whole s)∧Below w.heap.size w w'):=by
 refine ret_of fun K hK=>S_lex_whole_ok ?_;unfold S_lex_whole;refine c_below (Own.start w) (trimLeft_ret s [43,45] w (by decide) rfl) ?_;rintro _ w1 rfl ho;have hds:s.dropWhile (fun x=>([43,45]:List UInt8).contains x)=Lx.unsign s:=by
  rw[←intForm_drop hf];congr 1;funext c;exact sgn_mem c
 rw[hds];have hall:(Lx.unsign s).all Lx.dig=true:=by
  rw[Lx.intForm,Bool.and_eq_true] at hf;exact hf.2
 have hne:s≠[]:=by rintro rfl;simp[Lx.intForm,Lx.unsign] at hf
 have hlen:(Lx.unsign s).length≤s.length:=by rw[←intForm_drop hf];exact dw_le s
 refine o_range Tryz.underlying9 ho fun b w2 ho=>?_;refine loop (fun vs w'=>∃(i:Nat),vs=[.int .i64 ((min (Lx.val 0 ((Lx.unsign s).take i)) 2147483648:Nat):Int)]∧i≤(Lx.unsign s).length∧Own w w' [.obj b (.stringIter ⟨(Lx.unsign s).toArray⟩ i)])
  (fun _ w'=>match w'.heap[b]? with|some (.stringIter _ i)=>(Lx.unsign s).length - i|_=>0) ⟨0,rfl,by omega,ho⟩ ?_
 rintro vs w3 ⟨i,rfl,hi,ho⟩ _;simp only[S_lex_whole_0,gd];by_cases hlt:i < (Lx.unsign s).length
 ·have hdig:=List.all_eq_true.1 hall _ (List.getElem_mem hlt);have hd2:48≤(Lx.unsign s)[i].toNat∧(Lx.unsign s)[i].toNat≤57:=by simpa[Lx.dig] using hdig
  have h0:w3.heap[b]?=some (.stringIter ⟨(Lx.unsign s).toArray⟩ i):=ho.at_ 0 rfl;refine o_next 0 ho rfl (List.getElem?_eq_getElem hlt) (by omega) fun w4 ho=>?_;have h1:w4.heap[b]?=some (.stringIter ⟨(Lx.unsign s).toArray⟩ (i+1)):=ho.at_ 0 rfl;simp only[ex,i_t,rs];rw[wrap64_id (by omega) (by omega),wrap32_id (by omega) (by omega),c_int (show (Tryz.prog.underlying 21).isSome=true by kernel_rfl) Tryz.underlying2,wrap64_id (n:=((Lx.unsign s)[i].toNat:Int) - 48) (by omega) (by omega)];simp only[rs];rw[wrap64_id (by omega) (by omega),m_min];have e:min (10*((min (Lx.val 0 ((Lx.unsign s).take i)) 2147483648:Nat):Int)+(((Lx.unsign s)[i].toNat:Int) - 48)) 2147483648=((min (Lx.val 0 ((Lx.unsign s).take (i+1))) 2147483648:Nat):Int):=by
   rw[List.take_succ_eq_append_getElem hlt,val_snoc];omega
  rw[e];exact nextX ⟨i+1,rfl,by omega,ho⟩ (by simp only[h0,h1];omega)
 ·rw[o_next_end 0 ho rfl (by omega)];have hi2:i=(Lx.unsign s).length:=by omega
  simp only[ex,i_f,rs,hi2,List.take_length];by_cases hbig:2147483647 < Lx.val 0 (Lx.unsign s)
  ·have h1:(2147483647:Int) < ((min (Lx.val 0 (Lx.unsign s)) 2147483648:Nat):Int):=by omega
   simp only[h1,decide_true,i_t];exact hK _ _ ⟨by rw[Lx.whole,if_pos hbig],ho.done⟩
  ·have h1:¬(2147483647:Int) < ((min (Lx.val 0 (Lx.unsign s)) 2147483648:Nat):Int):=by omega
   simp only[h1,decide_false,i_f];refine join fun J hJ=>?_;obtain⟨c,t,rfl⟩:∃c t,s=c::t:=by cases s with|nil=>exact absurd rfl hne|cons c t=>exact⟨c,t,rfl⟩
   rw[s_ix (c:=c) Tryz.underlying9 (by omega) rfl];have e1:=u8d c 45 45 rfl;rw[Nat.min_eq_left (by omega)];by_cases h45:c=45
   ·simp only[rs,e1,decide_eq_true h45];refine hJ _ _ fun _=>?_;simp only[S_lex_whole_1,gd];rw[wrap64_id (by omega) (by omega)];exact hK _ _ ⟨by rw[Lx.whole,if_neg hbig,if_pos (by rw[h45];rfl)],ho.done⟩
   ·simp only[rs,e1,decide_eq_false h45];refine hJ _ _ fun _=>?_;simp only[S_lex_whole_1,gd];exact hK _ _ ⟨by rw[Lx.whole,if_neg hbig,if_neg (by simpa using h45)],ho.done⟩
theorem word_ret (s:List UInt8)(a:Nat)(w:World)(hs:s.length≤1099511627776)(ha:a≤s.length):Ret prog 113 #[cutV s a] w (fun v w'=>v=tokR (Lx.word s a)∧Below w.heap.size w w'):=by
 refine ret_of fun K hK=>S_lex_cutter_word_ok ?_;unfold S_lex_cutter_word;refine o_cut s a (Own.start w) fun b1 w1 ho=>?_;refine o_tok ho fun b w2 ho=>?_;simp only[cut_v ho 1 rfl,fa_c1,cut_a ho 1 rfl];refine c_below ho (run_ret s a a w2 hs ha) ?_;rintro _ w3 rfl ho;have hto:=Lx.run_le s ha;have hto2:a≤Lx.run s a:=by unfold Lx.run;omega
 simp only[fa_c0,fa_c1,cut_a ho 1 rfl,cut_s ho 1 rfl];rw[s_cut rfl rfl hto2 hto];have hcl:(Lx.cut s a (Lx.run s a)).length≤s.length:=by rw[cut_length hto];omega
 have hW:Lx.word s a=Lx.wordT (Lx.cut s a (Lx.run s a)) a (Lx.run s a):=rfl;generalize hT:Lx.cut s a (Lx.run s a)=t at *;generalize Lx.run s a=r at *;refine join fun J hJ=>?_;refine c_below ho (class_ret t w3 (by omega)) ?_;rintro _ w4 rfl ho;have fin:∀w5 n,Own w w5 [tokE b Lx.none_,cutE b1 s a]→Lx.wordT t a r=Lx.told 5 a r t 127→J [.int .i64 n] w5:=by
  intro w5 n ho he;refine hJ _ _ fun _=>?_;simp only[S_lex_cutter_word_0,cut_v ho 1 rfl];exact tok_tail 0 ho rfl (told_ret s a 5 r t 127 _) fun w' hb=>hK _ _ ⟨by rw[hW,he],hb⟩
 by_cases hi:Lx.intForm t=true
 ·rw[if_pos hi];simp only[rs,decide_true];refine c_below ho (lwhole_ret t w4 (by omega) hi) ?_;rintro _ w5 rfl ho;simp only[pair,ex,rs];by_cases he:(Lx.whole t).2≠0
  ·simp only[decide_eq_true he,i_t];exact tok_tail 0 ho rfl (refused_ret _ _) fun w' hb=>hK _ _ ⟨by rw[hW,Lx.wordT,if_pos hi,if_pos he],hb⟩
  ·simp only[decide_eq_false he,i_f,fa_c1,cut_a ho 1 rfl,m_tokn];exact tok_put 0 ho rfl fun w' ho=>hK _ _ ⟨by rw[hW,Lx.wordT,if_pos hi,if_neg he],ho.done⟩
 rw[if_neg hi];by_cases hp:t.contains 46=true
 ·rw[if_pos hp];simp only[rs,decide_true,show ¬((2:Int)=1) by decide,decide_false];refine c_below ho (pread_ret t w4 (by omega)) ?_;rintro _ w5 rfl ho;simp only[pair,ex,rs];by_cases he:(Fx.read t).2=0
  ·simp only[decide_eq_true he,i_t,fa_c1,cut_a ho 1 rfl,m_tokn];exact tok_put 0 ho rfl fun w' ho=>hK _ _ ⟨by rw[hW,Lx.wordT,if_neg hi,if_pos ⟨hp,he⟩],ho.done⟩
  simp only[decide_eq_false he,i_f];by_cases he2:(Fx.read t).2=2
  ·simp only[he2,decide_true,i_t];exact tok_tail 0 ho rfl (refused_ret _ _) fun w' hb=>hK _ _ ⟨by rw[hW,Lx.wordT,if_neg hi,if_neg (fun h=>he h.2),if_pos ⟨hp,he2⟩],hb⟩
  ·simp only[he2,decide_false,i_f];exact fin _ _ ho (by rw[Lx.wordT,if_neg hi,if_neg (fun h=>he h.2),if_neg (fun h=>he2 h.2)])
 ·rw[if_neg hp];simp only[rs,show ¬((0:Int)=1) by decide,show ¬((0:Int)=2) by decide,decide_false];exact fin _ _ ho (by rw[Lx.wordT,if_neg hi,if_neg (fun h=>hp h.1),if_neg (fun h=>hp h.1)])
end
section
open Eng Go.RowKit
theorem begins_one (s:List UInt8)(c:UInt8)(k:Nat)(hk:k≤s.length):begins s [c] (k:Int)=decide ((s.drop k).head?=some c):=by
 unfold begins;rw[Int.toNat_natCast,decide_eq_true (by omega),decide_eq_true (by omega)];cases hd:s.drop k with
|nil=>simp
|cons d t=>
  by_cases h:d=c
  ·subst h;simp[List.isPrefixOf]
  ·have h11:(c==d)=false:=by simpa using fun e:c=d=>h e.symm
   have h12:¬(some d=some c):=by simpa using h
   rw[List.head?_cons,decide_eq_false h12];simp[List.isPrefixOf,h11]
theorem m_cut {w:World}{PK:PKT}{K:VWP}{s:List UInt8}{a:Int}:DoX prog (mBuild 149 #[(0,.string ⟨s.toArray⟩),(1,.int .i64 a)]) w PK K=K (cutV s a) w:=do_eq (by kernel_rfl)
theorem next_ret (s:List UInt8)(i:Int)(w:World)(hs:s.length≤1099511627776):Ret prog 63 #[.string ⟨s.toArray⟩,.int .i64 i] w (fun v w'=>v=tokR (Lx.next s i)∧Below w.heap.size w w'):=by
 refine ret_of fun K hK=>S_lex_Next_ok ?_;unfold S_lex_Next;refine o_tok (Own.start w) fun b w1 ho=>?_;have out:(i < 0∨(s.length:Int) < i)→CallX prog 107 #[(.int .i64 1)] w1 (pk K) fun t42 w=>
   DoX prog (mExt t42 0) w (pk K) fun t43 w=>
   DoX prog (mExt t42 1) w (pk K) fun t44 w=>
   DoX prog (mStore 90 (.pointer (some ⟨b,0,none⟩)) t43) w (pk K) fun _ w=>
   RetX prog [.cell (.pointer (some ⟨b,0,none⟩)) 90,.val t44] w K:=fun h=>
  tok_tail 0 ho rfl (refused_ret 1 _) fun w' hb=>hK _ _ ⟨by rw[Lx.next,if_pos h],hb⟩
 by_cases h1:i < 0
 ·simp only[rs,h1,decide_true,g_un];exact out (.inl h1)
 simp only[rs,h1,decide_false,s_len Tryz.underlying9];by_cases h2:(s.length:Int) < i
 ·simp only[rs,h2,decide_true];exact out (.inr h2)
 simp only[rs,h2,decide_false];have hsk:Lx.skipI s i=((Lx.skip s i.toNat:Nat):Int):=by rw[Lx.skipI,if_neg (by omega)]
 have hN:Lx.next s i=Lx.token s (Lx.skip s i.toNat):=by rw[Lx.next,if_neg (by omega)]
 have hle:=Lx.skip_le s (k:=i.toNat) (by omega);refine c_eq (skip_ret s i w1 (by omega)) ?_;rw[hsk];generalize Lx.skip s i.toNat=a at *;rw[m_cut];refine o_new (fun b=>.pointer (some ⟨b,0,none⟩)) (cutC [] 0) 149 (fun _=>by kernel_rfl) ho fun b1 w2 ho=>?_;refine o_put 0 ho rfl (new:=cutC s a) (show _=some 2 by kernel_rfl) (by
  intro v hv;simp only[cutC,List.mem_cons,List.not_mem_nil,or_false] at hv;rcases hv with rfl|rfl<;>rfl) rfl fun w3 ho=>?_
 have ho:Own w w3 [cutE b1 s a,tokE b Lx.none_]:=ho;simp only[fa_c1,cut_a ho 0 rfl,s_len Tryz.underlying9,rs];by_cases hend:(a:Int)=(s.length:Int)
 ·simp only[hend,decide_true,i_t];rw[←hend];simp only[cut_a ho 0 rfl,m_tok2];refine tok_put 1 ho rfl fun w' ho=>hK _ _ ⟨?_,ho.done⟩;rw[hN,Lx.token,List.drop_eq_nil_of_le (by omega)]
 have ha:a < s.length:=by omega
 have hd:=Lx.drop_cons ha;simp only[hend,decide_false,i_f];have f1:fOff prog 149 1=some 1:=by kernel_rfl
 have hw1:IntKind.wrap .i64 ((a:Int)+1)=((a+1:Nat):Int):=by rw[wrap64_id (by omega) (by omega)];omega
 refine quiet (q_do _ (fun _=>run_fa f1) (q_at _ (fun _ hb=>cutr_a (ho.grow hb) 0 rfl) (q_do _ (fun _=>run_fa f1) (q_at _ (fun _ hb=>cutr_a (ho.grow hb) 0 rfl) (q_do _ (fun _=>by rw[r_add,hw1]) ?_)))));refine q_do (.string ⟨([s[a]]:List UInt8).toArray⟩) (fun w=>?_) ?_
 ·have:=@run_s_slice prog w 9 s .i64 .i64 (a:Int) ((a+1:Nat):Int) Tryz.underlying9 (by omega) (by omega) (by omega);rw[this,show (s.drop (a:Int).toNat).take (((a+1:Nat):Int).toNat - (a:Int).toNat)=Lx.cut s a (a+1) from rfl,cut_one ha]
 refine q_do _ (fun _=>run_fa f1) (q_at _ (fun _ hb=>cutr_a (ho.grow hb) 0 rfl) (q_do _ (fun _=>by rw[r_add,hw1]) ?_));refine q_call (.bool (decide ((s.drop (a+1)).head?=some s[a]))) (fun w hb=>ret_same ?_ hb) ?_
 ·rw[←begins_one s s[a] (a+1) (by omega)];exact begins_ret s [s[a]] _ w
 intro w4 hb;have ho:=ho.grow hb;simp only[fa_c1,cut_a ho 0 rfl,s_at ha];have hT:Lx.next s i=if s[a]=91∨s[a]=93∨s[a]=123∨s[a]=125 then Lx.mark s a 1
  else if s[a]=60 then (if (s.drop (a+1)).head?=some s[a] then Lx.mark s a 2 else Lx.hex s a)
  else if s[a]=62 then (if (s.drop (a+1)).head?=some s[a] then Lx.mark s a 2 else Lx.refused 3)
  else if s[a]=47 then Lx.name s a
  else if s[a]=40 then Lx.text s a
  else if s[a]=41 then Lx.refused 3
  else Lx.word s a:=by rw[hN,Lx.token,hd]
 refine join fun J hJ=>?_;have rest:∀b:Bool,(b=true↔(s[a]=91∨s[a]=93∨s[a]=123∨s[a]=125))→J [.bool b] w4:=by
  intro bb hbb;refine hJ _ _ fun _=>?_;simp only[S_lex_Next_0,gd];cases bb with
 |true=>
   simp only[i_t,cut_v ho 0 rfl];exact tok_tail 1 ho rfl (mark_ret s a 1 _ hs (by omega)) fun w' hb=>hK _ _ ⟨by rw[hT,if_pos (hbb.1 rfl)],hb⟩
 |false=>
   have hn:¬(s[a]=91∨s[a]=93∨s[a]=123∨s[a]=125):=fun h=>by have:=hbb.2 h;cases this
   rw[if_neg hn] at hT;have two:(s.drop (a+1)).head?=some s[a]→a+2≤s.length:=by
    intro h;cases hdd:s.drop (a+1) with
   |nil=>rw[hdd] at h;cases h
   |cons x t=>
     have:=congrArg List.length hdd;simp at this;omega
   have q1:=u8d s[a] 60 60 rfl;have q2:=u8d s[a] 62 62 rfl;have q3:=u8d s[a] 47 47 rfl;have q4:=u8d s[a] 40 40 rfl;have q5:=u8d s[a] 41 41 rfl;by_cases g1:s[a]=60
   ·simp only[rs,q1,decide_eq_true g1];rw[if_pos g1] at hT;by_cases g:(s.drop (a+1)).head?=some s[a]
    ·simp only[decide_eq_true g,i_t,cut_v ho 0 rfl];exact tok_tail 1 ho rfl (mark_ret s a 2 _ hs (two g)) fun w' hb=>hK _ _ ⟨by rw[hT,if_pos g],hb⟩
    ·simp only[decide_eq_false g,i_f,cut_v ho 0 rfl];exact tok_tail 1 ho rfl (cut_hex_ret s a _ hs ha) fun w' hb=>hK _ _ ⟨by rw[hT,if_neg g],hb⟩
   rw[if_neg g1] at hT;simp only[rs,q1,decide_eq_false g1];by_cases g2:s[a]=62
   ·simp only[rs,q2,decide_eq_true g2];rw[if_pos g2] at hT;by_cases g:(s.drop (a+1)).head?=some s[a]
    ·simp only[decide_eq_true g,i_t,cut_v ho 0 rfl];exact tok_tail 1 ho rfl (mark_ret s a 2 _ hs (two g)) fun w' hb=>hK _ _ ⟨by rw[hT,if_pos g],hb⟩
    ·simp only[decide_eq_false g,i_f];exact tok_tail 1 ho rfl (refused_ret 3 _) fun w' hb=>hK _ _ ⟨by rw[hT,if_neg g],hb⟩
   rw[if_neg g2] at hT;simp only[rs,q2,decide_eq_false g2];by_cases g3:s[a]=47
   ·simp only[rs,q3,decide_eq_true g3,cut_v ho 0 rfl];exact tok_tail 1 ho rfl (name_ret s a _ hs ha) fun w' hb=>hK _ _ ⟨by rw[hT,if_pos g3],hb⟩
   rw[if_neg g3] at hT;simp only[rs,q3,decide_eq_false g3];by_cases g4:s[a]=40
   ·simp only[rs,q4,decide_eq_true g4,cut_v ho 0 rfl];exact tok_tail 1 ho rfl (text_ret s a _ hs ha) fun w' hb=>hK _ _ ⟨by rw[hT,if_pos g4],hb⟩
   rw[if_neg g4] at hT;simp only[rs,q4,decide_eq_false g4];by_cases g5:s[a]=41
   ·simp only[rs,q5,decide_eq_true g5];exact tok_tail 1 ho rfl (refused_ret 3 _) fun w' hb=>hK _ _ ⟨by rw[hT,if_pos g5],hb⟩
   rw[if_neg g5] at hT;simp only[rs,q5,decide_eq_false g5,cut_v ho 0 rfl];exact tok_tail 1 ho rfl (word_ret s a _ hs (by omega)) fun w' hb=>hK _ _ ⟨by rw[hT],hb⟩
 have p1:=u8d s[a] 91 91 rfl;have p2:=u8d s[a] 93 93 rfl;have p3:=u8d s[a] 123 123 rfl;have p4:=u8d s[a] 125 125 rfl;by_cases g1:s[a]=91
 ·simp only[rs,p1,decide_eq_true g1];exact rest true (by simp[g1])
 simp only[rs,p1,decide_eq_false g1];by_cases g2:s[a]=93
 ·simp only[rs,p2,decide_eq_true g2];exact rest true (by simp[g2])
 simp only[rs,p2,decide_eq_false g2];by_cases g3:s[a]=123
 ·simp only[rs,p3,decide_eq_true g3];exact rest true (by simp[g3])
 simp only[rs,p3,decide_eq_false g3];by_cases g4:s[a]=125
 ·simp only[rs,p4,decide_eq_true g4];exact rest true (by simp[g4])
 simp only[rs,p4,decide_eq_false g4];exact rest false (by simp[g1,g2,g3,g4])
end
section
open Eng
def S_foliantref03_Run_0 (t0 t1:Value)(w:World)(N1:List Value→World→Prop)(K:Ending→World→Prop):Prop:=
 DoX prog (mB .len #[9] 3 #[false] #[t0]) w (pk K) fun t7 w=>
 DoX prog (mBin .lss 3 t1 t7) w (pk K) fun t8 w=>
 GDo t8 true (fun E=>E t0 w) w fun t10 w=>
 GDo t8 true (fun E=>E t1 w) w fun t11 w=>
 GDo t8 true (fun E=>DoX prog (mIx 9 t10 t11) w (pk K) E) w fun t12 w=>
 GDo t8 true (fun E=>CallX prog 102 #[t12] w (pk K) E) w fun t13 w=>
 DoX prog (mPick t8 t13 (.bool false)) w (pk K) fun t14 w=>
 IfX t14 (DoX prog (mBin .add 3 t1 (.int .i64 1)) w (pk K) fun t16 w=>
 N1 [t16] w) (K (.returned t1) w)
def S_foliantref03_Run (t0 t1:Value)(w:World)(K:Ending→World→Prop):Prop:=
 LoopX [t1] w (fun vs1 w N1=>∀_:Sg,S_foliantref03_Run_0 t0 (vs1.getD 0 undef) w N1 K)
theorem S_foliantref03_Run_eq (t0 t1:Value)(w:World)(K:Ending→World→Prop):wpX prog 18 [] [(1,[1])] none (bodyOf Tryz.f124) (topQ prog [.tmp 4] K) (startX [t0,t1]) [] w=S_foliantref03_Run t0 t1 w K:=by kernel_rfl
theorem S_foliantref03_Run_ok {t0 t1:Value}{w:World}{K:Ending→World→Prop}(h:S_foliantref03_Run t0 t1 w K):Calls prog 124 #[t0,t1] w K:=
 calls_of_wpX Tryz.func124 rfl rfl rfl rfl (Eq.mpr (S_foliantref03_Run_eq t0 t1 w K) h)
def S_foliantref03_Integer_1 (t0 t3:Value)(w:World)(N2:List Value→World→Prop)(K:Ending→World→Prop):Prop:=
 DoX prog (mB .len #[9] 3 #[false] #[t0]) w (pk K) fun t20 w=>
 DoX prog (mBin .lss 3 t3 t20) w (pk K) fun t21 w=>
 IfX t21 (DoX prog (mIx 9 t0 t3) w (pk K) fun t26 w=>
 DoX prog (mBin .lss 5 t26 (.int .u8 48)) w (pk K) fun t27 w=>
 GDo t27 false (fun E=>E t0 w) w fun t29 w=>
 GDo t27 false (fun E=>E t3 w) w fun t30 w=>
 GDo t27 false (fun E=>DoX prog (mIx 9 t29 t30) w (pk K) E) w fun t31 w=>
 GDo t27 false (fun E=>DoX prog (mBin .gtr 5 t31 (.int .u8 57)) w (pk K) E) w fun t32 w=>
 DoX prog (mPick t27 (.bool true) t32) w (pk K) fun t33 w=>
 IfX t33 (K (.returned (.bool false)) w) (DoX prog (mBin .add 3 t3 (.int .i64 1)) w (pk K) fun t23 w=>
 N2 [t23] w)) (DoX prog (mEq .neq 9 (.tmp 34) (.const (.string ⟨#[]⟩)) t0 (.string ⟨#[]⟩)) w (pk K) fun t35 w=>
 K (.returned t35) w)
def S_foliantref03_Integer_0 (t0:Value)(w:World)(K:Ending→World→Prop):Prop:=
 LoopX [(.int .i64 0)] w (fun vs2 w N2=>∀_:Sg,S_foliantref03_Integer_1 t0 (vs2.getD 0 undef) w N2 K)
def S_foliantref03_Integer (t0:Value)(w:World)(K:Ending→World→Prop):Prop:=
 JoinX (fun J1=>
 DoX prog (mEq .neq 9 (.tmp 4) (.const (.string ⟨#[]⟩)) t0 (.string ⟨#[]⟩)) w (pk K) fun t5 w=>
 GDo t5 true (fun E=>E t0 w) w fun t7 w=>
 GDo t5 true (fun E=>DoX prog (mIx 9 t7 (.int .i64 0)) w (pk K) E) w fun t8 w=>
 GDo t5 true (fun E=>DoX prog (mEq .eql 5 (.tmp 8) (.const (.int .u8 43)) t8 (.int .u8 43)) w (pk K) E) w fun t9 w=>
 GDo t5 true (fun E=>E t9 w) w fun t10 w=>
 GDo t10 false (fun E=>E t0 w) w fun t11 w=>
 GDo t10 false (fun E=>DoX prog (mIx 9 t11 (.int .i64 0)) w (pk K) E) w fun t12 w=>
 GDo t10 false (fun E=>DoX prog (mEq .eql 5 (.tmp 12) (.const (.int .u8 45)) t12 (.int .u8 45)) w (pk K) E) w fun t13 w=>
 GDo t5 true (fun E=>DoX prog (mPick t10 (.bool true) t13) w (pk K) E) w fun t14 w=>
 DoX prog (mPick t5 t14 (.bool false)) w (pk K) fun t15 w=>
 IfX t15 (DoX prog (mSlice 9 t0 (some (.int .i64 1)) none none) w (pk K) fun t17 w=>
 J1 [t17] w) (J1 [t0] w)) (fun vs1 w=>∀_:Sg,S_foliantref03_Integer_0 (vs1.getD 0 undef) w K)
theorem S_foliantref03_Integer_eq (t0:Value)(w:World)(K:Ending→World→Prop):wpX prog 36 [(3,[0])] [(4,[3])] none (bodyOf Tryz.f195) (topQ prog [.tmp 2] K) (startX [t0]) [] w=S_foliantref03_Integer t0 w K:=by kernel_rfl
theorem S_foliantref03_Integer_ok {t0:Value}{w:World}{K:Ending→World→Prop}(h:S_foliantref03_Integer t0 w K):Calls prog 195 #[t0] w K:=
 calls_of_wpX Tryz.func195 rfl rfl rfl rfl (Eq.mpr (S_foliantref03_Integer_eq t0 w K) h)
def S_foliantref03_whole_2 (t4:Value)(w:World)(K:Ending→World→Prop):Prop:=
 K (.returned (.tuple #[t4,(.int .i64 0)])) w
def S_foliantref03_whole_1 (t4 t5:Value)(w:World)(N1:List Value→World→Prop)(K:Ending→World→Prop):Prop:=
 DoX prog (mBin .add 3 t5 (.int .i64 1)) w (pk K) fun t11 w=>
 N1 [t4,t11] w
def S_foliantref03_whole_0 (t0 t4 t5:Value)(w:World)(N1:List Value→World→Prop)(K:Ending→World→Prop):Prop:=
 DoX prog (mB .len #[9] 3 #[false] #[t0]) w (pk K) fun t8 w=>
 DoX prog (mBin .lss 3 t5 t8) w (pk K) fun t9 w=>
 IfX t9 (JoinX (fun J2=>
 DoX prog (mIx 9 t0 t5) w (pk K) fun t14 w=>
 DoX prog (mEq .eql 5 (.tmp 14) (.const (.int .u8 43)) t14 (.int .u8 43)) w (pk K) fun t15 w=>
 GDo t15 false (fun E=>E t0 w) w fun t17 w=>
 GDo t15 false (fun E=>E t5 w) w fun t18 w=>
 GDo t15 false (fun E=>DoX prog (mIx 9 t17 t18) w (pk K) E) w fun t19 w=>
 GDo t15 false (fun E=>DoX prog (mEq .eql 5 (.tmp 19) (.const (.int .u8 45)) t19 (.int .u8 45)) w (pk K) E) w fun t20 w=>
 DoX prog (mPick t15 (.bool true) t20) w (pk K) fun t21 w=>
 IfX t21 (J2 [t4] w) (DoX prog (mBin .mul 2 (.int .i64 10) t4) w (pk K) fun t23 w=>
 DoX prog (mIx 9 t0 t5) w (pk K) fun t26 w=>
 DoX prog (mConv 5 2 t26) w (pk K) fun t27 w=>
 DoX prog (mBin .add 2 t23 t27) w (pk K) fun t28 w=>
 DoX prog (mBin .sub 2 t28 (.int .i64 48)) w (pk K) fun t29 w=>
 DoX prog (mBin .gtr 2 t29 (.int .i64 2147483647)) w (pk K) fun t31 w=>
 IfX t31 (K (.returned (.tuple #[(.int .i64 0),(.int .i64 2)])) w) (J2 [t29] w))) (fun vs2 w=>∀_:Sg,S_foliantref03_whole_1 (vs2.getD 0 undef) t5 w N1 K)) (JoinX (fun J3=>
 DoX prog (mIx 9 t0 (.int .i64 0)) w (pk K) fun t33 w=>
 DoX prog (mEq .eql 5 (.tmp 33) (.const (.int .u8 45)) t33 (.int .u8 45)) w (pk K) fun t34 w=>
 IfX t34 (DoX prog (mUn .neg t4) w (pk K) fun t36 w=>
 J3 [t36] w) (J3 [t4] w)) (fun vs3 w=>∀_:Sg,S_foliantref03_whole_2 (vs3.getD 0 undef) w K))
def S_foliantref03_whole (t0:Value)(w:World)(K:Ending→World→Prop):Prop:=
 LoopX [(.int .i64 0),(.int .i64 0)] w (fun vs1 w N1=>∀_:Sg,S_foliantref03_whole_0 t0 (vs1.getD 0 undef) (vs1.getD 1 undef) w N1 K)
theorem S_foliantref03_whole_eq (t0:Value)(w:World)(K:Ending→World→Prop):wpX prog 38 [(4,[4]),(11,[4])] [(3,[4,5])] none (bodyOf Tryz.f196) (topQ prog [.tmp 2,.tmp 3] K) (startX [t0]) [] w=S_foliantref03_whole t0 w K:=by kernel_rfl
theorem S_foliantref03_whole_ok {t0:Value}{w:World}{K:Ending→World→Prop}(h:S_foliantref03_whole t0 w K):Calls prog 196 #[t0] w K:=
 calls_of_wpX Tryz.func196 rfl rfl rfl rfl (Eq.mpr (S_foliantref03_whole_eq t0 w K) h)
def S_foliantref03_point_0 (t0 t3:Value)(w:World)(N1:List Value→World→Prop)(K:Ending→World→Prop):Prop:=
 DoX prog (mB .len #[9] 3 #[false] #[t0]) w (pk K) fun t6 w=>
 DoX prog (mBin .lss 3 t3 t6) w (pk K) fun t7 w=>
 IfX t7 (DoX prog (mIx 9 t0 t3) w (pk K) fun t12 w=>
 DoX prog (mEq .eql 5 (.tmp 12) (.const (.int .u8 46)) t12 (.int .u8 46)) w (pk K) fun t13 w=>
 IfX t13 (K (.returned (.bool true)) w) (DoX prog (mBin .add 3 t3 (.int .i64 1)) w (pk K) fun t9 w=>
 N1 [t9] w)) (K (.returned (.bool false)) w)
def S_foliantref03_point (t0:Value)(w:World)(K:Ending→World→Prop):Prop:=
 LoopX [(.int .i64 0)] w (fun vs1 w N1=>∀_:Sg,S_foliantref03_point_0 t0 (vs1.getD 0 undef) w N1 K)
theorem S_foliantref03_point_eq (t0:Value)(w:World)(K:Ending→World→Prop):wpX prog 14 [] [(2,[3])] none (bodyOf Tryz.f197) (topQ prog [.tmp 2] K) (startX [t0]) [] w=S_foliantref03_point t0 w K:=by kernel_rfl
theorem S_foliantref03_point_ok {t0:Value}{w:World}{K:Ending→World→Prop}(h:S_foliantref03_point t0 w K):Calls prog 197 #[t0] w K:=
 calls_of_wpX Tryz.func197 rfl rfl rfl rfl (Eq.mpr (S_foliantref03_point_eq t0 w K) h)
def S_foliantref03_long (t0:Value)(w:World)(K:Ending→World→Prop):Prop:=
 DoX prog (mAlloc 90) w (pk K) fun t2 w=>
 CallX prog 195 #[t0] w (pk K) fun t7 w=>
 DoX prog (mUn .not t7) w (pk K) fun t8 w=>
 IfX t8 (DoX prog (mBuild 90 #[]) w (pk K) fun t9 w=>
 DoX prog (mStore 90 t2 t9) w (pk K) fun _ w=>
 RetX prog [.cell t2 90,.val (.int .i64 5)] w K) (CallX prog 196 #[t0] w (pk K) fun t12 w=>
 DoX prog (mExt t12 0) w (pk K) fun t13 w=>
 DoX prog (mExt t12 1) w (pk K) fun t14 w=>
 DoX prog (mBuild 90 #[(0,(.int .i64 1)),(3,t13)]) w (pk K) fun t16 w=>
 DoX prog (mStore 90 t2 t16) w (pk K) fun _ w=>
 RetX prog [.cell t2 90,.val t14] w K)
theorem S_foliantref03_long_eq (t0:Value)(w:World)(K:Ending→World→Prop):wpX prog 18 [] [] none (bodyOf Tryz.f194) (topQ prog [.cell 2 90,.tmp 3] K) (startX [t0]) [] w=S_foliantref03_long t0 w K:=by kernel_rfl
theorem S_foliantref03_long_ok {t0:Value}{w:World}{K:Ending→World→Prop}(h:S_foliantref03_long t0 w K):Calls prog 194 #[t0] w K:=
 calls_of_wpX Tryz.func194 rfl rfl rfl rfl (Eq.mpr (S_foliantref03_long_eq t0 w K) h)
def S_foliantref03_word_0 (t0 t2:Value)(w:World)(K:Ending→World→Prop):Prop:=
 DoX prog (mB .len #[9] 3 #[false] #[t0]) w (pk K) fun t42 w=>
 DoX prog (mBin .gtr 3 t42 (.int .i64 127)) w (pk K) fun t43 w=>
 IfX t43 (DoX prog (mBuild 90 #[]) w (pk K) fun t44 w=>
 DoX prog (mStore 90 t2 t44) w (pk K) fun _ w=>
 RetX prog [.cell t2 90,.val (.int .i64 5)] w K) (DoX prog (mBuild 90 #[(0,(.int .i64 5)),(4,t0)]) w (pk K) fun t46 w=>
 DoX prog (mStore 90 t2 t46) w (pk K) fun _ w=>
 RetX prog [.cell t2 90,.val (.int .i64 0)] w K)
def S_foliantref03_word (t0:Value)(w:World)(K:Ending→World→Prop):Prop:=
 DoX prog (mAlloc 90) w (pk K) fun t2 w=>
 DoX prog (mB .len #[9] 3 #[false] #[t0]) w (pk K) fun t9 w=>
 DoX prog (mBin .gtr 3 t9 (.int .i64 508)) w (pk K) fun t10 w=>
 IfX t10 (CallX prog 194 #[t0] w (pk K) fun t12 w=>
 DoX prog (mExt t12 0) w (pk K) fun t13 w=>
 DoX prog (mExt t12 1) w (pk K) fun t14 w=>
 DoX prog (mStore 90 t2 t13) w (pk K) fun _ w=>
 RetX prog [.cell t2 90,.val t14] w K) (CallX prog 195 #[t0] w (pk K) fun t16 w=>
 IfX t16 (CallX prog 196 #[t0] w (pk K) fun t19 w=>
 DoX prog (mExt t19 0) w (pk K) fun t20 w=>
 DoX prog (mExt t19 1) w (pk K) fun t21 w=>
 DoX prog (mBuild 90 #[(0,(.int .i64 1)),(3,t20)]) w (pk K) fun t23 w=>
 DoX prog (mStore 90 t2 t23) w (pk K) fun _ w=>
 RetX prog [.cell t2 90,.val t21] w K) (JoinX (fun J1=>
 CallX prog 197 #[t0] w (pk K) fun t26 w=>
 IfX t26 (CallX prog 198 #[t0] w (pk K) fun t29 w=>
 DoX prog (mExt t29 0) w (pk K) fun t30 w=>
 DoX prog (mExt t29 1) w (pk K) fun t31 w=>
 DoX prog (mEq .eql 30 (.tmp 32) (.const (.int .i64 0)) t31 (.int .i64 0)) w (pk K) fun t33 w=>
 GDo t33 false (fun E=>E t31 w) w fun t35 w=>
 GDo t33 false (fun E=>DoX prog (mEq .eql 30 (.tmp 35) (.const (.int .i64 2)) t35 (.int .i64 2)) w (pk K) E) w fun t36 w=>
 DoX prog (mPick t33 (.bool true) t36) w (pk K) fun t37 w=>
 IfX t37 (DoX prog (mBuild 90 #[(0,(.int .i64 2)),(3,t30)]) w (pk K) fun t39 w=>
 DoX prog (mStore 90 t2 t39) w (pk K) fun _ w=>
 RetX prog [.cell t2 90,.val t31] w K) (J1 [(.int .i64 0)] w)) (J1 [(.int .i64 0)] w)) (fun vs1 w=>∀_:Sg,S_foliantref03_word_0 t0 t2 w K)))
theorem S_foliantref03_word_eq (t0:Value)(w:World)(K:Ending→World→Prop):wpX prog 47 [(10,[3])] [] none (bodyOf Tryz.f128) (topQ prog [.cell 2 90,.tmp 3] K) (startX [t0]) [] w=S_foliantref03_word t0 w K:=by kernel_rfl
theorem S_foliantref03_word_ok {t0:Value}{w:World}{K:Ending→World→Prop}(h:S_foliantref03_word t0 w K):Calls prog 128 #[t0] w K:=
 calls_of_wpX Tryz.func128 rfl rfl rfl rfl (Eq.mpr (S_foliantref03_word_eq t0 w K) h)
def S_foliantref03_name_1 (t4 t5 t6:Value)(w:World)(N1:List Value→World→Prop)(K:Ending→World→Prop):Prop:=
 DoX prog (mBuildS 71 1 #[(0,t6)]) w (pk K) fun t57 w=>
 DoX prog (mB .append #[71,71] 71 #[false,false] #[t4,t57]) w (pk K) fun t58 w=>
 DoX prog (mBin .add 3 t5 (.int .i64 1)) w (pk K) fun t14 w=>
 N1 [t58,t14] w
def S_foliantref03_name_0 (t0 t4 t5:Value)(w:World)(N1:List Value→World→Prop)(K:Ending→World→Prop):Prop:=
 DoX prog (mB .len #[9] 3 #[false] #[t0]) w (pk K) fun t11 w=>
 DoX prog (mBin .lss 3 t5 t11) w (pk K) fun t12 w=>
 IfX t12 (DoX prog (mIx 9 t0 t5) w (pk K) fun t17 w=>
 JoinX (fun J2=>
 DoX prog (mEq .eql 5 (.tmp 18) (.const (.int .u8 35)) t17 (.int .u8 35)) w (pk K) fun t19 w=>
 IfX t19 (DoX prog (mBin .add 3 t5 (.int .i64 2)) w (pk K) fun t21 w=>
 DoX prog (mB .len #[9] 3 #[false] #[t0]) w (pk K) fun t23 w=>
 DoX prog (mBin .geq 3 t21 t23) w (pk K) fun t24 w=>
 IfX t24 (K (.returned (.tuple #[(.string ⟨#[]⟩),(.int .i64 3)])) w) (QuietX w (fun C3=>
 QDo prog C3 (mBin .add 3 t5 (.int .i64 1)) fun t27=>
 QDo prog C3 (mIx 9 t0 t27) fun t28=>
 QCall prog C3 191 #[t28] fun t29=>
 QDo prog C3 (mBin .add 3 t5 (.int .i64 2)) fun t32=>
 QDo prog C3 (mIx 9 t0 t32) fun t33=>
 QCall prog C3 191 #[t33] fun t34=>
 ∀w,C3 w →
 DoX prog (mBin .lss 3 t29 (.int .i64 0)) w (pk K) fun t36 w=>
 GDo t36 false (fun E=>E t34 w) w fun t38 w=>
 GDo t36 false (fun E=>DoX prog (mBin .lss 3 t38 (.int .i64 0)) w (pk K) E) w fun t39 w=>
 DoX prog (mPick t36 (.bool true) t39) w (pk K) fun t40 w=>
 GDo t40 false (fun E=>E t29 w) w fun t42 w=>
 GDo t40 false (fun E=>DoX prog (mBin .mul 3 (.int .i64 16) t42) w (pk K) E) w fun t43 w=>
 GDo t40 false (fun E=>E t34 w) w fun t44 w=>
 GDo t40 false (fun E=>DoX prog (mBin .add 3 t43 t44) w (pk K) E) w fun t45 w=>
 GDo t40 false (fun E=>DoX prog (mEq .eql 3 (.tmp 45) (.const (.int .i64 0)) t45 (.int .i64 0)) w (pk K) E) w fun t46 w=>
 DoX prog (mPick t40 (.bool true) t46) w (pk K) fun t47 w=>
 IfX t47 (K (.returned (.tuple #[(.string ⟨#[]⟩),(.int .i64 3)])) w) (DoX prog (mBin .mul 3 (.int .i64 16) t29) w (pk K) fun t49 w=>
 DoX prog (mBin .add 3 t49 t34) w (pk K) fun t51 w=>
 DoX prog (mConv 3 5 t51) w (pk K) fun t52 w=>
 DoX prog (mBin .add 3 t5 (.int .i64 2)) w (pk K) fun t54 w=>
 J2 [t54,t52] w)))) (J2 [t5,t17] w)) (fun vs2 w=>∀_:Sg,S_foliantref03_name_1 t4 (vs2.getD 0 undef) (vs2.getD 1 undef) w N1 K)) (DoX prog (mB .len #[71] 3 #[false] #[t4]) w (pk K) fun t60 w=>
 DoX prog (mBin .gtr 3 t60 (.int .i64 127)) w (pk K) fun t61 w=>
 IfX t61 (K (.returned (.tuple #[(.string ⟨#[]⟩),(.int .i64 5)])) w) (DoX prog (mConv 71 9 t4) w (pk K) fun t63 w=>
 K (.returned (.tuple #[t63,(.int .i64 0)])) w))
def S_foliantref03_name (t0:Value)(w:World)(K:Ending→World→Prop):Prop:=
 LoopX [(.slice none 0 0),(.int .i64 0)] w (fun vs1 w N1=>∀_:Sg,S_foliantref03_name_0 t0 (vs1.getD 0 undef) (vs1.getD 1 undef) w N1 K)
theorem S_foliantref03_name_eq (t0:Value)(w:World)(K:Ending→World→Prop):wpX prog 64 [(14,[5,6])] [(3,[4,5])] none (bodyOf Tryz.f125) (topQ prog [.tmp 2,.tmp 3] K) (startX [t0]) [] w=S_foliantref03_name t0 w K:=by kernel_rfl
theorem S_foliantref03_name_ok {t0:Value}{w:World}{K:Ending→World→Prop}(h:S_foliantref03_name t0 w K):Calls prog 125 #[t0] w K:=
 calls_of_wpX Tryz.func125 rfl rfl rfl rfl (Eq.mpr (S_foliantref03_name_eq t0 w K) h)
def S_foliantref03_escape_1 (t0 t1 t10 t11:Value)(w:World)(N2:List Value→World→Prop)(K:Ending→World→Prop):Prop:=
 DoX prog (mB .len #[9] 3 #[false] #[t0]) w (pk K) fun t64 w=>
 DoX prog (mBin .lss 3 t11 t64) w (pk K) fun t65 w=>
 GDo t65 true (fun E=>E t11 w) w fun t67 w=>
 GDo t65 true (fun E=>E t1 w) w fun t68 w=>
 GDo t65 true (fun E=>DoX prog (mBin .add 3 t68 (.int .i64 4)) w (pk K) E) w fun t69 w=>
 GDo t65 true (fun E=>DoX prog (mBin .lss 3 t67 t69) w (pk K) E) w fun t70 w=>
 DoX prog (mPick t65 t70 (.bool false)) w (pk K) fun t71 w=>
 GDo t71 true (fun E=>E t0 w) w fun t73 w=>
 GDo t71 true (fun E=>E t11 w) w fun t74 w=>
 GDo t71 true (fun E=>DoX prog (mIx 9 t73 t74) w (pk K) E) w fun t75 w=>
 GDo t71 true (fun E=>DoX prog (mBin .geq 5 t75 (.int .u8 48)) w (pk K) E) w fun t76 w=>
 DoX prog (mPick t71 t76 (.bool false)) w (pk K) fun t77 w=>
 GDo t77 true (fun E=>E t0 w) w fun t79 w=>
 GDo t77 true (fun E=>E t11 w) w fun t80 w=>
 GDo t77 true (fun E=>DoX prog (mIx 9 t79 t80) w (pk K) E) w fun t81 w=>
 GDo t77 true (fun E=>DoX prog (mBin .leq 5 t81 (.int .u8 55)) w (pk K) E) w fun t82 w=>
 DoX prog (mPick t77 t82 (.bool false)) w (pk K) fun t83 w=>
 IfX t83 (DoX prog (mBin .mul 3 (.int .i64 8) t10) w (pk K) fun t85 w=>
 DoX prog (mIx 9 t0 t11) w (pk K) fun t88 w=>
 DoX prog (mConv 5 3 t88) w (pk K) fun t89 w=>
 DoX prog (mBin .add 3 t85 t89) w (pk K) fun t90 w=>
 DoX prog (mBin .sub 3 t90 (.int .i64 48)) w (pk K) fun t91 w=>
 DoX prog (mBin .add 3 t11 (.int .i64 1)) w (pk K) fun t93 w=>
 N2 [t91,t93] w) (DoX prog (mBin .add 3 t1 (.int .i64 1)) w (pk K) fun t96 w=>
 DoX prog (mBin .gtr 3 t11 t96) w (pk K) fun t97 w=>
 IfX t97 (DoX prog (mBin .rem 3 t10 (.int .i64 256)) w (pk K) fun t99 w=>
 DoX prog (mConv 3 5 t99) w (pk K) fun t100 w=>
 DoX prog (mBuildS 71 1 #[(0,t100)]) w (pk K) fun t101 w=>
 DoX prog (mConv 71 9 t101) w (pk K) fun t102 w=>
 K (.returned (.tuple #[t102,t11])) w) (DoX prog (mBin .add 3 t1 (.int .i64 1)) w (pk K) fun t106 w=>
 DoX prog (mBin .add 3 t1 (.int .i64 2)) w (pk K) fun t108 w=>
 DoX prog (mSlice 9 t0 (some t106) (some t108) none) w (pk K) fun t109 w=>
 DoX prog (mBin .add 3 t1 (.int .i64 2)) w (pk K) fun t111 w=>
 K (.returned (.tuple #[t109,t111])) w))
def S_foliantref03_escape_0 (t0 t1 t6 t7 t8 t9:Value)(w:World)(N1:List Value→World→Prop)(K:Ending→World→Prop):Prop:=
 DoX prog (mB .len #[9] 3 #[false] #[t7]) w (pk K) fun t18 w=>
 DoX prog (mBin .lss 3 t9 t18) w (pk K) fun t19 w=>
 IfX t19 (DoX prog (mIx 9 t7 t9) w (pk K) fun t25 w=>
 DoX prog (mEq .eql 5 (.tmp 22) (.tmp 25) t6 t25) w (pk K) fun t26 w=>
 IfX t26 (DoX prog (mBin .add 3 t9 (.int .i64 1)) w (pk K) fun t30 w=>
 DoX prog (mSlice 9 t8 (some t9) (some t30) none) w (pk K) fun t31 w=>
 DoX prog (mBin .add 3 t1 (.int .i64 2)) w (pk K) fun t33 w=>
 K (.returned (.tuple #[t31,t33])) w) (DoX prog (mBin .add 3 t9 (.int .i64 1)) w (pk K) fun t21 w=>
 N1 [t21] w)) (DoX prog (mEq .eql 5 (.tmp 34) (.const (.int .u8 13)) t6 (.int .u8 13)) w (pk K) fun t35 w=>
 GDo t35 true (fun E=>E t1 w) w fun t37 w=>
 GDo t35 true (fun E=>DoX prog (mBin .add 3 t37 (.int .i64 2)) w (pk K) E) w fun t38 w=>
 GDo t35 true (fun E=>E t0 w) w fun t39 w=>
 GDo t35 true (fun E=>DoX prog (mB .len #[9] 3 #[false] #[t39]) w (pk K) E) w fun t40 w=>
 GDo t35 true (fun E=>DoX prog (mBin .lss 3 t38 t40) w (pk K) E) w fun t41 w=>
 DoX prog (mPick t35 t41 (.bool false)) w (pk K) fun t42 w=>
 GDo t42 true (fun E=>E t0 w) w fun t44 w=>
 GDo t42 true (fun E=>E t1 w) w fun t45 w=>
 GDo t42 true (fun E=>DoX prog (mBin .add 3 t45 (.int .i64 2)) w (pk K) E) w fun t46 w=>
 GDo t42 true (fun E=>DoX prog (mIx 9 t44 t46) w (pk K) E) w fun t47 w=>
 GDo t42 true (fun E=>DoX prog (mEq .eql 5 (.tmp 47) (.const (.int .u8 10)) t47 (.int .u8 10)) w (pk K) E) w fun t48 w=>
 DoX prog (mPick t42 t48 (.bool false)) w (pk K) fun t49 w=>
 IfX t49 (DoX prog (mBin .add 3 t1 (.int .i64 3)) w (pk K) fun t51 w=>
 K (.returned (.tuple #[(.string ⟨#[]⟩),t51])) w) (DoX prog (mEq .eql 5 (.tmp 52) (.const (.int .u8 13)) t6 (.int .u8 13)) w (pk K) fun t53 w=>
 GDo t53 false (fun E=>E t6 w) w fun t55 w=>
 GDo t53 false (fun E=>DoX prog (mEq .eql 5 (.tmp 55) (.const (.int .u8 10)) t55 (.int .u8 10)) w (pk K) E) w fun t56 w=>
 DoX prog (mPick t53 (.bool true) t56) w (pk K) fun t57 w=>
 IfX t57 (DoX prog (mBin .add 3 t1 (.int .i64 2)) w (pk K) fun t59 w=>
 K (.returned (.tuple #[(.string ⟨#[]⟩),t59])) w) (DoX prog (mBin .add 3 t1 (.int .i64 1)) w (pk K) fun t61 w=>
 LoopX [(.int .i64 0),t61] w (fun vs2 w N2=>∀_:Sg,S_foliantref03_escape_1 t0 t1 (vs2.getD 0 undef) (vs2.getD 1 undef) w N2 K))))
def S_foliantref03_escape (t0 t1:Value)(w:World)(K:Ending→World→Prop):Prop:=
 DoX prog (mBin .add 3 t1 (.int .i64 1)) w (pk K) fun t14 w=>
 DoX prog (mIx 9 t0 t14) w (pk K) fun t15 w=>
 LoopX [(.int .i64 0)] w (fun vs1 w N1=>∀_:Sg,S_foliantref03_escape_0 t0 t1 t15 (.string ⟨#[110,114,116,98,102]⟩) (.string ⟨#[10,13,9,8,12]⟩) (vs1.getD 0 undef) w N1 K)
theorem S_foliantref03_escape_eq (t0 t1:Value)(w:World)(K:Ending→World→Prop):wpX prog 112 [] [(4,[9]),(13,[10,11])] none (bodyOf Tryz.f192) (topQ prog [.tmp 4,.tmp 5] K) (startX [t0,t1]) [] w=S_foliantref03_escape t0 t1 w K:=by kernel_rfl
theorem S_foliantref03_escape_ok {t0 t1:Value}{w:World}{K:Ending→World→Prop}(h:S_foliantref03_escape t0 t1 w K):Calls prog 192 #[t0,t1] w K:=
 calls_of_wpX Tryz.func192 rfl rfl rfl rfl (Eq.mpr (S_foliantref03_escape_eq t0 t1 w K) h)
def S_foliantref03_text_4 (t1 t7 t8 t9:Value)(w:World)(N1:List Value→World→Prop)(K:Ending→World→Prop):Prop:=
 DoX prog (mBuildS 71 1 #[(0,t9)]) w (pk K) fun t75 w=>
 DoX prog (mB .append #[71,71] 71 #[false,false] #[t7,t75]) w (pk K) fun t76 w=>
 DoX prog (mBin .add 3 t1 (.int .i64 1)) w (pk K) fun t78 w=>
 N1 [t78,t76,t8] w
def S_foliantref03_text_3 (t1 t7 t8 t9:Value)(w:World)(N1:List Value→World→Prop)(K:Ending→World→Prop):Prop:=
 JoinX (fun J5=>
 DoX prog (mEq .eql 5 (.tmp 71) (.const (.int .u8 13)) t9 (.int .u8 13)) w (pk K) fun t72 w=>
 IfX t72 (J5 [(.int .u8 10)] w) (J5 [t9] w)) (fun vs5 w=>∀_:Sg,S_foliantref03_text_4 t1 t7 t8 (vs5.getD 0 undef) w N1 K)
def S_foliantref03_text_2 (t0 t1 t7 t8 t9:Value)(w:World)(N1:List Value→World→Prop)(K:Ending→World→Prop):Prop:=
 JoinX (fun J4=>
 DoX prog (mEq .eql 5 (.tmp 53) (.const (.int .u8 13)) t9 (.int .u8 13)) w (pk K) fun t54 w=>
 GDo t54 true (fun E=>E t1 w) w fun t56 w=>
 GDo t54 true (fun E=>DoX prog (mBin .add 3 t56 (.int .i64 1)) w (pk K) E) w fun t57 w=>
 GDo t54 true (fun E=>E t0 w) w fun t58 w=>
 GDo t54 true (fun E=>DoX prog (mB .len #[9] 3 #[false] #[t58]) w (pk K) E) w fun t59 w=>
 GDo t54 true (fun E=>DoX prog (mBin .lss 3 t57 t59) w (pk K) E) w fun t60 w=>
 DoX prog (mPick t54 t60 (.bool false)) w (pk K) fun t61 w=>
 GDo t61 true (fun E=>E t0 w) w fun t63 w=>
 GDo t61 true (fun E=>E t1 w) w fun t64 w=>
 GDo t61 true (fun E=>DoX prog (mBin .add 3 t64 (.int .i64 1)) w (pk K) E) w fun t65 w=>
 GDo t61 true (fun E=>DoX prog (mIx 9 t63 t65) w (pk K) E) w fun t66 w=>
 GDo t61 true (fun E=>DoX prog (mEq .eql 5 (.tmp 66) (.const (.int .u8 10)) t66 (.int .u8 10)) w (pk K) E) w fun t67 w=>
 DoX prog (mPick t61 t67 (.bool false)) w (pk K) fun t68 w=>
 IfX t68 (DoX prog (mBin .add 3 t1 (.int .i64 1)) w (pk K) fun t70 w=>
 J4 [t70] w) (J4 [t1] w)) (fun vs4 w=>∀_:Sg,S_foliantref03_text_3 (vs4.getD 0 undef) t7 t8 t9 w N1 K)
def S_foliantref03_text_1 (t0 t1 t7 t8 t9:Value)(w:World)(N1:List Value→World→Prop)(K:Ending→World→Prop):Prop:=
 JoinX (fun J3=>
 DoX prog (mEq .eql 5 (.tmp 40) (.const (.int .u8 41)) t9 (.int .u8 41)) w (pk K) fun t41 w=>
 IfX t41 (DoX prog (mBin .sub 3 t8 (.int .i64 1)) w (pk K) fun t43 w=>
 DoX prog (mEq .eql 3 (.tmp 44) (.const (.int .i64 0)) t43 (.int .i64 0)) w (pk K) fun t45 w=>
 IfX t45 (DoX prog (mB .len #[71] 3 #[false] #[t7]) w (pk K) fun t47 w=>
 DoX prog (mBin .gtr 3 t47 (.int .i64 32767)) w (pk K) fun t48 w=>
 IfX t48 (K (.returned (.tuple #[(.string ⟨#[]⟩),(.int .i64 0),(.int .i64 5)])) w) (DoX prog (mConv 71 9 t7) w (pk K) fun t50 w=>
 DoX prog (mBin .add 3 t1 (.int .i64 1)) w (pk K) fun t52 w=>
 K (.returned (.tuple #[t50,t52,(.int .i64 0)])) w)) (J3 [t43] w)) (J3 [t8] w)) (fun vs3 w=>∀_:Sg,S_foliantref03_text_2 t0 t1 t7 (vs3.getD 0 undef) t9 w N1 K)
def S_foliantref03_text_0 (t0 t1 t7 t8:Value)(w:World)(N1:List Value→World→Prop)(K:Ending→World→Prop):Prop:=
 DoX prog (mB .len #[9] 3 #[false] #[t0]) w (pk K) fun t14 w=>
 DoX prog (mBin .lss 3 t1 t14) w (pk K) fun t15 w=>
 IfX t15 (DoX prog (mIx 9 t0 t1) w (pk K) fun t18 w=>
 DoX prog (mEq .eql 5 (.tmp 19) (.const (.int .u8 92)) t18 (.int .u8 92)) w (pk K) fun t20 w=>
 IfX t20 (DoX prog (mBin .add 3 t1 (.int .i64 1)) w (pk K) fun t22 w=>
 DoX prog (mB .len #[9] 3 #[false] #[t0]) w (pk K) fun t24 w=>
 DoX prog (mBin .geq 3 t22 t24) w (pk K) fun t25 w=>
 IfX t25 (K (.returned (.tuple #[(.string ⟨#[]⟩),(.int .i64 0),(.int .i64 4)])) w) (CallX prog 192 #[t0,t1] w (pk K) fun t29 w=>
 DoX prog (mExt t29 0) w (pk K) fun t30 w=>
 DoX prog (mExt t29 1) w (pk K) fun t31 w=>
 DoX prog (mB .append #[71,9] 71 #[false,false] #[t7,t30]) w (pk K) fun t34 w=>
 N1 [t31,t34,t8] w)) (JoinX (fun J2=>
 DoX prog (mEq .eql 5 (.tmp 36) (.const (.int .u8 40)) t18 (.int .u8 40)) w (pk K) fun t37 w=>
 IfX t37 (DoX prog (mBin .add 3 t8 (.int .i64 1)) w (pk K) fun t39 w=>
 J2 [t39] w) (J2 [t8] w)) (fun vs2 w=>∀_:Sg,S_foliantref03_text_1 t0 t1 t7 (vs2.getD 0 undef) t18 w N1 K))) (K (.returned (.tuple #[(.string ⟨#[]⟩),(.int .i64 0),(.int .i64 4)])) w)
def S_foliantref03_text (t0 t1:Value)(w:World)(K:Ending→World→Prop):Prop:=
 LoopX [t1,(.slice none 0 0),(.int .i64 1)] w (fun vs1 w N1=>∀_:Sg,S_foliantref03_text_0 t0 (vs1.getD 0 undef) (vs1.getD 1 undef) (vs1.getD 2 undef) w N1 K)
theorem S_foliantref03_text_eq (t0 t1:Value)(w:World)(K:Ending→World→Prop):wpX prog 79 [(13,[8]),(19,[8]),(21,[1]),(23,[9])] [(3,[1,7,8])] none (bodyOf Tryz.f126) (topQ prog [.tmp 4,.tmp 5,.tmp 6] K) (startX [t0,t1]) [] w=S_foliantref03_text t0 t1 w K:=by kernel_rfl
theorem S_foliantref03_text_ok {t0 t1:Value}{w:World}{K:Ending→World→Prop}(h:S_foliantref03_text t0 t1 w K):Calls prog 126 #[t0,t1] w K:=
 calls_of_wpX Tryz.func126 rfl rfl rfl rfl (Eq.mpr (S_foliantref03_text_eq t0 t1 w K) h)
def S_foliantref03_hex_2 (t1 t7:Value)(w:World)(K:Ending→World→Prop):Prop:=
 DoX prog (mConv 71 9 t7) w (pk K) fun t51 w=>
 CallX prog 193 #[t51] w (pk K) fun t52 w=>
 DoX prog (mExt t52 0) w (pk K) fun t53 w=>
 DoX prog (mExt t52 1) w (pk K) fun t54 w=>
 DoX prog (mB .len #[9] 3 #[false] #[t53]) w (pk K) fun t56 w=>
 DoX prog (mBin .gtr 3 t56 (.int .i64 32767)) w (pk K) fun t57 w=>
 IfX t57 (K (.returned (.tuple #[(.string ⟨#[]⟩),(.int .i64 0),(.int .i64 5)])) w) (DoX prog (mBin .add 3 t1 (.int .i64 1)) w (pk K) fun t60 w=>
 K (.returned (.tuple #[t53,t60,(.int .i64 0)])) w)
def S_foliantref03_hex_1 (t1 t7:Value)(w:World)(N1:List Value→World→Prop)(K:Ending→World→Prop):Prop:=
 DoX prog (mBin .add 3 t1 (.int .i64 1)) w (pk K) fun t37 w=>
 N1 [t37,t7] w
def S_foliantref03_hex_0 (t0 t1 t7:Value)(w:World)(N1:List Value→World→Prop)(K:Ending→World→Prop):Prop:=
 DoX prog (mB .len #[9] 3 #[false] #[t0]) w (pk K) fun t12 w=>
 DoX prog (mBin .lss 3 t1 t12) w (pk K) fun t13 w=>
 GDo t13 true (fun E=>E t0 w) w fun t15 w=>
 GDo t13 true (fun E=>E t1 w) w fun t16 w=>
 GDo t13 true (fun E=>DoX prog (mIx 9 t15 t16) w (pk K) E) w fun t17 w=>
 GDo t13 true (fun E=>DoX prog (mEq .neq 5 (.tmp 17) (.const (.int .u8 62)) t17 (.int .u8 62)) w (pk K) E) w fun t18 w=>
 DoX prog (mPick t13 t18 (.bool false)) w (pk K) fun t19 w=>
 IfX t19 (JoinX (fun J2=>
 DoX prog (mIx 9 t0 t1) w (pk K) fun t22 w=>
 CallX prog 191 #[t22] w (pk K) fun t23 w=>
 DoX prog (mBin .geq 3 t23 (.int .i64 0)) w (pk K) fun t24 w=>
 IfX t24 (DoX prog (mIx 9 t0 t1) w (pk K) fun t28 w=>
 DoX prog (mBuildS 71 1 #[(0,t28)]) w (pk K) fun t29 w=>
 DoX prog (mB .append #[71,71] 71 #[false,false] #[t7,t29]) w (pk K) fun t30 w=>
 J2 [t30] w) (DoX prog (mIx 9 t0 t1) w (pk K) fun t33 w=>
 CallX prog 123 #[t33] w (pk K) fun t34 w=>
 DoX prog (mUn .not t34) w (pk K) fun t35 w=>
 IfX t35 (K (.returned (.tuple #[(.string ⟨#[]⟩),(.int .i64 0),(.int .i64 3)])) w) (J2 [t7] w))) (fun vs2 w=>∀_:Sg,S_foliantref03_hex_1 t1 (vs2.getD 0 undef) w N1 K)) (DoX prog (mB .len #[9] 3 #[false] #[t0]) w (pk K) fun t40 w=>
 DoX prog (mBin .geq 3 t1 t40) w (pk K) fun t41 w=>
 IfX t41 (K (.returned (.tuple #[(.string ⟨#[]⟩),(.int .i64 0),(.int .i64 4)])) w) (JoinX (fun J3=>
 DoX prog (mB .len #[71] 3 #[false] #[t7]) w (pk K) fun t43 w=>
 DoX prog (mBin .rem 3 t43 (.int .i64 2)) w (pk K) fun t44 w=>
 DoX prog (mEq .neq 3 (.tmp 44) (.const (.int .i64 0)) t44 (.int .i64 0)) w (pk K) fun t45 w=>
 IfX t45 (DoX prog (mBuildS 71 1 #[(0,(.int .u8 48))]) w (pk K) fun t47 w=>
 DoX prog (mB .append #[71,71] 71 #[false,false] #[t7,t47]) w (pk K) fun t48 w=>
 J3 [t48] w) (J3 [t7] w)) (fun vs3 w=>∀_:Sg,S_foliantref03_hex_2 t1 (vs3.getD 0 undef) w K)))
def S_foliantref03_hex (t0 t1:Value)(w:World)(K:Ending→World→Prop):Prop:=
 LoopX [t1,(.slice none 0 0)] w (fun vs1 w N1=>∀_:Sg,S_foliantref03_hex_0 t0 (vs1.getD 0 undef) (vs1.getD 1 undef) w N1 K)
theorem S_foliantref03_hex_eq (t0 t1:Value)(w:World)(K:Ending→World→Prop):wpX prog 61 [(7,[7]),(12,[7])] [(2,[1,7])] none (bodyOf Tryz.f127) (topQ prog [.tmp 4,.tmp 5,.tmp 6] K) (startX [t0,t1]) [] w=S_foliantref03_hex t0 t1 w K:=by kernel_rfl
theorem S_foliantref03_hex_ok {t0 t1:Value}{w:World}{K:Ending→World→Prop}(h:S_foliantref03_hex t0 t1 w K):Calls prog 127 #[t0,t1] w K:=
 calls_of_wpX Tryz.func127 rfl rfl rfl rfl (Eq.mpr (S_foliantref03_hex_eq t0 t1 w K) h)
def S_foliantref03_token_0 (t1 t4 t11 t12 t13:Value)(w:World)(K:Ending→World→Prop):Prop:=
 DoX prog (mEq .neq 30 (.tmp 128) (.const (.int .i64 0)) t13 (.int .i64 0)) w (pk K) fun t129 w=>
 IfX t129 (DoX prog (mBuild 90 #[]) w (pk K) fun t130 w=>
 DoX prog (mStore 90 t4 t130) w (pk K) fun _ w=>
 RetX prog [.cell t4 90,.val t13] w K) (DoX prog (mBuild 90 #[(0,(.int .i64 3)),(1,t1),(2,t12),(4,t11)]) w (pk K) fun t135 w=>
 DoX prog (mStore 90 t4 t135) w (pk K) fun _ w=>
 RetX prog [.cell t4 90,.val (.int .i64 0)] w K)
def S_foliantref03_token (t0 t1:Value)(w:World)(K:Ending→World→Prop):Prop:=
 DoX prog (mAlloc 90) w (pk K) fun t4 w=>
 DoX prog (mIx 9 t0 t1) w (pk K) fun t19 w=>
 DoX prog (mBin .add 3 t1 (.int .i64 1)) w (pk K) fun t21 w=>
 DoX prog (mB .len #[9] 3 #[false] #[t0]) w (pk K) fun t23 w=>
 DoX prog (mBin .lss 3 t21 t23) w (pk K) fun t24 w=>
 GDo t24 true (fun E=>E t0 w) w fun t26 w=>
 GDo t24 true (fun E=>E t1 w) w fun t27 w=>
 GDo t24 true (fun E=>DoX prog (mBin .add 3 t27 (.int .i64 1)) w (pk K) E) w fun t28 w=>
 GDo t24 true (fun E=>DoX prog (mIx 9 t26 t28) w (pk K) E) w fun t29 w=>
 GDo t24 true (fun E=>E t19 w) w fun t30 w=>
 GDo t24 true (fun E=>DoX prog (mEq .eql 5 (.tmp 29) (.tmp 30) t29 t30) w (pk K) E) w fun t31 w=>
 DoX prog (mPick t24 t31 (.bool false)) w (pk K) fun t32 w=>
 DoX prog (mEq .eql 5 (.tmp 33) (.const (.int .u8 60)) t19 (.int .u8 60)) w (pk K) fun t34 w=>
 GDo t34 false (fun E=>E t19 w) w fun t36 w=>
 GDo t34 false (fun E=>DoX prog (mEq .eql 5 (.tmp 36) (.const (.int .u8 62)) t36 (.int .u8 62)) w (pk K) E) w fun t37 w=>
 DoX prog (mPick t34 (.bool true) t37) w (pk K) fun t38 w=>
 GDo t38 true (fun E=>E t32 w) w fun t40 w=>
 DoX prog (mPick t38 t40 (.bool false)) w (pk K) fun t41 w=>
 IfX t41 (DoX prog (mBin .add 3 t1 (.int .i64 2)) w (pk K) fun t44 w=>
 DoX prog (mBin .add 3 t1 (.int .i64 2)) w (pk K) fun t48 w=>
 DoX prog (mSlice 9 t0 (some t1) (some t48) none) w (pk K) fun t49 w=>
 DoX prog (mBuild 90 #[(0,(.int .i64 6)),(1,t1),(2,t44),(4,t49)]) w (pk K) fun t50 w=>
 DoX prog (mStore 90 t4 t50) w (pk K) fun _ w=>
 RetX prog [.cell t4 90,.val (.int .i64 0)] w K) (DoX prog (mEq .eql 5 (.tmp 51) (.const (.int .u8 91)) t19 (.int .u8 91)) w (pk K) fun t52 w=>
 GDo t52 false (fun E=>E t19 w) w fun t54 w=>
 GDo t52 false (fun E=>DoX prog (mEq .eql 5 (.tmp 54) (.const (.int .u8 93)) t54 (.int .u8 93)) w (pk K) E) w fun t55 w=>
 DoX prog (mPick t52 (.bool true) t55) w (pk K) fun t56 w=>
 GDo t56 false (fun E=>E t19 w) w fun t58 w=>
 GDo t56 false (fun E=>DoX prog (mEq .eql 5 (.tmp 58) (.const (.int .u8 123)) t58 (.int .u8 123)) w (pk K) E) w fun t59 w=>
 DoX prog (mPick t56 (.bool true) t59) w (pk K) fun t60 w=>
 GDo t60 false (fun E=>E t19 w) w fun t62 w=>
 GDo t60 false (fun E=>DoX prog (mEq .eql 5 (.tmp 62) (.const (.int .u8 125)) t62 (.int .u8 125)) w (pk K) E) w fun t63 w=>
 DoX prog (mPick t60 (.bool true) t63) w (pk K) fun t64 w=>
 IfX t64 (DoX prog (mBin .add 3 t1 (.int .i64 1)) w (pk K) fun t67 w=>
 DoX prog (mBin .add 3 t1 (.int .i64 1)) w (pk K) fun t71 w=>
 DoX prog (mSlice 9 t0 (some t1) (some t71) none) w (pk K) fun t72 w=>
 DoX prog (mBuild 90 #[(0,(.int .i64 6)),(1,t1),(2,t67),(4,t72)]) w (pk K) fun t73 w=>
 DoX prog (mStore 90 t4 t73) w (pk K) fun _ w=>
 RetX prog [.cell t4 90,.val (.int .i64 0)] w K) (DoX prog (mEq .eql 5 (.tmp 74) (.const (.int .u8 62)) t19 (.int .u8 62)) w (pk K) fun t75 w=>
 GDo t75 false (fun E=>E t19 w) w fun t77 w=>
 GDo t75 false (fun E=>DoX prog (mEq .eql 5 (.tmp 77) (.const (.int .u8 41)) t77 (.int .u8 41)) w (pk K) E) w fun t78 w=>
 DoX prog (mPick t75 (.bool true) t78) w (pk K) fun t79 w=>
 IfX t79 (DoX prog (mBuild 90 #[]) w (pk K) fun t80 w=>
 DoX prog (mStore 90 t4 t80) w (pk K) fun _ w=>
 RetX prog [.cell t4 90,.val (.int .i64 3)] w K) (DoX prog (mEq .eql 5 (.tmp 81) (.const (.int .u8 47)) t19 (.int .u8 47)) w (pk K) fun t82 w=>
 IfX t82 (DoX prog (mBin .add 3 t1 (.int .i64 1)) w (pk K) fun t85 w=>
 CallX prog 124 #[t0,t85] w (pk K) fun t86 w=>
 DoX prog (mBin .add 3 t1 (.int .i64 1)) w (pk K) fun t90 w=>
 DoX prog (mSlice 9 t0 (some t90) (some t86) none) w (pk K) fun t92 w=>
 CallX prog 125 #[t92] w (pk K) fun t93 w=>
 DoX prog (mExt t93 0) w (pk K) fun t94 w=>
 DoX prog (mExt t93 1) w (pk K) fun t95 w=>
 DoX prog (mEq .neq 30 (.tmp 96) (.const (.int .i64 0)) t95 (.int .i64 0)) w (pk K) fun t97 w=>
 IfX t97 (DoX prog (mBuild 90 #[]) w (pk K) fun t98 w=>
 DoX prog (mStore 90 t4 t98) w (pk K) fun _ w=>
 RetX prog [.cell t4 90,.val t95] w K) (DoX prog (mBuild 90 #[(0,(.int .i64 4)),(1,t1),(2,t86),(4,t94)]) w (pk K) fun t103 w=>
 DoX prog (mStore 90 t4 t103) w (pk K) fun _ w=>
 RetX prog [.cell t4 90,.val (.int .i64 0)] w K)) (DoX prog (mEq .eql 5 (.tmp 104) (.const (.int .u8 40)) t19 (.int .u8 40)) w (pk K) fun t105 w=>
 GDo t105 false (fun E=>E t19 w) w fun t107 w=>
 GDo t105 false (fun E=>DoX prog (mEq .eql 5 (.tmp 107) (.const (.int .u8 60)) t107 (.int .u8 60)) w (pk K) E) w fun t108 w=>
 DoX prog (mPick t105 (.bool true) t108) w (pk K) fun t109 w=>
 IfX t109 (DoX prog (mBin .add 3 t1 (.int .i64 1)) w (pk K) fun t113 w=>
 CallX prog 126 #[t0,t113] w (pk K) fun t114 w=>
 DoX prog (mExt t114 0) w (pk K) fun t115 w=>
 DoX prog (mExt t114 1) w (pk K) fun t116 w=>
 DoX prog (mExt t114 2) w (pk K) fun t117 w=>
 JoinX (fun J1=>
 DoX prog (mEq .eql 5 (.tmp 118) (.const (.int .u8 60)) t19 (.int .u8 60)) w (pk K) fun t119 w=>
 IfX t119 (DoX prog (mBin .add 3 t1 (.int .i64 1)) w (pk K) fun t123 w=>
 CallX prog 127 #[t0,t123] w (pk K) fun t124 w=>
 DoX prog (mExt t124 0) w (pk K) fun t125 w=>
 DoX prog (mExt t124 1) w (pk K) fun t126 w=>
 DoX prog (mExt t124 2) w (pk K) fun t127 w=>
 J1 [t125,t126,t127] w) (J1 [t115,t116,t117] w)) (fun vs1 w=>∀_:Sg,S_foliantref03_token_0 t1 t4 (vs1.getD 0 undef) (vs1.getD 1 undef) (vs1.getD 2 undef) w K)) (CallX prog 124 #[t0,t1] w (pk K) fun t138 w=>
 DoX prog (mSlice 9 t0 (some t1) (some t138) none) w (pk K) fun t143 w=>
 CallX prog 128 #[t143] w (pk K) fun t144 w=>
 DoX prog (mExt t144 0) w (pk K) fun t145 w=>
 DoX prog (mExt t144 1) w (pk K) fun t146 w=>
 DoX prog (mAlloc 90) w (pk K) fun t15 w=>
 DoX prog (mStore 90 t15 t145) w (pk K) fun _ w=>
 DoX prog (mEq .neq 30 (.tmp 147) (.const (.int .i64 0)) t146 (.int .i64 0)) w (pk K) fun t148 w=>
 IfX t148 (DoX prog (mBuild 90 #[]) w (pk K) fun t149 w=>
 DoX prog (mStore 90 t4 t149) w (pk K) fun _ w=>
 RetX prog [.cell t4 90,.val t146] w K) (DoX prog (mFA 90 t15 1) w (pk K) fun t152 w=>
 DoX prog (mStore 3 t152 t1) w (pk K) fun _ w=>
 DoX prog (mFA 90 t15 2) w (pk K) fun t154 w=>
 DoX prog (mStore 3 t154 t138) w (pk K) fun _ w=>
 DoX prog (mLoad 90 t15) w (pk K) fun t155 w=>
 DoX prog (mStore 90 t4 t155) w (pk K) fun _ w=>
 RetX prog [.cell t4 90,.val (.int .i64 0)] w K))))))
theorem S_foliantref03_token_eq (t0 t1:Value)(w:World)(K:Ending→World→Prop):wpX prog 156 [(19,[11,12,13])] [] none (bodyOf Tryz.f71) (topQ prog [.cell 4 90,.tmp 5] K) (startX [t0,t1]) [] w=S_foliantref03_token t0 t1 w K:=by kernel_rfl
theorem S_foliantref03_token_ok {t0 t1:Value}{w:World}{K:Ending→World→Prop}(h:S_foliantref03_token t0 t1 w K):Calls prog 71 #[t0,t1] w K:=
 calls_of_wpX Tryz.func71 rfl rfl rfl rfl (Eq.mpr (S_foliantref03_token_eq t0 t1 w K) h)
def S_foliantref03_Next (t0 t1:Value)(w:World)(K:Ending→World→Prop):Prop:=
 DoX prog (mAlloc 90) w (pk K) fun t4 w=>
 DoX prog (mBin .lss 3 t1 (.int .i64 0)) w (pk K) fun t8 w=>
 GDo t8 false (fun E=>E t1 w) w fun t10 w=>
 GDo t8 false (fun E=>E t0 w) w fun t11 w=>
 GDo t8 false (fun E=>DoX prog (mB .len #[9] 3 #[false] #[t11]) w (pk K) E) w fun t12 w=>
 GDo t8 false (fun E=>DoX prog (mBin .gtr 3 t10 t12) w (pk K) E) w fun t13 w=>
 DoX prog (mPick t8 (.bool true) t13) w (pk K) fun t14 w=>
 IfX t14 (DoX prog (mBuild 90 #[]) w (pk K) fun t15 w=>
 DoX prog (mStore 90 t4 t15) w (pk K) fun _ w=>
 RetX prog [.cell t4 90,.val (.int .i64 1)] w K) (CallX prog 70 #[t0,t1] w (pk K) fun t18 w=>
 DoX prog (mB .len #[9] 3 #[false] #[t0]) w (pk K) fun t21 w=>
 DoX prog (mBin .geq 3 t18 t21) w (pk K) fun t22 w=>
 IfX t22 (DoX prog (mB .len #[9] 3 #[false] #[t0]) w (pk K) fun t24 w=>
 DoX prog (mB .len #[9] 3 #[false] #[t0]) w (pk K) fun t26 w=>
 DoX prog (mBuild 90 #[(0,(.int .i64 0)),(1,t24),(2,t26)]) w (pk K) fun t27 w=>
 DoX prog (mStore 90 t4 t27) w (pk K) fun _ w=>
 RetX prog [.cell t4 90,.val (.int .i64 0)] w K) (CallX prog 71 #[t0,t18] w (pk K) fun t30 w=>
 DoX prog (mExt t30 0) w (pk K) fun t31 w=>
 DoX prog (mExt t30 1) w (pk K) fun t32 w=>
 DoX prog (mStore 90 t4 t31) w (pk K) fun _ w=>
 RetX prog [.cell t4 90,.val t32] w K))
theorem S_foliantref03_Next_eq (t0 t1:Value)(w:World)(K:Ending→World→Prop):wpX prog 33 [] [] none (bodyOf Tryz.f49) (topQ prog [.cell 4 90,.tmp 5] K) (startX [t0,t1]) [] w=S_foliantref03_Next t0 t1 w K:=by kernel_rfl
theorem S_foliantref03_Next_ok {t0 t1:Value}{w:World}{K:Ending→World→Prop}(h:S_foliantref03_Next t0 t1 w K):Calls prog 49 #[t0,t1] w K:=
 calls_of_wpX Tryz.func49 rfl rfl rfl rfl (Eq.mpr (S_foliantref03_Next_eq t0 t1 w K) h)
def S_foliantref01_Digit (t0:Value)(w:World)(K:Ending→World→Prop):Prop:=
 DoX prog (mBin .geq 5 t0 (.int .u8 48)) w (pk K) fun t4 w=>
 GDo t4 true (fun E=>E t0 w) w fun t6 w=>
 GDo t4 true (fun E=>DoX prog (mBin .leq 5 t6 (.int .u8 57)) w (pk K) E) w fun t7 w=>
 DoX prog (mPick t4 t7 (.bool false)) w (pk K) fun t8 w=>
 IfX t8 (DoX prog (mConv 5 3 t0) w (pk K) fun t10 w=>
 DoX prog (mBin .sub 3 t10 (.int .i64 48)) w (pk K) fun t11 w=>
 K (.returned t11) w) (DoX prog (mBin .geq 5 t0 (.int .u8 65)) w (pk K) fun t13 w=>
 GDo t13 true (fun E=>E t0 w) w fun t15 w=>
 GDo t13 true (fun E=>DoX prog (mBin .leq 5 t15 (.int .u8 70)) w (pk K) E) w fun t16 w=>
 DoX prog (mPick t13 t16 (.bool false)) w (pk K) fun t17 w=>
 IfX t17 (DoX prog (mConv 5 3 t0) w (pk K) fun t19 w=>
 DoX prog (mBin .sub 3 t19 (.int .i64 65)) w (pk K) fun t20 w=>
 DoX prog (mBin .add 3 t20 (.int .i64 10)) w (pk K) fun t21 w=>
 K (.returned t21) w) (DoX prog (mBin .geq 5 t0 (.int .u8 97)) w (pk K) fun t23 w=>
 GDo t23 true (fun E=>E t0 w) w fun t25 w=>
 GDo t23 true (fun E=>DoX prog (mBin .leq 5 t25 (.int .u8 102)) w (pk K) E) w fun t26 w=>
 DoX prog (mPick t23 t26 (.bool false)) w (pk K) fun t27 w=>
 IfX t27 (DoX prog (mConv 5 3 t0) w (pk K) fun t29 w=>
 DoX prog (mBin .sub 3 t29 (.int .i64 97)) w (pk K) fun t30 w=>
 DoX prog (mBin .add 3 t30 (.int .i64 10)) w (pk K) fun t31 w=>
 K (.returned t31) w) (K (.returned (.int .i64 (-1))) w)))
theorem S_foliantref01_Digit_eq (t0:Value)(w:World)(K:Ending→World→Prop):wpX prog 32 [] [] none (bodyOf Tryz.f191) (topQ prog [.tmp 2] K) (startX [t0]) [] w=S_foliantref01_Digit t0 w K:=by kernel_rfl
theorem S_foliantref01_Digit_ok {t0:Value}{w:World}{K:Ending→World→Prop}(h:S_foliantref01_Digit t0 w K):Calls prog 191 #[t0] w K:=
 calls_of_wpX Tryz.func191 rfl rfl rfl rfl (Eq.mpr (S_foliantref01_Digit_eq t0 w K) h)
def S_foliantref01_Unhex_0 (t0 t4 t5:Value)(w:World)(N1:List Value→World→Prop)(K:Ending→World→Prop):Prop:=
 DoX prog (mB .len #[9] 3 #[false] #[t0]) w (pk K) fun t14 w=>
 DoX prog (mBin .lss 3 t5 t14) w (pk K) fun t15 w=>
 IfX t15 (QuietX w (fun C2=>
 QDo prog C2 (mIx 9 t0 t5) fun t20=>
 QCall prog C2 191 #[t20] fun t21=>
 QDo prog C2 (mBin .add 3 t5 (.int .i64 1)) fun t24=>
 QDo prog C2 (mIx 9 t0 t24) fun t25=>
 QCall prog C2 191 #[t25] fun t26=>
 ∀w,C2 w →
 DoX prog (mBin .lss 3 t21 (.int .i64 0)) w (pk K) fun t28 w=>
 GDo t28 false (fun E=>E t26 w) w fun t30 w=>
 GDo t28 false (fun E=>DoX prog (mBin .lss 3 t30 (.int .i64 0)) w (pk K) E) w fun t31 w=>
 DoX prog (mPick t28 (.bool true) t31) w (pk K) fun t32 w=>
 IfX t32 (K (.returned (.tuple #[(.string ⟨#[]⟩),(.int .i64 3)])) w) (DoX prog (mBin .mul 3 (.int .i64 16) t21) w (pk K) fun t35 w=>
 DoX prog (mBin .add 3 t35 t26) w (pk K) fun t37 w=>
 DoX prog (mConv 3 5 t37) w (pk K) fun t38 w=>
 DoX prog (mBuildS 71 1 #[(0,t38)]) w (pk K) fun t39 w=>
 DoX prog (mB .append #[71,71] 71 #[false,false] #[t4,t39]) w (pk K) fun t40 w=>
 DoX prog (mBin .add 3 t5 (.int .i64 2)) w (pk K) fun t17 w=>
 N1 [t40,t17] w))) (DoX prog (mConv 71 9 t4) w (pk K) fun t42 w=>
 K (.returned (.tuple #[t42,(.int .i64 0)])) w)
def S_foliantref01_Unhex (t0:Value)(w:World)(K:Ending→World→Prop):Prop:=
 DoX prog (mB .len #[9] 3 #[false] #[t0]) w (pk K) fun t9 w=>
 DoX prog (mBin .rem 3 t9 (.int .i64 2)) w (pk K) fun t10 w=>
 DoX prog (mEq .neq 3 (.tmp 10) (.const (.int .i64 0)) t10 (.int .i64 0)) w (pk K) fun t11 w=>
 IfX t11 (K (.returned (.tuple #[(.string ⟨#[]⟩),(.int .i64 3)])) w) (LoopX [(.slice none 0 0),(.int .i64 0)] w (fun vs1 w N1=>∀_:Sg,S_foliantref01_Unhex_0 t0 (vs1.getD 0 undef) (vs1.getD 1 undef) w N1 K))
theorem S_foliantref01_Unhex_eq (t0:Value)(w:World)(K:Ending→World→Prop):wpX prog 43 [] [(5,[4,5])] none (bodyOf Tryz.f193) (topQ prog [.tmp 2,.tmp 3] K) (startX [t0]) [] w=S_foliantref01_Unhex t0 w K:=by kernel_rfl
theorem S_foliantref01_Unhex_ok {t0:Value}{w:World}{K:Ending→World→Prop}(h:S_foliantref01_Unhex t0 w K):Calls prog 193 #[t0] w K:=
 calls_of_wpX Tryz.func193 rfl rfl rfl rfl (Eq.mpr (S_foliantref01_Unhex_eq t0 w K) h)
def S_foliantref01_Begins (t0 t1 t2:Value)(w:World)(K:Ending→World→Prop):Prop:=
 DoX prog (mBin .geq 3 t2 (.int .i64 0)) w (pk K) fun t8 w=>
 GDo t8 true (fun E=>E t2 w) w fun t10 w=>
 GDo t8 true (fun E=>E t0 w) w fun t11 w=>
 GDo t8 true (fun E=>DoX prog (mB .len #[9] 3 #[false] #[t11]) w (pk K) E) w fun t12 w=>
 GDo t8 true (fun E=>DoX prog (mBin .leq 3 t10 t12) w (pk K) E) w fun t13 w=>
 DoX prog (mPick t8 t13 (.bool false)) w (pk K) fun t14 w=>
 GDo t14 true (fun E=>E t1 w) w fun t16 w=>
 GDo t14 true (fun E=>DoX prog (mB .len #[9] 3 #[false] #[t16]) w (pk K) E) w fun t17 w=>
 GDo t14 true (fun E=>E t0 w) w fun t18 w=>
 GDo t14 true (fun E=>DoX prog (mB .len #[9] 3 #[false] #[t18]) w (pk K) E) w fun t19 w=>
 GDo t14 true (fun E=>E t2 w) w fun t20 w=>
 GDo t14 true (fun E=>DoX prog (mBin .sub 3 t19 t20) w (pk K) E) w fun t21 w=>
 GDo t14 true (fun E=>DoX prog (mBin .leq 3 t17 t21) w (pk K) E) w fun t22 w=>
 DoX prog (mPick t14 t22 (.bool false)) w (pk K) fun t23 w=>
 GDo t23 true (fun E=>E t0 w) w fun t25 w=>
 GDo t23 true (fun E=>E t2 w) w fun t26 w=>
 GDo t23 true (fun E=>E t2 w) w fun t27 w=>
 GDo t23 true (fun E=>E t1 w) w fun t28 w=>
 GDo t23 true (fun E=>DoX prog (mB .len #[9] 3 #[false] #[t28]) w (pk K) E) w fun t29 w=>
 GDo t23 true (fun E=>DoX prog (mBin .add 3 t27 t29) w (pk K) E) w fun t30 w=>
 GDo t23 true (fun E=>DoX prog (mSlice 9 t25 (some t26) (some t30) none) w (pk K) E) w fun t31 w=>
 GDo t23 true (fun E=>E t1 w) w fun t32 w=>
 GDo t23 true (fun E=>DoX prog (mEq .eql 9 (.tmp 31) (.tmp 32) t31 t32) w (pk K) E) w fun t33 w=>
 DoX prog (mPick t23 t33 (.bool false)) w (pk K) fun t34 w=>
 K (.returned t34) w
theorem S_foliantref01_Begins_eq (t0 t1 t2:Value)(w:World)(K:Ending→World→Prop):wpX prog 35 [] [] none (bodyOf Tryz.f22) (topQ prog [.tmp 6] K) (startX [t0,t1,t2]) [] w=S_foliantref01_Begins t0 t1 t2 w K:=by kernel_rfl
theorem S_foliantref01_Begins_ok {t0 t1 t2:Value}{w:World}{K:Ending→World→Prop}(h:S_foliantref01_Begins t0 t1 t2 w K):Calls prog 22 #[t0,t1,t2] w K:=
 calls_of_wpX Tryz.func22 rfl rfl rfl rfl (Eq.mpr (S_foliantref01_Begins_eq t0 t1 t2 w K) h)
def S_foliantref01_Line_0 (t0 t5:Value)(w:World)(N1:List Value→World→Prop)(K:Ending→World→Prop):Prop:=
 DoX prog (mB .len #[9] 3 #[false] #[t0]) w (pk K) fun t18 w=>
 DoX prog (mBin .lss 3 t5 t18) w (pk K) fun t19 w=>
 IfX t19 (CallX prog 22 #[t0,(.string ⟨#[13,10]⟩),t5] w (pk K) fun t24 w=>
 IfX t24 (DoX prog (mBin .add 3 t5 (.int .i64 2)) w (pk K) fun t26 w=>
 K (.returned t26) w) (DoX prog (mIx 9 t0 t5) w (pk K) fun t29 w=>
 DoX prog (mEq .eql 5 (.tmp 29) (.const (.int .u8 13)) t29 (.int .u8 13)) w (pk K) fun t30 w=>
 GDo t30 false (fun E=>E t0 w) w fun t32 w=>
 GDo t30 false (fun E=>E t5 w) w fun t33 w=>
 GDo t30 false (fun E=>DoX prog (mIx 9 t32 t33) w (pk K) E) w fun t34 w=>
 GDo t30 false (fun E=>DoX prog (mEq .eql 5 (.tmp 34) (.const (.int .u8 10)) t34 (.int .u8 10)) w (pk K) E) w fun t35 w=>
 DoX prog (mPick t30 (.bool true) t35) w (pk K) fun t36 w=>
 IfX t36 (DoX prog (mBin .add 3 t5 (.int .i64 1)) w (pk K) fun t38 w=>
 K (.returned t38) w) (DoX prog (mBin .add 3 t5 (.int .i64 1)) w (pk K) fun t21 w=>
 N1 [t21] w))) (DoX prog (mB .len #[9] 3 #[false] #[t0]) w (pk K) fun t40 w=>
 K (.returned t40) w)
def S_foliantref01_Line (t0 t1:Value)(w:World)(K:Ending→World→Prop):Prop:=
 DoX prog (mBin .lss 3 t1 (.int .i64 0)) w (pk K) fun t7 w=>
 GDo t7 false (fun E=>E t1 w) w fun t9 w=>
 GDo t7 false (fun E=>E t0 w) w fun t10 w=>
 GDo t7 false (fun E=>DoX prog (mB .len #[9] 3 #[false] #[t10]) w (pk K) E) w fun t11 w=>
 GDo t7 false (fun E=>DoX prog (mBin .gtr 3 t9 t11) w (pk K) E) w fun t12 w=>
 DoX prog (mPick t7 (.bool true) t12) w (pk K) fun t13 w=>
 IfX t13 (K (.returned t1) w) (LoopX [t1] w (fun vs1 w N1=>∀_:Sg,S_foliantref01_Line_0 t0 (vs1.getD 0 undef) w N1 K))
theorem S_foliantref01_Line_eq (t0 t1:Value)(w:World)(K:Ending→World→Prop):wpX prog 41 [] [(4,[5])] none (bodyOf Tryz.f122) (topQ prog [.tmp 4] K) (startX [t0,t1]) [] w=S_foliantref01_Line t0 t1 w K:=by kernel_rfl
theorem S_foliantref01_Line_ok {t0 t1:Value}{w:World}{K:Ending→World→Prop}(h:S_foliantref01_Line t0 t1 w K):Calls prog 122 #[t0,t1] w K:=
 calls_of_wpX Tryz.func122 rfl rfl rfl rfl (Eq.mpr (S_foliantref01_Line_eq t0 t1 w K) h)
def S_foliantref01_Skip_0 (t0 t1:Value)(w:World)(N1:List Value→World→Prop)(K:Ending→World→Prop):Prop:=
 DoX prog (mB .len #[9] 3 #[false] #[t0]) w (pk K) fun t16 w=>
 DoX prog (mBin .lss 3 t1 t16) w (pk K) fun t17 w=>
 IfX t17 (DoX prog (mIx 9 t0 t1) w (pk K) fun t20 w=>
 DoX prog (mEq .eql 5 (.tmp 20) (.const (.int .u8 37)) t20 (.int .u8 37)) w (pk K) fun t21 w=>
 IfX t21 (CallX prog 122 #[t0,t1] w (pk K) fun t24 w=>
 N1 [t24] w) (DoX prog (mIx 9 t0 t1) w (pk K) fun t27 w=>
 CallX prog 123 #[t27] w (pk K) fun t28 w=>
 IfX t28 (DoX prog (mBin .add 3 t1 (.int .i64 1)) w (pk K) fun t30 w=>
 N1 [t30] w) (K (.returned t1) w))) (K (.returned t1) w)
def S_foliantref01_Skip (t0 t1:Value)(w:World)(K:Ending→World→Prop):Prop:=
 DoX prog (mBin .lss 3 t1 (.int .i64 0)) w (pk K) fun t6 w=>
 GDo t6 false (fun E=>E t1 w) w fun t8 w=>
 GDo t6 false (fun E=>E t0 w) w fun t9 w=>
 GDo t6 false (fun E=>DoX prog (mB .len #[9] 3 #[false] #[t9]) w (pk K) E) w fun t10 w=>
 GDo t6 false (fun E=>DoX prog (mBin .gtr 3 t8 t10) w (pk K) E) w fun t11 w=>
 DoX prog (mPick t6 (.bool true) t11) w (pk K) fun t12 w=>
 IfX t12 (K (.returned t1) w) (LoopX [t1] w (fun vs1 w N1=>∀_:Sg,S_foliantref01_Skip_0 t0 (vs1.getD 0 undef) w N1 K))
theorem S_foliantref01_Skip_eq (t0 t1:Value)(w:World)(K:Ending→World→Prop):wpX prog 33 [] [(3,[1])] none (bodyOf Tryz.f70) (topQ prog [.tmp 4] K) (startX [t0,t1]) [] w=S_foliantref01_Skip t0 t1 w K:=by kernel_rfl
theorem S_foliantref01_Skip_ok {t0 t1:Value}{w:World}{K:Ending→World→Prop}(h:S_foliantref01_Skip t0 t1 w K):Calls prog 70 #[t0,t1] w K:=
 calls_of_wpX Tryz.func70 rfl rfl rfl rfl (Eq.mpr (S_foliantref01_Skip_eq t0 t1 w K) h)
end
section
open Eng Go.RowKit
 attribute [local congr] g_congr in
theorem rdigit_ret (c:UInt8)(w:World):Ret prog 191 #[.int .u8 c.toNat] w (fun v w'=>v=.int .i64 (Lx.digit c)∧w=w'):=by
  refine ret_of fun K hK=>S_foliantref01_Digit_ok ?_;unfold S_foliantref01_Digit;have h256:=c.toNat_lt;simp +contextual only[rs,gs];by_cases h1:48≤c.toNat∧c.toNat≤57
  ·have hb:(decide ((48:Int)≤(c.toNat:Int))&&decide ((c.toNat:Int)≤57))=true:=by simp;omega
   simp only[hb,i_t];rw[c_64 (by omega) (by omega),b_sub,wrap64_id (by omega) (by omega)];exact hK _ _ ⟨by rw[Lx.digit,if_pos h1],rfl⟩
  have hb:(decide ((48:Int)≤(c.toNat:Int))&&decide ((c.toNat:Int)≤57))=false:=by
   rw[Bool.and_eq_false_iff,decide_eq_false_iff_not,decide_eq_false_iff_not];omega
  simp only[hb,i_f];by_cases h2:65≤c.toNat∧c.toNat≤70
  ·have hb:(decide ((65:Int)≤(c.toNat:Int))&&decide ((c.toNat:Int)≤70))=true:=by simp;omega
   simp only[hb,i_t];rw[c_64 (by omega) (by omega),b_sub,wrap64_id (by omega) (by omega),b_add,wrap64_id (by omega) (by omega)];exact hK _ _ ⟨by rw[Lx.digit,if_neg h1,if_pos h2],rfl⟩
  have hb:(decide ((65:Int)≤(c.toNat:Int))&&decide ((c.toNat:Int)≤70))=false:=by
   rw[Bool.and_eq_false_iff,decide_eq_false_iff_not,decide_eq_false_iff_not];omega
  simp only[hb,i_f];by_cases h3:97≤c.toNat∧c.toNat≤102
  ·have hb:(decide ((97:Int)≤(c.toNat:Int))&&decide ((c.toNat:Int)≤102))=true:=by simp;omega
   simp only[hb,i_t];rw[c_64 (by omega) (by omega),b_sub,wrap64_id (by omega) (by omega),b_add,wrap64_id (by omega) (by omega)];exact hK _ _ ⟨by rw[Lx.digit,if_neg h1,if_neg h2,if_pos h3],rfl⟩
  have hb:(decide ((97:Int)≤(c.toNat:Int))&&decide ((c.toNat:Int)≤102))=false:=by
   rw[Bool.and_eq_false_iff,decide_eq_false_iff_not,decide_eq_false_iff_not];omega
  simp only[hb,i_f];exact hK _ _ ⟨by rw[Lx.digit,if_neg h1,if_neg h2,if_neg h3],rfl⟩
 attribute [local congr] g_congr in
theorem runhex_ret (s:List UInt8)(w:World)(hs:s.length≤1099511627776):Ret prog 193 #[.string ⟨s.toArray⟩] w (fun v w'=>v=.tuple #[.string ⟨(Lx.unhexE s).1.toArray⟩,.int .i64 (Lx.unhexE s).2]∧Below w.heap.size w w'):=by
  refine ret_of fun K hK=>S_foliantref01_Unhex_ok ?_;unfold S_foliantref01_Unhex;rw[s_len Tryz.underlying9,b_rem (by omega)];have hr:((s.length:Int).tmod 2)=((s.length % 2:Nat):Int):=by rw[Int.tmod_eq_emod_of_nonneg (by omega)];omega
  rw[hr];by_cases hodd:s.length % 2=1
  ·rw[hodd];have hu:¬((1:Nat):Int)=0:=by omega
   simp only[rs,hu,decide_true,decide_not,decide_false,Bool.not_false];exact hK _ _ ⟨by rw[unhexE_none (unhex_odd _ s (Nat.le_refl _) hodd)],(Own.start w).done⟩
  have heven:s.length % 2=0:=by omega
  rw[heven];simp only[rs,ne_eq,Int.natCast_zero,not_true,decide_false];refine loop (fun vs w'=>∃(i:Nat) (v:Value) (acc:List UInt8),vs=[v,.int .i64 i]∧i≤s.length∧i % 2=0∧acc.length≤i∧Lx.unhex s=(Lx.unhex (s.drop i)).map (acc++·)∧Own w w' [BRow v acc])
   (fun vs _=>s.length - n1 vs) ⟨0,_,[],rfl,by omega,rfl,by simp,by simp,(Own.start w).nilRow _ 1⟩ ?_
  rintro vs w2 ⟨i,v,acc,rfl,hi,hi0,ha,he,ho⟩ _;simp only[S_foliantref01_Unhex_0,gd,s_len Tryz.underlying9];rw[b_lss];by_cases hlt:(i:Int) < (s.length:Int)
  ·have hi2:i+1 < s.length:=by omega
   have hi3:i < s.length:=by omega
   simp only[hlt,decide_true,i_t];have b1:=Lx.digit_bd s[i];have b2:=Lx.digit_bd s[i+1];have hw1:IntKind.wrap .i64 ((i:Int)+1)=((i+1:Nat):Int):=by rw[wrap64_id (by omega) (by omega)];omega
   have hc1:s[(i:Int).toNat]?=some s[i]:=by simp[hi3]
   have hc2:s[((i+1:Nat):Int).toNat]?=some s[i+1]:=by rw[Int.toNat_natCast];simp[hi2]
   refine quiet (q_do _ (fun w=>run_s_ix (c:=s[i]) Tryz.underlying9 (Int.natCast_nonneg i) hc1) ?_);refine q_call (.int .i64 (Lx.digit s[i])) (fun w hb=>ret_same (rdigit_ret s[i] w) hb) ?_;refine q_do (.int .i64 ((i+1:Nat):Int)) (fun w=>by rw[r_add,hw1]) ?_;refine q_do _ (fun w=>run_s_ix (c:=s[i+1]) Tryz.underlying9 (Int.natCast_nonneg _) hc2) ?_;refine q_call (.int .i64 (Lx.digit s[i+1])) (fun w hb=>ret_same (rdigit_ret s[i+1] w) hb) ?_;intro w3 hb3;have ho:=ho.grow hb3;rw[unhex_step hi2] at he;simp +contextual only[rs,gs];by_cases hbad:Lx.digit s[i] < 0∨Lx.digit s[i+1] < 0
   ·have hb:(decide (Lx.digit s[i] < 0)||decide (Lx.digit s[i+1] < 0))=true:=by simpa using hbad
    simp only[hb,i_t];rw[if_pos hbad] at he;exact hK _ _ ⟨by rw[unhexE_none he],ho.done⟩
   have hb:(decide (Lx.digit s[i] < 0)||decide (Lx.digit s[i+1] < 0))=false:=by simpa using hbad
   simp only[hb,i_f];rw[if_neg hbad] at he;rw[wrap64_id (n:=16*Lx.digit s[i]) (by omega) (by omega),wrap64_id (by omega) (by omega),c_8,wrap8_id (by omega) (by omega)];refine o_app1 (Lx.byte (Lx.digit s[i]) (Lx.digit s[i+1])) (byte_nat (by omega) (by omega) (by omega) (by omega)) ho (by omega) fun v' w4 ho=>?_;rw[wrap64_id (by omega) (by omega)];refine nextX ⟨i+2,v',_,rfl,by omega,by omega,by simp;omega,?_,ho⟩ (by simp[n1,RowKit.intOf];omega);rw[he,Option.map_map]
   congr 1
   funext x;simp
  ·have hi2:i=s.length:=by omega
   subst hi2;simp only[hlt,decide_false,i_f];rw[o_strB 0 ho rfl];rw[List.drop_length,Lx.unhex,Option.map_some,List.append_nil] at he;exact hK _ _ ⟨by rw[unhexE_some he],ho.done⟩
theorem prefix_take (p l:List UInt8):p.isPrefixOf l=(decide (p.length≤l.length)&&decide (l.take p.length=p)):=by
 rw[Bool.eq_iff_iff,List.isPrefixOf_iff_prefix,List.prefix_iff_eq_take];simp only[Bool.and_eq_true,decide_eq_true_eq];constructor
 ·intro h;have:=congrArg List.length h;rw[List.length_take] at this;exact⟨by omega,h.symm⟩
 ·intro h;exact h.2.symm
theorem rbegins_ret (s p:List UInt8)(k:Int)(w:World)(hs:s.length≤1099511627776):Ret prog 22 #[.string ⟨s.toArray⟩,.string ⟨p.toArray⟩,.int .i64 k] w (fun v w'=>v=.bool (begins s p k)∧w=w'):=by
 refine ret_of fun K hK=>S_foliantref01_Begins_ok ?_;unfold S_foliantref01_Begins;by_cases h1:0≤k
 ·simp only[rs,h1,decide_true,s_len Tryz.underlying9];by_cases h2:k≤(s.length:Int)
  ·simp only[rs,h2,decide_true,s_len Tryz.underlying9];rw[wrap64_id (by omega) (by omega)];have hpt:=prefix_take p (s.drop k.toNat);rw[List.length_drop] at hpt;by_cases h3:(p.length:Int)≤(s.length:Int) - k
   ·simp only[rs,h3,decide_true,s_len Tryz.underlying9];rw[wrap64_id (by omega) (by omega),s_slice Tryz.underlying9 h1 (by omega) (by omega),show (k+(p.length:Int)).toNat - k.toNat=p.length by omega];simp only[rs];rw[decide_eq_true (show p.length≤s.length - k.toNat by omega),Bool.true_and] at hpt;exact hK _ _ ⟨by simp only[begins,h1,h2,decide_true,Bool.true_and,hpt],rfl⟩
   ·simp only[rs,h3,decide_false,g_un];rw[decide_eq_false (show ¬p.length≤s.length - k.toNat by omega),Bool.false_and] at hpt;exact hK _ _ ⟨by simp only[begins,h1,h2,decide_true,Bool.true_and,hpt],rfl⟩
  ·simp only[rs,h2,decide_false,g_un];exact hK _ _ ⟨by simp[begins,h2],rfl⟩
 ·simp only[rs,h1,decide_false,g_un];exact hK _ _ ⟨by simp[begins,h1],rfl⟩
theorem not13_begins (s:List UInt8)(k:Nat)(hk:k < s.length)(h:s[k]≠13):begins s [13,10] (k:Int)=false:=by
 unfold begins;rw[Int.toNat_natCast,Lx.drop_cons hk];have:((13:UInt8)==s[k])=false:=by simpa using fun e:13=s[k]=>h e.symm
 simp[List.isPrefixOf,this]
theorem rline_ret (s:List UInt8)(k:Nat)(w:World)(hk:k≤s.length)(hs:s.length≤1099511627776):Ret prog 122 #[.string ⟨s.toArray⟩,.int .i64 k] w (fun v w'=>v=.int .i64 (Lx.line s k)∧w=w'):=by
 refine ret_of fun K hK=>S_foliantref01_Line_ok ?_;unfold S_foliantref01_Line;have h0:¬((k:Int) < 0):=by omega
 have h1:¬((s.length:Int) < (k:Int)):=by omega
 simp only[rs,h0,h1,decide_false,s_len Tryz.underlying9];refine loop (fun vs w'=>∃(i:Nat),vs=[.int .i64 i]∧i≤s.length∧Lx.line s i=Lx.line s k∧w=w') (fun vs _=>s.length - n0 vs) ⟨k,rfl,hk,rfl,rfl⟩ ?_;rintro vs w2 ⟨i,rfl,hi,he,rfl⟩ _;simp only[S_foliantref01_Line_0,gd,s_len Tryz.underlying9];rw[b_lss];by_cases hlt:(i:Int) < (s.length:Int)
 ·have hi2:i < s.length:=by omega
  simp only[hlt,decide_true,i_t];have hd:=Lx.drop_cons hi2;have e1:=u8d s[i] 13 13 rfl;have e2:=u8d s[i] 10 10 rfl;refine c_eq (rbegins_ret s [13,10] i w hs) ?_;by_cases g2:s[i]=13
  ·rw[crlf_begins s i hi2 g2];have g1:¬s[i]=10:=by rw[g2];decide
   by_cases g3:(s.drop (i+1)).head?=some 10
   ·simp only[decide_eq_true g3,i_t,rs];rw[wrap64_id (by omega) (by omega)];refine hK _ _ ⟨?_,rfl⟩;rw[←he,Lx.line,hd,Lx.lineF,if_neg g1,if_pos g2,if_pos g3];simp
   ·simp only[decide_eq_false g3,i_f,s_at hi2,rs,e1,decide_eq_true g2,g_un];rw[wrap64_id (by omega) (by omega)];refine hK _ _ ⟨?_,rfl⟩;rw[←he,Lx.line,hd,Lx.lineF,if_neg g1,if_pos g2,if_neg g3];simp
  rw[not13_begins s i hi2 g2];simp only[i_f,s_at hi2,rs,e1,decide_eq_false g2];by_cases g1:s[i]=10
  ·simp only[rs,s_at hi2,e2,decide_eq_true g1];rw[wrap64_id (by omega) (by omega)];refine hK _ _ ⟨?_,rfl⟩;rw[←he,Lx.line,hd,Lx.lineF,if_pos g1];simp
  simp only[rs,s_at hi2,e2,decide_eq_false g1];rw[wrap64_id (by omega) (by omega)];refine nextX ⟨i+1,rfl,by omega,?_,rfl⟩ (by simp[n0,RowKit.intOf];omega);rw[←he];simp only[Lx.line];rw[hd,Lx.lineF,if_neg g1,if_neg g2];omega
 ·have hi2:i=s.length:=by omega
  subst hi2;simp only[hlt,decide_false,i_f];refine hK _ _ ⟨?_,rfl⟩;rw[←he,Lx.line,List.drop_length];simp[Lx.lineF]
theorem rskip_ret (s:List UInt8)(k:Int)(w:World)(hs:s.length≤1099511627776):Ret prog 70 #[.string ⟨s.toArray⟩,.int .i64 k] w (fun v w'=>v=.int .i64 (Lx.skipI s k)∧w=w'):=by
 refine ret_of fun K hK=>S_foliantref01_Skip_ok ?_;unfold S_foliantref01_Skip;by_cases h0:k < 0
 ·simp only[rs,h0,decide_true,g_un];exact hK _ _ ⟨by rw[Lx.skipI,if_pos (.inl h0)],rfl⟩
 simp only[rs,h0,decide_false,s_len Tryz.underlying9];by_cases h1:(s.length:Int) < k
 ·simp only[rs,h1,decide_true];exact hK _ _ ⟨by rw[Lx.skipI,if_pos (.inr h1)],rfl⟩
 simp only[rs,h1,decide_false];have hsk:Lx.skipI s k=((Lx.skip s k.toNat:Nat):Int):=by rw[Lx.skipI,if_neg (by omega)]
 refine loop (fun vs w'=>∃(i:Nat),vs=[.int .i64 i]∧i≤s.length∧Lx.skip s i=Lx.skip s k.toNat∧w=w') (fun vs _=>s.length - n0 vs) ⟨k.toNat,by rw[Int.toNat_of_nonneg (by omega)],by omega,rfl,rfl⟩ ?_;rintro vs w2 ⟨i,rfl,hi,he,rfl⟩ _;simp only[S_foliantref01_Skip_0,gd,s_len Tryz.underlying9];rw[b_lss];by_cases hlt:(i:Int) < (s.length:Int)
 ·have hi2:i < s.length:=by omega
  have hd:=Lx.drop_cons hi2;simp only[hlt,decide_true,i_t,s_at hi2];have e1:=u8d s[i] 37 37 rfl;have hL:=Lx.lineF_le (s.drop i);have hP:=Lx.lineF_pos s[i] (s.drop (i+1));rw[←hd] at hP;rw[List.length_drop] at hL;by_cases g1:s[i]=37
  ·simp only[rs,e1,decide_eq_true g1];refine c_eq (rline_ret s i w (by omega) hs) ?_;refine nextX ⟨Lx.line s i,rfl,by unfold Lx.line;omega,?_,rfl⟩ (by simp[n0,RowKit.intOf,Lx.line];omega);rw[←he];simp only[Lx.skip];have e2:Lx.skipF false (s.drop i)=Lx.lineF (s.drop i)+Lx.skipF false ((s.drop i).drop (Lx.lineF (s.drop i))):=by
    rw[hd,Lx.skipF,if_pos g1,Lx.skipF_line,Lx.lineF,if_neg (by rw[g1];decide),if_neg (by rw[g1];decide),Nat.add_comm 1 (Lx.lineF _),List.drop_succ_cons];omega
   rw[e2,List.drop_drop,Lx.line];omega
  simp only[rs,e1,decide_eq_false g1,s_at hi2];refine c_eq (rwhite_ret s[i] w) ?_;cases hw:Oc.white s[i] with
 |true=>
   simp only[rs];rw[wrap64_id (by omega) (by omega)];refine nextX ⟨i+1,rfl,by omega,?_,rfl⟩ (by simp[n0,RowKit.intOf];omega);rw[←he];simp only[Lx.skip];rw[hd,Lx.skipF,if_neg g1,if_pos hw];omega
 |false=>
   simp only[rs];refine hK _ _ ⟨?_,rfl⟩;rw[hsk,←he,Lx.skip,hd,Lx.skipF,if_neg g1,if_neg (by simp[hw])];simp
 ·have hi2:i=s.length:=by omega
  subst hi2;simp only[hlt,decide_false,i_f];refine hK _ _ ⟨?_,rfl⟩;rw[hsk,←he,Lx.skip,List.drop_length];simp[Lx.skipF]
end
end Go.Proofs.YtjloddgofmdmgaaGreatDoor



namespace Go.Proofs.YtjloddgofmdmgaaGreatDoor
section
open Eng Go.RowKit
theorem rrun_ret (s:List UInt8)(i:Nat)(w:World)(hs:s.length≤1099511627776)(h:i≤s.length):Ret prog 124 #[.string ⟨s.toArray⟩,.int .i64 i] w (fun v w'=>v=.int .i64 (Lx.run s i)∧w=w'):=by
 refine ret_of fun K hK=>S_foliantref03_Run_ok ?_;unfold S_foliantref03_Run;refine loop (fun vs w'=>∃(j:Nat),vs=[.int .i64 j]∧j≤s.length∧Lx.run s j=Lx.run s i∧w=w') (fun vs _=>s.length - n0 vs) ⟨i,rfl,h,rfl,rfl⟩ ?_;rintro vs w2 ⟨j,rfl,hj,he,rfl⟩ _;simp only[S_foliantref03_Run_0,gd,s_len Tryz.underlying9];rw[b_lss];by_cases hlt:(j:Int) < (s.length:Int)
 ·have hi2:j < s.length:=by omega
  have hd:=Lx.drop_cons hi2;simp only[hlt,decide_true,rs,s_at hi2];refine c_eq (rregular_ret s[j] w) ?_;cases hr:Oc.regular s[j] with
 |true=>
   simp only[rs];rw[wrap64_id (by omega) (by omega)];refine nextX ⟨j+1,rfl,by omega,?_,rfl⟩ (by simp[n0,RowKit.intOf];omega);rw[←he,Lx.run,Lx.run,hd,Lx.runF,if_pos hr];omega
 |false=>
   simp only[rs];refine hK _ _ ⟨?_,rfl⟩;rw[←he,Lx.run,hd,Lx.runF,if_neg (by simp[hr])];simp
 ·have hi2:j=s.length:=by omega
  subst hi2;simp only[hlt,decide_false,rs,g_un];refine hK _ _ ⟨?_,rfl⟩;rw[←he,Lx.run,List.drop_length];simp[Lx.runF]
theorem all_drop {s:List UInt8}{p:UInt8→Bool}{i:Nat}(h:i < s.length):(s.drop i).all p=(p s[i]&&(s.drop (i+1)).all p):=by
 rw[Lx.drop_cons h,List.all_cons]
theorem rinteger_ret (s:List UInt8)(w:World)(hs:s.length≤1099511627776):Ret prog 195 #[.string ⟨s.toArray⟩] w (fun v w'=>v=.bool (Lx.intForm s)∧w=w'):=by
 refine ret_of fun K hK=>S_foliantref03_Integer_ok ?_;unfold S_foliantref03_Integer;refine join fun J hJ=>?_;have fin:J [.string ⟨(Lx.unsign s).toArray⟩] w:=by
  refine hJ _ _ fun _=>?_;simp only[gd];have hu:(Lx.unsign s).length≤s.length:=by
   cases s with
  |nil=>simp[Lx.unsign]
  |cons c t=>simp only[Lx.unsign];split<;>simp
  have hI:Lx.intForm s=(!(Lx.unsign s).isEmpty&&(Lx.unsign s).all Lx.dig):=rfl;rw[hI] at hK;generalize Lx.unsign s=u at *;unfold S_foliantref03_Integer_0;refine loop (fun vs w'=>∃(i:Nat),vs=[.int .i64 i]∧i≤u.length∧u.all Lx.dig=(u.drop i).all Lx.dig∧w=w') (fun vs _=>u.length - n0 vs) ⟨0,rfl,by omega,rfl,rfl⟩ ?_;rintro vs w2 ⟨i,rfl,hi,he,rfl⟩ _;simp only[S_foliantref03_Integer_1,gd,s_len Tryz.underlying9];rw[b_lss];by_cases hlt:(i:Int) < (u.length:Int)
  ·have hi2:i < u.length:=by omega
   have hne:u.isEmpty=false:=by cases u with|nil=>simp at hi2|cons=>rfl
   simp only[hlt,decide_true,i_t,s_at hi2];rw[all_drop hi2] at he;by_cases h1:(u[i].toNat:Int) < 48
   ·simp only[rs,h1,decide_true,g_un];have hd:Lx.dig u[i]=false:=by simp[Lx.dig];omega
    exact hK _ _ ⟨by rw[he,hd,hne];rfl,rfl⟩
   ·by_cases h2:(57:Int) < (u[i].toNat:Int)
    ·simp only[rs,h1,decide_false,s_at hi2,h2,decide_true];have hd:Lx.dig u[i]=false:=by simp[Lx.dig];omega
     exact hK _ _ ⟨by rw[he,hd,hne];rfl,rfl⟩
    ·simp only[rs,h1,decide_false,s_at hi2,h2];have hd:Lx.dig u[i]=true:=by simp[Lx.dig];omega
     rw[hd,Bool.true_and] at he;rw[wrap64_id (by omega) (by omega)];exact nextX ⟨i+1,rfl,by omega,he,rfl⟩ (by simp[n0,RowKit.intOf];omega)
  ·have hi2:i=u.length:=by omega
   rw[show (⟨#[]⟩:ByteArray)=⟨([]:List UInt8).toArray⟩ from rfl];simp only[hlt,decide_false,i_f,rs];rw[hi2,List.drop_length,List.all_nil] at he;refine hK _ _ ⟨?_,rfl⟩;rw[he,Bool.and_true];cases u with
  |nil=>rfl
  |cons=>rfl
 rw[show (⟨#[]⟩:ByteArray)=⟨([]:List UInt8).toArray⟩ from rfl];cases s with
|nil=>
  simp only[rs,ne_eq,not_true,decide_false,g_un];exact fin
|cons c t=>
  have hx:∀{PK K},DoX prog (mIx 9 (.string ⟨(c::t).toArray⟩) (.int .i64 0)) w PK K=K (.int .u8 (c.toNat:Int)) w:=s_ix (c:=c) Tryz.underlying9 (by omega) rfl;have e1:=u8d c 43 43 rfl;have e2:=u8d c 45 45 rfl;have hne:((c::t)≠([]:List UInt8)):=List.cons_ne_nil _ _;simp only[rs,decide_eq_true hne,hx,e1];by_cases h1:c=43
  ·simp only[rs,decide_eq_true h1,g_un];rw[s_from Tryz.underlying9 (by omega) (by simp;omega)];have:Lx.unsign (c::t)=t:=by simp[Lx.unsign,Lx.sgn,h1]
   rw[this] at fin;exact fin
  ·simp only[rs,decide_eq_false h1,hx,e2];by_cases h2:c=45
   ·simp only[rs,decide_eq_true h2];rw[s_from Tryz.underlying9 (by omega) (by simp;omega)];have:Lx.unsign (c::t)=t:=by simp[Lx.unsign,Lx.sgn,h2]
    rw[this] at fin;exact fin
   ·simp only[rs,decide_eq_false h2];have:Lx.unsign (c::t)=c::t:=by simp[Lx.unsign,Lx.sgn,h1,h2]
    rw[this] at fin;exact fin
theorem val_le (l:List UInt8):∀n,n≤Lx.val n l:=by
 induction l with
|nil=>intro n;unfold Lx.val;exact Nat.le_refl n
|cons c t ih=>
  intro n;have h:=ih (10*n+(c.toNat - 48));unfold Lx.val at h ⊢;rw[List.foldl_cons];omega
theorem rwhole_ret (s:List UInt8)(w:World)(hs:s.length≤1099511627776)(hf:Lx.intForm s=true):Ret prog 196 #[.string ⟨s.toArray⟩] w (fun v w'=>v=pair (Lx.whole s)∧w=w'):=by
 refine ret_of fun K hK=>S_foliantref03_whole_ok ?_;unfold S_foliantref03_whole;have hall:(Lx.unsign s).all Lx.dig=true:=by
  rw[Lx.intForm,Bool.and_eq_true] at hf;exact hf.2
 obtain⟨c,t,rfl⟩:∃c t,s=c::t:=by
  cases s with
 |nil=>simp[Lx.intForm,Lx.unsign] at hf
 |cons c t=>exact⟨c,t,rfl⟩
 have hd1:∀x∈t,Lx.dig x=true:=by
  intro x hx;refine List.all_eq_true.1 hall x ?_;cases hc:Lx.sgn c with
 |true=>simpa[Lx.unsign,hc] using hx
 |false=>simp[Lx.unsign,hc,hx]
 have hd0:Lx.sgn c=false→Lx.dig c=true:=by
  intro hc;refine List.all_eq_true.1 hall c ?_;simp[Lx.unsign,hc]
 have ns:∀x,Lx.dig x=true→Lx.sgn x=false:=by
  intro x hx;cases h:Lx.sgn x with
 |false=>rfl
 |true=>rw[sgn_not_dig x h] at hx;cases hx
 have hval:∀i,1≤i→i≤(c::t).length→∀hi:i < (c::t).length,Lx.dig (c::t)[i]=true:=by
  intro i h1 _ hi;obtain⟨j,rfl⟩:∃j,i=j+1:=⟨i - 1,by omega⟩;rw[List.getElem_cons_succ];exact hd1 _ (List.getElem_mem _)
 -- what stands behind i
 let rest (i:Nat):List UInt8:=if i=0 then Lx.unsign (c::t) else (c::t).drop i
 refine loop (fun vs w'=>∃(i n:Nat),vs=[.int .i64 n,.int .i64 i]∧i≤(c::t).length∧n≤2147483647∧Lx.val 0 (Lx.unsign (c::t))=Lx.val n (rest i)∧w=w') (fun vs _=>(c::t).length - n1 vs) ⟨0,0,rfl,by omega,by omega,rfl,rfl⟩ ?_;rintro vs w2 ⟨i,n,rfl,hi,hn,he,rfl⟩ _;simp only[S_foliantref03_whole_0,gd,s_len Tryz.underlying9];rw[b_lss];by_cases hlt:(i:Int) < ((c::t).length:Int)
 ·have hi2:i < (c::t).length:=by omega
  simp only[hlt,decide_true,i_t];refine join fun J hJ=>?_;simp only[s_at hi2];have e1:=u8d (c::t)[i] 43 43 rfl;have e2:=u8d (c::t)[i] 45 45 rfl;have go:∀n':Nat,n'≤2147483647→Lx.val 0 (Lx.unsign (c::t))=Lx.val n' ((c::t).drop (i+1))→J [.int .i64 n'] w:=by
   intro n' h1 h2;refine hJ _ _ fun _=>?_;simp only[S_foliantref03_whole_1,gd,rs];rw[wrap64_id (by omega) (by omega)];exact nextX ⟨i+1,n',rfl,by omega,h1,h2,rfl⟩ (by simp[n1,RowKit.intOf] at hi2 ⊢;omega)
  have skip:Lx.sgn (c::t)[i]=true→J [.int .i64 n] w:=by
   intro h;rcases Nat.eq_zero_or_pos i with rfl|h0
   ·refine go n hn ?_;rw[he];have hc:Lx.sgn c=true:=h;simp[rest,Lx.unsign,hc]
   ·rw[ns _ (hval i h0 hi hi2)] at h;cases h
  by_cases h1:(c::t)[i]=43
  ·simp only[rs,e1,decide_eq_true h1,g_un];exact skip (by rw[h1];rfl)
  simp only[rs,e1,decide_eq_false h1,s_at hi2];by_cases h2:(c::t)[i]=45
  ·simp only[rs,e2,decide_eq_true h2];exact skip (by rw[h2];rfl)
  simp only[rs,e2,decide_eq_false h2,s_at hi2];have hsg:Lx.sgn (c::t)[i]=false:=by simp only[Lx.sgn,h1,h2,decide_false,Bool.or_false]
  have hdg:Lx.dig (c::t)[i]=true:=by
   rcases Nat.eq_zero_or_pos i with rfl|h0
   ·exact hd0 hsg
   ·exact hval i h0 hi hi2
  have hd2:48≤(c::t)[i].toNat∧(c::t)[i].toNat≤57:=by simpa[Lx.dig] using hdg
  have hrest:rest i=(c::t)[i]::(c::t).drop (i+1):=by
   rcases Nat.eq_zero_or_pos i with rfl|h0
   ·have hc:Lx.sgn c=false:=hsg;simp[rest,Lx.unsign,hc]
   ·simp only[rest,if_neg (show ¬i=0 by omega)];exact Lx.drop_cons hi2
  have hstep:Lx.val n (rest i)=Lx.val (10*n+((c::t)[i].toNat - 48)) ((c::t).drop (i+1)):=by
   rw[hrest];unfold Lx.val;rw[List.foldl_cons]
  rw[wrap64_id (n:=10*(n:Int)) (by omega) (by omega),c_int (show (Tryz.prog.underlying 5).isSome=true by kernel_rfl) Tryz.underlying2,wrap64_id (n:=((c::t)[i].toNat:Int)) (by omega) (by omega)];simp only[rs];rw[wrap64_id (n:=10*(n:Int)+((c::t)[i].toNat:Int)) (by omega) (by omega),wrap64_id (by omega) (by omega)];rw[show 10*(n:Int)+((c::t)[i].toNat:Int) - 48=((10*n+((c::t)[i].toNat - 48):Nat):Int) by omega];by_cases hbig:(2147483647:Int) < ((10*n+((c::t)[i].toNat - 48):Nat):Int)
  ·simp only[hbig,decide_true,i_t];have hv:=val_le ((c::t).drop (i+1)) (10*n+((c::t)[i].toNat - 48));exact hK _ _ ⟨by rw[Lx.whole,if_pos (by rw[he,hstep];omega)],rfl⟩
  ·simp only[hbig,decide_false,i_f];exact go _ (by omega) (by rw[he,hstep])
 ·have hi2:i=(c::t).length:=by omega
  simp only[hlt,decide_false,i_f];have hr:rest i=[]:=by
   simp only[rest,if_neg (show ¬i=0 by rw[hi2];simp)];rw[hi2,List.drop_length]
  rw[hr] at he;have he:Lx.val 0 (Lx.unsign (c::t))=n:=he;refine join fun J hJ=>?_;rw[s_ix (c:=c) Tryz.underlying9 (by omega) rfl];have e1:=u8d c 45 45 rfl;by_cases h45:c=45
  ·simp only[rs,e1,decide_eq_true h45];refine hJ _ _ fun _=>?_;simp only[S_foliantref03_whole_2,gd];rw[wrap64_id (by omega) (by omega)];exact hK _ _ ⟨by rw[Lx.whole,if_neg (by omega),if_pos (by rw[h45];rfl),he],rfl⟩
  ·simp only[rs,e1,decide_eq_false h45];refine hJ _ _ fun _=>?_;simp only[S_foliantref03_whole_2,gd];exact hK _ _ ⟨by rw[Lx.whole,if_neg (by omega),if_neg (by simpa using h45),he],rfl⟩
end
section
open Eng Go.RowKit
theorem rpoint_ret (s:List UInt8)(w:World)(hs:s.length≤1099511627776):Ret prog 197 #[.string ⟨s.toArray⟩] w (fun v w'=>v=.bool (s.contains 46)∧w=w'):=by
 refine ret_of fun K hK=>S_foliantref03_point_ok ?_;unfold S_foliantref03_point;refine loop (fun vs w'=>∃(i:Nat),vs=[.int .i64 i]∧i≤s.length∧s.contains 46=(s.drop i).contains 46∧w=w') (fun vs _=>s.length - n0 vs) ⟨0,rfl,by omega,rfl,rfl⟩ ?_;rintro vs w2 ⟨i,rfl,hi,he,rfl⟩ _;simp only[S_foliantref03_point_0,gd,s_len Tryz.underlying9];rw[b_lss];by_cases hlt:(i:Int) < (s.length:Int)
 ·have hi2:i < s.length:=by omega
  simp only[hlt,decide_true,i_t,s_at hi2];rw[Lx.drop_cons hi2,List.contains_cons] at he;have e1:=u8d s[i] 46 46 rfl;by_cases h:s[i]=46
  ·simp only[rs,e1,decide_eq_true h];exact hK _ _ ⟨by rw[he,h];rfl,rfl⟩
  ·simp only[rs,e1,decide_eq_false h];have hb:((46:UInt8)==s[i])=false:=by simpa using fun e:46=s[i]=>h e.symm
   rw[hb,Bool.false_or] at he;rw[wrap64_id (by omega) (by omega)];exact nextX ⟨i+1,rfl,by omega,he,rfl⟩ (by simp[n0,RowKit.intOf];omega)
 ·have hi2:i=s.length:=by omega
  simp only[hlt,decide_false,i_f];rw[hi2,List.drop_length] at he;exact hK _ _ ⟨by rw[he];rfl,rfl⟩
def wordR (t:List UInt8):Lx.Tok×Int:=
 if Lx.intForm t then (⟨1,0,0,(Lx.whole t).1,[]⟩,(Lx.whole t).2)
 else if t.contains 46∧((Fx.read t).2=0∨(Fx.read t).2=2) then (⟨2,0,0,(Fx.read t).1,[]⟩,(Fx.read t).2)
 else if 127 < t.length then Lx.refused 5
 else (⟨5,0,0,0,t⟩,0)
theorem wordR_wordT (t:List UInt8)(a r:Int):Lx.wordT t a r=if (wordR t).2≠0 then Lx.refused (wordR t).2 else ({ (wordR t).1 with a:=a,t:=r },0):=by
 by_cases h1:Lx.intForm t=true
 ·have hW:wordR t=(⟨1,0,0,(Lx.whole t).1,[]⟩,(Lx.whole t).2):=by rw[wordR,if_pos h1]
  rw[hW,Lx.wordT,if_pos h1]
 by_cases h2:t.contains 46=true∧(Fx.read t).2=0
 ·have hW:wordR t=(⟨2,0,0,(Fx.read t).1,[]⟩,0):=by rw[wordR,if_neg h1,if_pos ⟨h2.1,.inl h2.2⟩,h2.2]
  rw[hW,Lx.wordT,if_neg h1,if_pos h2];simp
 by_cases h3:t.contains 46=true∧(Fx.read t).2=2
 ·have hW:wordR t=(⟨2,0,0,(Fx.read t).1,[]⟩,2):=by rw[wordR,if_neg h1,if_pos ⟨h3.1,.inr h3.2⟩,h3.2]
  rw[hW,Lx.wordT,if_neg h1,if_neg h2,if_pos h3];simp
 have hn:¬(t.contains 46=true∧((Fx.read t).2=0∨(Fx.read t).2=2)):=by
  rintro⟨h,h'|h'⟩
  ·exact h2 ⟨h,h'⟩
  ·exact h3 ⟨h,h'⟩
 rw[Lx.wordT,if_neg h1,if_neg h2,if_neg h3,Lx.told];by_cases h4:127 < t.length
 ·have hW:wordR t=Lx.refused 5:=by rw[wordR,if_neg h1,if_neg hn,if_pos h4]
  rw[hW,if_pos (by omega)];simp[Lx.refused]
 ·have hW:wordR t=(⟨5,0,0,0,t⟩,0):=by rw[wordR,if_neg h1,if_neg hn,if_neg h4]
  rw[hW,if_neg (by omega)];simp
theorem read_long {t:List UInt8}(h:508 < t.length):(Fx.read t).2=3:=by
 rw[Fx.read,if_neg];simp[Fx.form];omega
section
variable {w:World}{PK:PKT}{K:VWP}
theorem m_tok03 {k n:Int}:DoX prog (mBuild 90 #[(0,.int .i64 k),(3,.int .i64 n)]) w PK K=K (tokV ⟨k,0,0,n,[]⟩) w:=do_eq (by kernel_rfl)
theorem m_tok04 {k:Int}{s:List UInt8}:DoX prog (mBuild 90 #[(0,.int .i64 k),(4,.string ⟨s.toArray⟩)]) w PK K=K (tokV ⟨k,0,0,0,s⟩) w:=do_eq (by kernel_rfl)
theorem m_tok012 {k a t:Int}:DoX prog (mBuild 90 #[(0,.int .i64 k),(1,.int .i64 a),(2,.int .i64 t)]) w PK K=K (tokV ⟨k,a,t,0,[]⟩) w:=do_eq (by kernel_rfl)
end
theorem rlong_ret (s:List UInt8)(w:World)(hs:s.length≤1099511627776)(hl:508 < s.length):Ret prog 194 #[.string ⟨s.toArray⟩] w (fun v w'=>v=tokR (wordR s)∧Below w.heap.size w w'):=by
 refine ret_of fun K hK=>S_foliantref03_long_ok ?_;unfold S_foliantref03_long;refine o_tok (Own.start w) fun b w1 ho=>?_;refine c_eq (rinteger_ret s w1 hs) ?_;by_cases hi:Lx.intForm s=true
 ·simp only[hi,rs,Bool.not_true];refine c_eq (rwhole_ret s w1 hs hi) ?_;simp only[pair,ex,m_tok03];exact tok_put 0 ho rfl fun w' ho=>hK _ _ ⟨by rw[wordR,if_pos hi],ho.done⟩
 ·have hi':Lx.intForm s=false:=by simpa using hi
  simp only[hi',rs,Bool.not_false,m_tok0];refine tok_put 0 ho rfl fun w' ho=>hK _ _ ⟨?_,ho.done⟩;rw[wordR,if_neg hi,if_neg (by rw[read_long hl];rintro⟨_,h|h⟩<;>cases h),if_pos (by omega)];rfl
 attribute [local congr] g_congr in
theorem rword_ret (s:List UInt8)(w:World)(hs:s.length≤1099511627776):Ret prog 128 #[.string ⟨s.toArray⟩] w (fun v w'=>v=tokR (wordR s)∧Below w.heap.size w w'):=by
  refine ret_of fun K hK=>S_foliantref03_word_ok ?_;unfold S_foliantref03_word;refine o_tok (Own.start w) fun b w1 ho=>?_;by_cases hl:(508:Int) < (s.length:Int)
  ·simp only[s_len Tryz.underlying9,rs,hl,decide_true];exact tok_tail 0 ho rfl (rlong_ret s w1 hs (by omega)) fun w' hb=>hK _ _ ⟨rfl,hb⟩
  simp only[s_len Tryz.underlying9,rs,hl,decide_false];refine c_eq (rinteger_ret s w1 hs) ?_;by_cases hi:Lx.intForm s=true
  ·simp only[hi,i_t];refine c_eq (rwhole_ret s w1 hs hi) ?_;simp only[pair,ex,m_tok03];exact tok_put 0 ho rfl fun w' ho=>hK _ _ ⟨by rw[wordR,if_pos hi],ho.done⟩
  have hi':Lx.intForm s=false:=by simpa using hi
  simp only[hi',i_f];refine join fun J hJ=>?_;have fin:∀w2 n,Own w w2 [tokE b Lx.none_]→¬(s.contains 46=true∧((Fx.read s).2=0∨(Fx.read s).2=2))→J [.int .i64 n] w2:=by
   intro w2 n ho hn;refine hJ _ _ fun _=>?_;simp only[S_foliantref03_word_0,s_len Tryz.underlying9,rs];by_cases h:(127:Int) < (s.length:Int)
   ·simp only[h,decide_true,i_t,m_tok0];exact tok_put 0 ho rfl fun w' ho=>hK _ _ ⟨by rw[wordR,if_neg hi,if_neg hn,if_pos (by omega)];rfl,ho.done⟩
   ·simp only[h,decide_false,i_f,m_tok04];exact tok_put 0 ho rfl fun w' ho=>hK _ _ ⟨by rw[wordR,if_neg hi,if_neg hn,if_neg (by omega)],ho.done⟩
  refine c_eq (rpoint_ret s w1 hs) ?_;by_cases hp:s.contains 46=true
  ·simp only[hp,i_t];refine c_below ho (rread_ret s w1 (by omega)) ?_;rintro _ w2 rfl ho;simp only[pair,ex];by_cases h1:(Fx.read s).2=0∨(Fx.read s).2=2
   ·have hb:(decide ((Fx.read s).2=0)||decide ((Fx.read s).2=2))=true:=by simpa using h1
    simp +contextual only[rs,gs,hb,i_t,m_tok03];exact tok_put 0 ho rfl fun w' ho=>hK _ _ ⟨by rw[wordR,if_neg hi,if_pos ⟨hp,h1⟩],ho.done⟩
   ·have hb:(decide ((Fx.read s).2=0)||decide ((Fx.read s).2=2))=false:=by simpa using h1
    simp +contextual only[rs,gs,hb,i_f];exact fin _ _ ho fun h=>h1 h.2
  ·have hp':s.contains 46=false:=by simpa using hp
   simp only[hp',i_f];exact fin _ _ ho fun h=>hp h.1
def nameR (t:List UInt8):List UInt8×Int:=match Lx.nameF t with
|none=>([],3)
|some x=>if 127 < x.length then ([],5) else (x,0)
theorem nameF_hash {t:List UInt8}{i:Nat}(h:i < t.length)(h35:t[i]=35):Lx.nameF (t.drop i)=if h2:i+2 < t.length then (if Lx.digit t[i+1] < 0∨Lx.digit t[i+2] < 0∨16*Lx.digit t[i+1]+Lx.digit t[i+2]=0 then none else (Lx.nameF (t.drop (i+3))).map (Lx.byte (Lx.digit t[i+1]) (Lx.digit t[i+2])::·)) else none:=by
 rw[Lx.drop_cons h];by_cases h2:i+2 < t.length
 ·rw[dif_pos h2,Lx.drop_cons (show i+1 < t.length by omega),Lx.drop_cons (show i+1+1 < t.length by omega),Lx.nameF,if_pos h35]
 ·rw[dif_neg h2];cases hd:t.drop (i+1) with
 |nil=>simp[Lx.nameF,h35]
 |cons x u=>
   cases u with
  |nil=>simp[Lx.nameF,h35]
  |cons y u=>
    have:=congrArg List.length hd;simp at this;omega
 attribute [local congr] g_congr in
theorem rnamet_ret (t:List UInt8)(w:World)(hs:t.length≤1099511627776):Ret prog 125 #[.string ⟨t.toArray⟩] w (fun v w'=>v=.tuple #[.string ⟨(nameR t).1.toArray⟩,.int .i64 (nameR t).2]∧Below w.heap.size w w'):=by
  refine ret_of fun K hK=>S_foliantref03_name_ok ?_;unfold S_foliantref03_name;refine loop (fun vs w'=>∃(i:Nat) (v:Value) (acc:List UInt8),vs=[v,.int .i64 i]∧i≤t.length∧acc.length≤i∧Lx.nameF t=(Lx.nameF (t.drop i)).map (acc++·)∧Own w w' [BRow v acc])
   (fun vs _=>t.length - n1 vs) ⟨0,_,[],rfl,by omega,by simp,by simp,(Own.start w).nilRow _ 1⟩ ?_
  rintro vs w4 ⟨i,v,acc,rfl,hi,hacc,he,ho⟩ _;simp only[S_foliantref03_name_0,gd,s_len Tryz.underlying9];rw[b_lss];have bad:∀{w5},Own w w5 [BRow v acc]→Lx.nameF (t.drop i)=none→K (.returned (.tuple #[.string ⟨#[]⟩,.int .i64 3])) w5:=by
   intro w5 ho hn;rw[hn] at he;exact hK _ _ ⟨by rw[nameR,he];rfl,ho.done⟩
  by_cases hlt:(i:Int) < (t.length:Int)
  ·have hi3:i < t.length:=by omega
   simp only[hlt,decide_true,i_t,s_at hi3];have e1:=u8d t[i] 35 35 rfl;refine join fun J hJ=>?_;have fin:∀(j:Nat) (c:UInt8) (n:Int) (w5:World),(c.toNat:Int)=n→i≤j→j < t.length→Lx.nameF t=(Lx.nameF (t.drop (j+1))).map (acc++c::·)→Own w w5 [BRow v acc]→J [.int .i64 j,.int .u8 n] w5:=by
    intro j c n w5 hc hij hjt he ho;refine hJ _ _ fun _=>?_;simp only[S_foliantref03_name_1,gd];refine o_app1 c hc ho (by omega) fun v' w6 ho=>?_;rw[b_add,wrap64_id (by omega) (by omega)];refine nextX ⟨j+1,v',acc++[c],rfl,by omega,by simp;omega,?_,ho⟩ (by simp[n1,RowKit.intOf];omega);rw[he]
    congr 1
    funext x;simp
   by_cases h35:t[i]=35
   ·simp only[rs,e1,decide_eq_true h35,s_len Tryz.underlying9];rw[wrap64_id (by omega) (by omega)];have hnf:=nameF_hash hi3 h35;by_cases hend:(t.length:Int)≤(i:Int)+2
    ·simp only[hend,decide_true,i_t];rw[dif_neg (by omega)] at hnf;exact bad ho hnf
    ·simp only[hend,decide_false,i_f];have hi6:i+2 < t.length:=by omega
     have hi5:i+1 < t.length:=by omega
     rw[dif_pos hi6] at hnf;have b1:=Lx.digit_bd t[i+1];have b2:=Lx.digit_bd t[i+2];have hw1:IntKind.wrap .i64 ((i:Int)+1)=((i+1:Nat):Int):=by rw[wrap64_id (by omega) (by omega)];omega
     have hw2:IntKind.wrap .i64 ((i:Int)+2)=((i+2:Nat):Int):=by rw[wrap64_id (by omega) (by omega)];omega
     have hc1:t[((i+1:Nat):Int).toNat]?=some t[i+1]:=by rw[Int.toNat_natCast];simp[hi5]
     have hc2:t[((i+2:Nat):Int).toNat]?=some t[i+2]:=by rw[Int.toNat_natCast];simp[hi6]
     refine quiet (q_do (.int .i64 ((i+1:Nat):Int)) (fun w=>by rw[r_add,hw1]) ?_);refine q_do _ (fun w=>run_s_ix (c:=t[i+1]) Tryz.underlying9 (Int.natCast_nonneg _) hc1) ?_;refine q_call (.int .i64 (Lx.digit t[i+1])) (fun w hb=>ret_same (rdigit_ret t[i+1] w) hb) ?_;refine q_do (.int .i64 ((i+2:Nat):Int)) (fun w=>by rw[r_add,hw2]) ?_;refine q_do _ (fun w=>run_s_ix (c:=t[i+2]) Tryz.underlying9 (Int.natCast_nonneg _) hc2) ?_;refine q_call (.int .i64 (Lx.digit t[i+2])) (fun w hb=>ret_same (rdigit_ret t[i+2] w) hb) ?_;intro w5 hb;have ho:=ho.grow hb;have hw3:IntKind.wrap .i64 (16*Lx.digit t[i+1])=16*Lx.digit t[i+1]:=wrap64_id (by omega) (by omega);have hw4:IntKind.wrap .i64 (16*Lx.digit t[i+1]+Lx.digit t[i+2])=16*Lx.digit t[i+1]+Lx.digit t[i+2]:=wrap64_id (by omega) (by omega);simp +contextual only[rs,gs,hw3,hw4];by_cases hbad:Lx.digit t[i+1] < 0∨Lx.digit t[i+2] < 0∨16*Lx.digit t[i+1]+Lx.digit t[i+2]=0
     ·have hb2:(decide (Lx.digit t[i+1] < 0)||decide (Lx.digit t[i+2] < 0)||decide (16*Lx.digit t[i+1]+Lx.digit t[i+2]=0))=true:=by
       simpa[or_assoc] using hbad
      simp only[hb2,i_t];rw[if_pos hbad] at hnf;exact bad ho hnf
     ·have hb2:(decide (Lx.digit t[i+1] < 0)||decide (Lx.digit t[i+2] < 0)||decide (16*Lx.digit t[i+1]+Lx.digit t[i+2]=0))=false:=by
       rw[Bool.or_eq_false_iff,Bool.or_eq_false_iff];simp only[decide_eq_false_iff_not];exact⟨⟨fun h=>hbad (.inl h),fun h=>hbad (.inr (.inl h))⟩,fun h=>hbad (.inr (.inr h))⟩
      simp only[hb2,i_f];rw[if_neg hbad] at hnf;have hb0:=byte_nat (a:=Lx.digit t[i+1]) (b:=Lx.digit t[i+2]) (by omega) (by omega) (by omega) (by omega);rw[c_8,wrap8_id (by omega) (by omega)];refine fin (i+2) _ _ _ hb0 (by omega) (by omega) ?_ ho;rw[he,hnf,Option.map_map];rfl
   ·simp only[rs,e1,decide_eq_false h35];refine fin i t[i] _ _ rfl (by omega) hi3 ?_ ho;rw[he,Lx.drop_cons hi3,Lx.nameF_ne h35,Option.map_map];rfl
  ·have hi3:i=t.length:=by omega
   subst hi3;rw[List.drop_length,Lx.nameF,Option.map_some,List.append_nil] at he;simp only[hlt,decide_false,i_f,sl_len Tryz.underlying71 (ho.slRow 0 rfl),rs];by_cases h127:(127:Int) < (acc.length:Int)
   ·simp only[h127,decide_true,i_t];exact hK _ _ ⟨by rw[nameR,he];simp only;rw[if_pos (by omega)],ho.done⟩
   ·simp only[h127,decide_false,i_f,o_strB 0 ho rfl];exact hK _ _ ⟨by rw[nameR,he];simp only;rw[if_neg (by omega)],ho.done⟩
end
section
open Eng Go.RowKit
theorem o_appS {S:Nat→Prop}{w0 w:World}{L:List Ent}{v:Value}{l m:List UInt8}{cs:Array Bool}{PK:PKT}{K:VWP}
  (ho:OwnS S w0 w (BRow v l::L)) (hb:l.length+m.length≤140737488355328) (k:∀v' w',OwnS S w0 w' (BRow v' (l++m)::L)→K v' w') :
  DoX prog (mB .append #[71,9] 71 cs #[v,.string ⟨m.toArray⟩]) w PK K:=by
 refine o_append_str 0 Tryz.underlying71 Tryz.underlying9 (show elB prog 5 1 1=true by kernel_rfl) Tryz.underlying5 (by kernel_rfl) ho rfl (by omega) fun v' w5 _ h5=>?_;refine k v' w5 ?_;have e:BRow v' (l++m)=.row 5 1 v' (l.length+m.length) (bytesV l++bytesV m):=by
  rw[BRow,bytesV_append,List.length_append]
 rw[e];exact h5
def escs:List UInt8:=[110,114,116,98,102]
def escB:List UInt8:=[10,13,9,8,12]
theorem escL_hit:∀i:Fin 5,Lx.escL (escs[i.val]'(i.isLt))=some (escB[i.val]'(i.isLt)):=by decide
theorem escL_miss (c:UInt8)(h:∀j (hj:j < 5),escs[j]'hj≠c):Lx.escL c=none:=by
 have h0:(110:UInt8)≠c:=h 0 (by decide);have h1:(114:UInt8)≠c:=h 1 (by decide);have h2:(116:UInt8)≠c:=h 2 (by decide);have h3:(98:UInt8)≠c:=h 3 (by decide);have h4:(102:UInt8)≠c:=h 4 (by decide);have n:∀x:UInt8,x≠c→¬c=x:=fun x hx e=>hx e.symm;rw[Lx.escL,if_neg (n _ h0),if_neg (n _ h1),if_neg (n _ h2),if_neg (n _ h3),if_neg (n _ h4)]
theorem rescape_ret (s:List UInt8)(a:Nat)(w:World)(hs:s.length≤1099511627776)(h:a+1 < s.length):Ret prog 192 #[.string ⟨s.toArray⟩,.int .i64 a] w (fun v w'=>v=.tuple #[.string ⟨(Lx.escF (s.drop (a+1))).1.toArray⟩,.int .i64 ((a+1+(Lx.escF (s.drop (a+1))).2:Nat):Int)]∧Below w.heap.size w w'):=by
 refine ret_of fun K hK=>S_foliantref03_escape_ok ?_;unfold S_foliantref03_escape;have hw:∀k:Nat,k≤100→IntKind.wrap .i64 ((a:Int)+(k:Int))=((a+k:Nat):Int):=fun k hk=>by rw[wrap64_id (by omega) (by omega)];omega
 have hw1:IntKind.wrap .i64 ((a:Int)+1)=((a+1:Nat):Int):=hw 1 (by omega);have hw2:IntKind.wrap .i64 ((a:Int)+2)=((a+2:Nat):Int):=hw 2 (by omega);have hw3:IntKind.wrap .i64 ((a:Int)+3)=((a+3:Nat):Int):=hw 3 (by omega);have hw4:IntKind.wrap .i64 ((a:Int)+4)=((a+4:Nat):Int):=hw 4 (by omega);simp only[rs,hw1,s_at h];have hd:=Lx.drop_cons h;generalize hc:s[a+1]=c at *;refine loop (fun vs w'=>∃(i:Nat),vs=[.int .i64 i]∧i≤5∧(∀j (hj:j < 5),j < i→escs[j]'hj≠c)∧w=w') (fun vs _=>5 - n0 vs) ⟨0,rfl,by omega,fun j _ hj=>absurd hj (by omega),rfl⟩ ?_;rintro vs w2 ⟨i,rfl,hi,hmiss,rfl⟩ _;simp only[S_foliantref03_escape_0,gd];rw[show (⟨#[110,114,116,98,102]⟩:ByteArray)=⟨escs.toArray⟩ from rfl,show (⟨#[10,13,9,8,12]⟩:ByteArray)=⟨escB.toArray⟩ from rfl,s_len Tryz.underlying9,b_lss,show ((escs.length:Nat):Int)=5 from rfl];by_cases hlt:(i:Int) < 5
 ·have hi2:i < 5:=by omega
  have hi3:i < escs.length:=hi2;simp only[hlt,decide_true,i_t,s_at hi3];rw[e_int,show decide ((c.toNat:Int)=(escs[i].toNat:Int))=decide (c=escs[i]) from u8d c _ _ rfl];by_cases he:c=escs[i]
  ·simp only[decide_eq_true he,i_t,rs,hw2];rw[wrap64_id (by omega) (by omega),s_cut (s:=escB) (i:=i) (j:=i+1) rfl (by simp) (by omega) (by show i+1≤5;omega),cut_one (s:=escB) (i:=i) hi2];have hh:Lx.escL c=some (escB[i]'hi2):=by rw[he];exact escL_hit ⟨i,hi2⟩
   refine hK _ _ ⟨?_,(Own.start w).done⟩;rw[hd,Lx.escF,hh];rfl
  ·simp only[decide_eq_false he,i_f,rs];rw[wrap64_id (by omega) (by omega)];refine nextX ⟨i+1,rfl,by omega,?_,rfl⟩ (by simp[n0,RowKit.intOf];omega);intro j hj hji e;rcases Nat.lt_or_ge j i with h1|h1
   ·exact hmiss j hj h1 e
   ·have:j=i:=by omega
    subst this;exact he e.symm
 ·have hi2:i=5:=by omega
  have hl:Lx.escL c=none:=escL_miss c fun j hj=>hmiss j hj (by omega);simp only[hlt,decide_false,i_f];have e1:=u8d c 13 13 rfl;have e2:=u8d c 10 10 rfl;have hEol:∀n,Lx.eol c=true→Lx.lineF (c::s.drop (a+1+1))=n→Lx.escF (s.drop (a+1))=([],n):=by
   intro n h1 h2;rw[hd,Lx.escF,hl];simp only[h1,if_true,h2]
  by_cases g1:c=13
  ·have g10:¬c=10:=by rw[g1];decide
   have one:(¬(s.drop (a+1+1)).head?=some 10)→K (.returned (.tuple #[.string ⟨#[]⟩,.int .i64 ((a+2:Nat):Int)])) w:=by
    intro hh;refine hK _ _ ⟨?_,(Own.start w).done⟩;rw[hEol 1 (by simp[Lx.eol,g1]) (by rw[Lx.lineF,if_neg g10,if_pos g1,if_neg hh])];rfl
   by_cases g2:((a+2:Nat):Int) < (s.length:Int)
   ·have ha2:a+2 < s.length:=by omega
    have hd2:=Lx.drop_cons ha2;simp only[rs,e1,decide_eq_true g1,hw2,s_len Tryz.underlying9,g2,decide_true,s_at ha2];have e3:=u8d s[a+2] 10 10 rfl;by_cases g3:s[a+2]=10
    ·simp only[rs,e3,decide_eq_true g3,hw3];refine hK _ _ ⟨?_,(Own.start w).done⟩;rw[hEol 2 (by simp[Lx.eol,g1]) (by rw[Lx.lineF,if_neg g10,if_pos g1,if_pos (by rw[show a+1+1=a+2 from rfl,hd2,List.head?_cons,g3])])];rfl
    ·simp only[rs,e3,decide_eq_false g3,g_un,e1,decide_eq_true g1,hw2];exact one (by rw[show a+1+1=a+2 from rfl,hd2,List.head?_cons];simpa using g3)
   ·simp only[rs,e1,decide_eq_true g1,hw2,s_len Tryz.underlying9,g2,decide_false,g_un];exact one (by rw[List.drop_eq_nil_of_le (by omega)];simp)
  simp only[rs,e1,decide_eq_false g1,g_un];by_cases g2:c=10
  ·simp only[rs,e2,decide_eq_true g2,hw2];refine hK _ _ ⟨?_,(Own.start w).done⟩;rw[hEol 1 (by simp[Lx.eol,g2]) (by rw[Lx.lineF,if_pos g2])];rfl
  simp only[rs,e2,decide_eq_false g2,hw1];have hE:Lx.escF (s.drop (a+1))=if 0 < (Lx.octF 3 0 (s.drop (a+1))).2 then ([UInt8.ofNat (Lx.octF 3 0 (s.drop (a+1))).1],(Lx.octF 3 0 (s.drop (a+1))).2) else ([c],1):=by
   rw[hd,Lx.escF,hl];simp only[Lx.eol,g1,g2,decide_false,Bool.or_false,Bool.false_eq_true,if_false]
  refine loop (fun vs w'=>∃(j n:Nat),vs=[.int .i64 n,.int .i64 j]∧a+1≤j∧j≤a+4∧j≤s.length∧n < 8 ^ (j - (a+1))∧Lx.octF 3 0 (s.drop (a+1))=((Lx.octF (3 - (j - (a+1))) n (s.drop j)).1,(Lx.octF (3 - (j - (a+1))) n (s.drop j)).2+(j - (a+1)))∧w=w')
   (fun vs _=>a+4 - n1 vs) ⟨a+1,0,rfl,by omega,by omega,by omega,by simp,by simp,rfl⟩ ?_
  rintro vs w3 ⟨j,n,rfl,hj1,hj2,hj3,hn,ho8,rfl⟩ _;simp only[S_foliantref03_escape_1,gd,s_len Tryz.underlying9];have hn2:n < 512:=Nat.lt_of_lt_of_le hn (Nat.pow_le_pow_right (by decide) (by omega:j - (a+1)≤3));have stop:Lx.octF (3 - (j - (a+1))) n (s.drop j)=(n,0)→DoX prog (mBin .add 3 (.int .i64 a) (.int .i64 1)) w (pk K) fun t96 w=>
    DoX prog (mBin .gtr 3 (.int .i64 j) t96) w (pk K) fun t97 w=>
    IfX t97 (DoX prog (mBin .rem 3 (.int .i64 n) (.int .i64 256)) w (pk K) fun t99 w=>
    DoX prog (mConv 3 5 t99) w (pk K) fun t100 w=>
    DoX prog (mBuildS 71 1 #[(0,t100)]) w (pk K) fun t101 w=>
    DoX prog (mConv 71 9 t101) w (pk K) fun t102 w=>
    K (.returned (.tuple #[t102,.int .i64 j])) w) (DoX prog (mBin .add 3 (.int .i64 a) (.int .i64 1)) w (pk K) fun t106 w=>
    DoX prog (mBin .add 3 (.int .i64 a) (.int .i64 2)) w (pk K) fun t108 w=>
    DoX prog (mSlice 9 (.string ⟨s.toArray⟩) (some t106) (some t108) none) w (pk K) fun t109 w=>
    DoX prog (mBin .add 3 (.int .i64 a) (.int .i64 2)) w (pk K) fun t111 w=>
    K (.returned (.tuple #[t109,t111])) w):=by
   intro h0;rw[h0] at ho8;simp only[rs,hw1,hw2];by_cases hij:((a+1:Nat):Int) < (j:Int)
   ·simp only[hij,decide_true,i_t];rw[b_rem (by omega),c_8,wrap8_mod,Int.tmod_eq_emod_of_nonneg (by omega)];refine o_str1 (UInt8.ofNat n) (by rw[UInt8.toNat_ofNat'];omega) (Own.start w) fun w' ho=>?_;refine hK _ _ ⟨?_,ho.done⟩;rw[hE,ho8,if_pos (by simp;omega)];simp only;rw[show a+1+(0+(j - (a+1)))=j by omega]
   ·simp only[hij,decide_false,i_f];rw[s_cut (i:=a+1) (j:=a+2) rfl rfl (by omega) (by omega),show Lx.cut s (a+1) (a+2)=[s[a+1]] from cut_one h,hc];refine hK _ _ ⟨?_,(Own.start w).done⟩;rw[hE,ho8,if_neg (by simp;omega)];rfl
  by_cases hlt:(j:Int) < (s.length:Int)
  ·have hj4:j < s.length:=by omega
   have hdj:=Lx.drop_cons hj4;by_cases hj5:(j:Int) < ((a+4:Nat):Int)
   ·obtain⟨m,hm⟩:∃m,3 - (j - (a+1))=m+1:=⟨3 - (j - (a+1)) - 1,by omega⟩;rw[hm,hdj,Lx.octF] at ho8;by_cases h48:(48:Int)≤(s[j].toNat:Int)
    ·by_cases h55:(s[j].toNat:Int)≤55
     ·have hoct:Lx.oct s[j]=true:=by simp[Lx.oct];omega
      simp only[hlt,decide_true,rs,hw4,hj5,s_at hj4,h48,h55];rw[c_64 (by omega) (by omega)];simp only[rs];rw[wrap64_id (n:=8*(n:Int)) (by omega) (by omega),wrap64_id (n:=8*(n:Int)+(s[j].toNat:Int)) (by omega) (by omega),wrap64_id (by omega) (by omega),wrap64_id (by omega) (by omega)];rw[if_pos hoct] at ho8;refine nextX ⟨j+1,8*n+(s[j].toNat - 48),by simp;omega,by omega,by omega,by omega,?_,?_,rfl⟩ (by simp[n1,RowKit.intOf];omega)
      ·rw[show j+1 - (a+1)=(j - (a+1))+1 by omega,Nat.pow_succ];omega
      ·rw[ho8,show 3 - (j+1 - (a+1))=m by omega];refine Prod.ext rfl ?_;simp only;omega
     ·have hst:=stop (by rw[hm,hdj,Lx.octF,if_neg];simp[Lx.oct];omega);simp only[rs,hlt,decide_true,hw4,hj5,s_at hj4,h48,h55,decide_false,g_un] at hst ⊢;exact hst
    ·have hst:=stop (by rw[hm,hdj,Lx.octF,if_neg];simp[Lx.oct];omega);simp only[rs,hlt,decide_true,hw4,hj5,s_at hj4,h48,decide_false,g_un] at hst ⊢;exact hst
   ·have hst:=stop (by rw[show 3 - (j - (a+1))=0 by omega,Lx.octF]);simp only[rs,hlt,decide_true,hw4,hj5,decide_false,g_un] at hst ⊢;exact hst
  ·have hst:=stop (by rw[show j=s.length by omega,List.drop_length];cases 3 - (s.length - (a+1))<;>rfl);simp only[rs,hlt,decide_false,g_un] at hst ⊢;exact hst
end
section
open Eng Go.RowKit
def strR (s:List UInt8)(at_:Nat)(r:(List UInt8×Nat) ⊕ Int):Value:=
 match r with
|.inr e=>.tuple #[.string ⟨#[]⟩,.int .i64 0,.int .i64 e]
|.inl r=>if 32767 < r.1.length then .tuple #[.string ⟨#[]⟩,.int .i64 0,.int .i64 5] else .tuple #[.string ⟨r.1.toArray⟩,.int .i64 ((at_+r.2:Nat):Int),.int .i64 0]
def textR (s:List UInt8)(at_:Nat):(List UInt8×Nat) ⊕ Int:=match Lx.textG 0 1 (s.drop at_) with|none=>.inr 4|some r=>.inl r
theorem rlit_ret (s:List UInt8)(a:Nat)(w:World)(hs:s.length≤1099511627776)(ha:a≤s.length):Ret prog 126 #[.string ⟨s.toArray⟩,.int .i64 a] w (fun v w'=>v=strR s a (textR s a)∧Below w.heap.size w w'):=by
 refine ret_of fun K hK=>S_foliantref03_text_ok ?_;unfold S_foliantref03_text;refine loop (fun vs w'=>∃(i o:Nat) (v:Value) (acc:List UInt8),vs=[.int .i64 i,v,.int .i64 o]∧a≤i∧i≤s.length∧1≤o∧o≤i+1∧acc.length≤i∧Lx.textG 0 1 (s.drop a)=(Lx.textG 0 o (s.drop i)).map (fun r=>(acc++r.1,r.2+(i - a)))∧Own w w' [BRow v acc])
  (fun vs _=>s.length - n0 vs) ⟨a,1,_,[],rfl,by omega,ha,by omega,by omega,by simp,by simp,(Own.start w).nilRow _ 1⟩ ?_
 rintro vs w4 ⟨i,o,v,acc,rfl,hi1,hi2,ho1,ho2,hacc,he,ho⟩ _;simp only[S_foliantref03_text_0,gd,s_len Tryz.underlying9];rw[b_lss];have bad:∀{w5},Own w w5 [BRow v acc]→Lx.textG 0 o (s.drop i)=none→K (.returned (.tuple #[.string ⟨#[]⟩,.int .i64 0,.int .i64 4])) w5:=by
  intro w5 ho hn;rw[hn,Option.map_none] at he;exact hK _ _ ⟨by rw[textR,he];rfl,ho.done⟩
 by_cases hlt:(i:Int) < (s.length:Int)
 ·have hi3:i < s.length:=by omega
  have hd:=Lx.drop_cons hi3;have hw1:IntKind.wrap .i64 ((i:Int)+1)=((i+1:Nat):Int):=by rw[wrap64_id (by omega) (by omega)];omega
  simp only[hlt,decide_true,i_t,s_at hi3];have e1:=u8d s[i] 92 92 rfl;have e2:=u8d s[i] 40 40 rfl;have e3:=u8d s[i] 41 41 rfl;have e4:=u8d s[i] 13 13 rfl;by_cases g1:s[i]=92
  ·have hne:¬(Lx.eol s[i]=true):=by rw[g1];decide
   simp only[rs,e1,decide_eq_true g1,hw1,s_len Tryz.underlying9];by_cases hend:(s.length:Int)≤((i+1:Nat):Int)
   ·simp only[hend,decide_true,i_t];refine bad ho ?_;rw[hd,Lx.textG,if_neg hne,if_pos g1,if_pos (List.drop_eq_nil_of_le (by omega))]
   ·have hi4:i+1 < s.length:=by omega
    simp only[hend,decide_false,i_f];have hel:=Lx.escF_le (s.drop (i+1));rw[List.length_drop] at hel;refine c_below ho (rescape_ret s i w4 hs hi4) ?_;rintro _ w6 rfl ho;rw[x_0,x_1];have hxl:(Lx.escF (s.drop (i+1))).1.length≤1:=by
     rw[Lx.drop_cons hi4,Lx.escF];split
     ·simp
     ·split
      ·simp
      ·split<;>simp
    refine o_appS ho (by omega) fun v' w7 ho=>?_;refine nextX ⟨i+1+(Lx.escF (s.drop (i+1))).2,o,v',acc++(Lx.escF (s.drop (i+1))).1,rfl,by omega,by omega,ho1,by omega,by simp;omega,?_,ho⟩ (by simp[n0,RowKit.intOf];omega);rw[he,textG_esc hi4 g1,Option.map_map]
    congr 1
    funext r
    refine Prod.ext (by simp) ?_;simp only[Function.comp];omega
  simp only[rs,e1,decide_eq_false g1];refine join fun J2 hJ2=>?_;have fin:∀o':Nat,(s[i]=40→o'=o+1)→(s[i]≠40→o'=o)→J2 [.int .i64 o'] w4:=by
   intro o' h40 hn40;refine hJ2 _ _ fun _=>?_;simp only[S_foliantref03_text_1,gd];refine join fun J3 hJ3=>?_;have fin3:∀o':Nat,1≤o'→o'≤i+2→(Lx.eol s[i]=true→o'=o)→(Lx.eol s[i]=false→Lx.textG 0 1 (s.drop a)=(Lx.textG 0 o' (s.drop (i+1))).map (fun r=>(acc++s[i]::r.1,r.2+1+(i - a))))→J3 [.int .i64 o'] w4:=by
    intro o' h1 h2 heol hgen;refine hJ3 _ _ fun _=>?_;simp only[S_foliantref03_text_2,gd];refine join fun J4 hJ4=>?_;have fin4:∀(k:Nat) (c:UInt8),i≤k→k < s.length→(c=if s[i]=13 then 10 else s[i])→Lx.textG 0 1 (s.drop a)=(Lx.textG 0 o' (s.drop (k+1))).map (fun r=>(acc++c::r.1,r.2+(k+1 - a)))→J4 [.int .i64 k] w4:=by
     intro k c hk1 hk2 hc hT;refine hJ4 _ _ fun _=>?_;simp only[S_foliantref03_text_3,gd];refine join fun J5 hJ5=>?_;have fin5:∀n:Int,(c.toNat:Int)=n→J5 [.int .u8 n] w4:=by
      intro n hn;refine hJ5 _ _ fun _=>?_;simp only[S_foliantref03_text_4,gd];refine o_app1 c hn ho (by omega) fun v' w6 ho=>?_;rw[b_add,wrap64_id (by omega) (by omega)];refine nextX ⟨k+1,o',v',acc++[c],rfl,by omega,by omega,h1,by omega,by simp;omega,?_,ho⟩ (by simp[n0,RowKit.intOf];omega);rw[hT]
      congr 1
      funext r
      refine Prod.ext (by simp) rfl
     by_cases g:s[i]=13
     ·simp only[rs,e4,decide_eq_true g];exact fin5 10 (by rw[hc,if_pos g];rfl)
     ·simp only[rs,e4,decide_eq_false g];exact fin5 _ (by rw[hc,if_neg g])
    have one:(Lx.eol s[i]=true→Lx.lineF (s.drop i)=1)→J4 [.int .i64 i] w4:=by
     intro hl;cases hE:Lx.eol s[i] with
    |false=>
      have hn13:¬s[i]=13:=by intro e;rw[e] at hE;cases hE
      refine fin4 i s[i] (Nat.le_refl _) hi3 (by rw[if_neg hn13]) ?_;rw[hgen hE]
      congr 1
      funext r
      refine Prod.ext rfl ?_;simp only;omega
    |true=>
      have h10:(10:UInt8)=if s[i]=13 then 10 else s[i]:=by
       simp only[Lx.eol,Bool.or_eq_true,decide_eq_true_eq] at hE;rcases hE with h|h
       ·rw[if_pos h]
       ·rw[if_neg (by rw[h];decide),h]
      refine fin4 i 10 (Nat.le_refl _) hi3 h10 ?_;rw[he,heol hE,textG_eol hi3 hE,Lx.line,hl hE,Option.map_map]
      congr 1
      funext r
      refine Prod.ext rfl ?_;simp only[Function.comp];omega
    by_cases g:s[i]=13
    ·have g10:¬s[i]=10:=by rw[g];decide
     by_cases h3:((i+1:Nat):Int) < (s.length:Int)
     ·have hi4:i+1 < s.length:=by omega
      simp only[rs,e4,decide_eq_true g,hw1,s_len Tryz.underlying9,h3,decide_true,s_at hi4];have e5:=u8d s[i+1] 10 10 rfl;have hh:(s.drop (i+1)).head?=some s[i+1]:=by rw[Lx.drop_cons hi4,List.head?_cons]
      by_cases h5:s[i+1]=10
      ·simp only[rs,e5,decide_eq_true h5,hw1];have hE:Lx.eol s[i]=true:=by simp[Lx.eol,g]
       refine fin4 (i+1) 10 (by omega) hi4 (by rw[if_pos g]) ?_;have hL:Lx.lineF (s.drop i)=2:=by rw[hd,Lx.lineF,if_neg g10,if_pos g,if_pos (by rw[hh,h5])]
       rw[he,heol hE,textG_eol hi3 hE,Lx.line,hL,Option.map_map]
       congr 1
       funext r
       refine Prod.ext rfl ?_;simp only[Function.comp];omega
      ·simp only[rs,e5,decide_eq_false h5];refine one fun _=>?_;rw[hd,Lx.lineF,if_neg g10,if_pos g,if_neg (by rw[hh];simpa using h5)]
     ·simp only[rs,e4,decide_eq_true g,hw1,s_len Tryz.underlying9,h3,decide_false,g_un];refine one fun _=>?_;rw[hd,Lx.lineF,if_neg g10,if_pos g,if_neg (by rw[List.drop_eq_nil_of_le (by omega)];simp)]
    ·simp only[rs,e4,decide_eq_false g,g_un];refine one fun hE=>?_;have:s[i]=10:=by simpa[Lx.eol,g] using hE
     rw[hd,Lx.lineF,if_pos this]
   have step:Lx.eol s[i]=false→Lx.textG 0 o (s.drop i)=if s[i]=40 then (Lx.textG 0 (o+1) (s.drop (i+1))).map (fun r=>(s[i]::r.1,r.2+1))
     else if s[i]=41 then if o≤1 then some ([],1) else (Lx.textG 0 (o - 1) (s.drop (i+1))).map (fun r=>(s[i]::r.1,r.2+1))
     else (Lx.textG 0 o (s.drop (i+1))).map (fun r=>(s[i]::r.1,r.2+1)):=by
    intro hE;rw[hd,Lx.textG,if_neg (by rw[hE];decide),if_neg g1]
   by_cases g3:s[i]=41
   ·have hE:Lx.eol s[i]=false:=by rw[g3];rfl
    have g40:s[i]≠40:=by rw[g3];decide
    have hst:=step hE;rw[if_neg g40,if_pos g3] at hst;simp only[rs,e3,decide_eq_true g3];rw[hn40 g40,wrap64_id (by omega) (by omega)];by_cases g4:o≤1
    ·have g5:(o:Int) - 1=0:=by omega
     rw[if_pos g4] at hst;simp only[g5,decide_true,i_t,sl_len Tryz.underlying71 (ho.slRow 0 rfl),rs];rw[hst,Option.map_some,List.append_nil] at he;by_cases hbig:(32767:Int) < (acc.length:Int)
     ·simp only[hbig,decide_true,i_t];exact hK _ _ ⟨by rw[textR,he];simp only[strR];rw[if_pos (by omega)],ho.done⟩
     ·simp only[hbig,decide_false,i_f,o_strB 0 ho rfl,hw1];exact hK _ _ ⟨by rw[textR,he];simp only[strR];rw[if_neg (by omega),show a+(1+(i - a))=i+1 by omega],ho.done⟩
    ·have g5:¬((o:Int) - 1=0):=by omega
     rw[if_neg g4] at hst;simp only[g5,decide_false,i_f];rw[show (o:Int) - 1=((o - 1:Nat):Int) by omega];refine fin3 (o - 1) (by omega) (by omega) (fun h=>by rw[hE] at h;cases h) fun _=>?_;rw[he,hst,Option.map_map];rfl
   ·simp only[rs,e3,decide_eq_false g3];by_cases g2:s[i]=40
    ·have hE:Lx.eol s[i]=false:=by rw[g2];rfl
     refine fin3 o' (by have:=h40 g2;omega) (by have:=h40 g2;omega) (fun h=>by rw[hE] at h;cases h) fun _=>?_;rw[he,step hE,if_pos g2,h40 g2,Option.map_map];rfl
    ·refine fin3 o' (by have:=hn40 g2;omega) (by have:=hn40 g2;omega) (fun _=>hn40 g2) fun hE=>?_;rw[he,step hE,if_neg g2,if_neg g3,hn40 g2,Option.map_map];rfl
  by_cases g2:s[i]=40
  ·simp only[rs,e2,decide_eq_true g2];rw[wrap64_id (by omega) (by omega),show (o:Int)+1=((o+1:Nat):Int) by omega];exact fin (o+1) (fun _=>rfl) (fun h=>absurd g2 h)
  ·simp only[rs,e2,decide_eq_false g2];exact fin o (fun h=>absurd h g2) (fun _=>rfl)
 ·have hi3:i=s.length:=by omega
  simp only[hlt,decide_false,i_f];refine bad ho ?_;rw[hi3,List.drop_length];rfl
end
section
open Eng Go.RowKit
def digF:List UInt8→(List UInt8×Nat) ⊕ Int
|[]=>.inr 4
|c::t=>
  if c=62 then .inl ([],1)
  else if 0≤Lx.digit c then match digF t with|.inl r=>.inl (c::r.1,r.2+1)|.inr e=>.inr e
  else if Oc.white c then match digF t with|.inl r=>.inl (r.1,r.2+1)|.inr e=>.inr e
  else .inr 3
def hexOf:List UInt8→List UInt8
|[]=>[]
|[a]=>[Lx.byte (Lx.digit a) 0]
|a::b::t=>Lx.byte (Lx.digit a) (Lx.digit b)::hexOf t
def padH (l:List UInt8):List UInt8:=if l.length % 2=0 then l else l++[48]
theorem white_digit (c:UInt8)(h:Oc.white c=true):Lx.digit c < 0:=by
 have:∀n:Fin 256,Oc.white (UInt8.ofNat n.val)=true→Lx.digit (UInt8.ofNat n.val) < 0:=by decide +kernel
 have h2:=this ⟨c.toNat,c.toNat_lt⟩;simp only[UInt8.ofNat_toNat] at h2;exact h2 h
theorem hexF_digF:∀l:List UInt8,(Lx.hexF (-1) l=match digF l with|.inl r=>.inl (hexOf r.1,r.2)|.inr e=>.inr e) ∧
  ∀c:UInt8,0≤Lx.digit c→Lx.hexF (Lx.digit c) l=match digF l with|.inl r=>.inl (hexOf (c::r.1),r.2)|.inr e=>.inr e
|[]=>⟨rfl,fun _ _=>rfl⟩
|x::t=>by
  have ih:=hexF_digF t;by_cases g1:x=62
  ·refine⟨?_,fun c hc=>?_⟩
   ·rw[Lx.hexF,if_pos g1,digF,if_pos g1];rfl
   ·rw[Lx.hexF,if_pos g1,digF,if_pos g1,if_pos hc];rfl
  by_cases g2:0≤Lx.digit x
  ·have hw:¬Oc.white x=true:=fun h=>by have:=white_digit x h;omega
   refine⟨?_,fun c hc=>?_⟩
   ·rw[Lx.hexF,if_neg g1,if_neg hw,if_neg (by omega),if_pos (by omega),digF,if_neg g1,if_pos g2,ih.2 x g2];cases digF t<;>rfl
   ·rw[Lx.hexF,if_neg g1,if_neg hw,if_neg (by omega),if_neg (by omega),digF,if_neg g1,if_pos g2,ih.1];cases digF t<;>rfl
  by_cases g3:Oc.white x=true
  ·refine⟨?_,fun c hc=>?_⟩
   ·rw[Lx.hexF,if_neg g1,if_pos g3,digF,if_neg g1,if_neg g2,if_pos g3,ih.1];cases digF t<;>rfl
   ·rw[Lx.hexF,if_neg g1,if_pos g3,digF,if_neg g1,if_neg g2,if_pos g3,ih.2 c hc];cases digF t<;>rfl
  ·refine⟨?_,fun c hc=>?_⟩
   ·rw[Lx.hexF,if_neg g1,if_neg g3,if_pos (by omega),digF,if_neg g1,if_neg g2,if_neg g3]
   ·rw[Lx.hexF,if_neg g1,if_neg g3,if_pos (by omega),digF,if_neg g1,if_neg g2,if_neg g3]
theorem unhex_pad:∀(n:Nat) (l:List UInt8),l.length≤n→(∀c∈l,0≤Lx.digit c)→Lx.unhex (padH l)=some (hexOf l)
|_,[],_,_=>rfl
|_,[a],_,h=>by
  have h0:=h a (by simp);have e:padH [a]=[a,48]:=rfl;rw[e,Lx.unhex,if_neg (by rw[show Lx.digit 48=0 from rfl];omega),Lx.unhex];rfl
|0,_::_::_,h,_=>by simp at h
|n+1,a::b::t,hl,h=>by
  simp only[List.length_cons] at hl;have ih:=unhex_pad n t (by omega) (fun c hc=>h c (by simp[hc]));have ha:=h a (by simp);have hb:=h b (by simp);have e:padH (a::b::t)=a::b::padH t:=by
   unfold padH;simp only[List.length_cons,Nat.add_mod_right,show t.length+1+1=t.length+2 from rfl];split<;>simp
  rw[e,Lx.unhex,if_neg (by omega),ih,hexOf];rfl
def hexR (s:List UInt8)(at_:Nat):(List UInt8×Nat) ⊕ Int:=Lx.hexF (-1) (s.drop at_)
 attribute [local congr] g_congr in
theorem rhex3_ret (s:List UInt8)(a:Nat)(w:World)(hs:s.length≤1099511627776)(ha:a≤s.length):Ret prog 127 #[.string ⟨s.toArray⟩,.int .i64 a] w (fun v w'=>v=strR s a (hexR s a)∧Below w.heap.size w w'):=by
  refine ret_of fun K hK=>S_foliantref03_hex_ok ?_;unfold S_foliantref03_hex
  let ext (acc:List UInt8) (n:Nat) (r:(List UInt8×Nat) ⊕ Int):(List UInt8×Nat) ⊕ Int:=match r with|.inl r=>.inl (acc++r.1,r.2+n)|.inr e=>.inr e
  refine loop (fun vs w'=>∃(i:Nat) (v:Value) (acc:List UInt8),vs=[.int .i64 i,v]∧a≤i∧i≤s.length∧acc.length≤i∧(∀c∈acc,0≤Lx.digit c)∧digF (s.drop a)=ext acc (i - a) (digF (s.drop i))∧Own w w' [BRow v acc])
   (fun vs _=>s.length - n0 vs) ⟨a,_,[],rfl,by omega,ha,by simp,by simp,?_,(Own.start w).nilRow _ 1⟩ ?_
  ·cases digF (s.drop a)<;>simp[ext]
  rintro vs w4 ⟨i,v,acc,rfl,hi1,hi2,hacc,hall,he,ho⟩ _;simp only[S_foliantref03_hex_0,gd,s_len Tryz.underlying9];have hHF:=(hexF_digF (s.drop a)).1;by_cases hlt:(i:Int) < (s.length:Int)
  ·have hi3:i < s.length:=by omega
   have hd:=Lx.drop_cons hi3;rw[hd,digF] at he;have e1:decide ((s[i].toNat:Int)≠62)=decide (s[i]≠62):=by
    have:=u8d s[i] 62 62 rfl;rw[decide_not,decide_not,this]
   by_cases g1:s[i]=62
   ·have hlt2:¬((s.length:Int)≤(i:Int)):=by omega
    have g1':¬(s[i]≠62):=fun h=>h g1;simp only[rs,hlt,decide_true,s_at hi3,e1,decide_eq_false g1',s_len Tryz.underlying9,hlt2,decide_false,sl_len Tryz.underlying71 (ho.slRow 0 rfl)];rw[if_pos g1] at he;have he:digF (s.drop a)=.inl (acc,1+(i - a)):=by rw[he];simp[ext]
    rw[he] at hHF;refine join fun J3 hJ3=>?_;have fin:∀(v':Value) (w5:World),Own w w5 [BRow v' (padH acc)]→J3 [v'] w5:=by
     intro v' w5 ho;refine hJ3 _ _ fun _=>?_;simp only[S_foliantref03_hex_2,gd,o_strB 0 ho rfl];have hpl:(padH acc).length≤acc.length+1:=by unfold padH;split<;>simp
     refine c_below ho (runhex_ret (padH acc) w5 (by omega)) ?_;rintro _ w6 rfl ho;rw[unhexE_some (unhex_pad _ acc (Nat.le_refl _) hall)];simp only[ex,rs,s_len Tryz.underlying9];by_cases hbig:(32767:Int) < ((hexOf acc).length:Int)
     ·simp only[hbig,decide_true,i_t];exact hK _ _ ⟨by rw[hexR,hHF];simp only[strR];rw[if_pos (by omega)],ho.done⟩
     ·simp only[hbig,decide_false,i_f,rs];rw[wrap64_id (by omega) (by omega)];exact hK _ _ ⟨by rw[hexR,hHF];simp only[strR];rw[if_neg (by omega),show ((a+(1+(i - a)):Nat):Int)=(i:Int)+1 by omega],ho.done⟩
    rw[b_rem (by omega)];have hr:((acc.length:Int).tmod 2)=((acc.length % 2:Nat):Int):=by rw[Int.tmod_eq_emod_of_nonneg (by omega)];omega
    rw[hr];by_cases hodd:acc.length % 2=0
    ·rw[hodd];simp only[rs,ne_eq,Int.natCast_zero,not_true,decide_false];exact fin _ _ (by rw[padH,if_pos hodd];exact ho)
    ·have hne:((acc.length % 2:Nat):Int)≠0:=by omega
     simp only[rs,decide_eq_true hne];refine o_app1 48 rfl ho (by omega) fun v' w5 ho=>?_;exact fin _ _ (by rw[padH,if_neg hodd];exact ho)
   ·simp only[rs,hlt,decide_true,s_at hi3,e1,decide_eq_true g1];rw[if_neg g1] at he;refine join fun J2 hJ2=>?_;have go:∀(v':Value) (acc':List UInt8) (w5:World),acc'.length≤i+1→(∀c∈acc',0≤Lx.digit c)→digF (s.drop a)=ext acc' (i+1 - a) (digF (s.drop (i+1)))→Own w w5 [BRow v' acc']→J2 [v'] w5:=by
     intro v' acc' w5 h1 h2 h3 ho;refine hJ2 _ _ fun _=>?_;simp only[S_foliantref03_hex_1,gd,rs];rw[wrap64_id (by omega) (by omega)];exact nextX ⟨i+1,v',acc',rfl,by omega,by omega,h1,h2,h3,ho⟩ (by simp[n0,RowKit.intOf];omega)
    refine c_eq (rdigit_ret s[i] w4) ?_;by_cases g2:0≤Lx.digit s[i]
    ·simp only[rs,g2,decide_true,s_at hi3];rw[if_pos g2] at he;refine o_app1 s[i] rfl ho (by omega) fun v' w5 ho=>?_;refine go v' _ _ (by simp;omega) ?_ ?_ ho
     ·intro c hc;rcases List.mem_append.1 hc with h|h
      ·exact hall c h
      ·rw[List.mem_singleton] at h;rw[h];exact g2
     ·rw[he];cases digF (s.drop (i+1)) with
     |inl r=>simp only[ext,List.append_assoc,List.singleton_append];rw[show r.2+1+(i - a)=r.2+(i+1 - a) by omega]
     |inr e=>rfl
    ·simp only[rs,g2,decide_false,s_at hi3];rw[if_neg g2] at he;refine c_eq (rwhite_ret s[i] w4) ?_;cases hw:Oc.white s[i] with
    |true=>
      simp only[rs,Bool.not_true];rw[if_pos hw] at he;refine go v acc _ (by omega) hall ?_ ho;rw[he];cases digF (s.drop (i+1)) with
     |inl r=>simp only[ext];rw[show r.2+1+(i - a)=r.2+(i+1 - a) by omega]
     |inr e=>rfl
    |false=>
      simp only[rs,Bool.not_false];rw[if_neg (by rw[hw];decide)] at he;rw[he] at hHF;exact hK _ _ ⟨by rw[hexR,hHF];rfl,ho.done⟩
  ·have hi3:i=s.length:=by omega
   have hge:((s.length:Int)≤(i:Int)):=by omega
   rw[hi3,List.drop_length] at he;rw[he] at hHF;simp only[rs,hlt,decide_false,g_un,s_len Tryz.underlying9,hge,decide_true];exact hK _ _ ⟨by rw[hexR,hHF];rfl,ho.done⟩
theorem strR_inl {s:List UInt8}{a:Nat}{r:List UInt8×Nat}:strR s a (.inl r)=.tuple #[.string ⟨(if 32767 < r.1.length then ([]:List UInt8) else r.1).toArray⟩,.int .i64 (if 32767 < r.1.length then 0 else ((a+r.2:Nat):Int)),.int .i64 (if 32767 < r.1.length then 5 else 0)]:=by
 unfold strR;simp only;by_cases h:32767 < r.1.length
 ·simp only[if_pos h]
 ·simp only[if_neg h]
theorem told_str (a:Nat)(r:(List UInt8×Nat) ⊕ Int):(match r with|.inr e=>Lx.refused e|.inl r=>Lx.told 3 a (a+1+r.2:Nat) r.1 32767) =
  match r with
 |.inr e=>Lx.refused e
 |.inl r=>if 32767 < r.1.length then Lx.refused 5 else (⟨3,a,(a+1+r.2:Nat),0,r.1⟩,0):=by
 cases r with
|inr e=>rfl
|inl r=>
  simp only[Lx.told];by_cases h:32767 < r.1.length
  ·rw[if_pos h,if_pos (by omega)]
  ·rw[if_neg h,if_neg (by omega)]
theorem text_textR (s:List UInt8)(a:Nat):Lx.text s a=match textR s (a+1) with|.inr e=>Lx.refused e|.inl r=>Lx.told 3 a (a+1+r.2:Nat) r.1 32767:=by
 unfold Lx.text textR;cases Lx.textG 0 1 (s.drop (a+1))<;>rfl
theorem textR_pos (s:List UInt8)(a:Nat)(e:Int)(h:textR s a=.inr e):e≠0:=by
 unfold textR at h;split at h
 ·cases h;decide
 ·cases h
theorem hexF_pos:∀(l:List UInt8) (h e:Int),Lx.hexF h l=.inr e→e≠0
|[],_,e,h=>by rw[Lx.hexF] at h;cases h;decide
|c::t,h,e,he=>by
  rw[Lx.hexF] at he;split at he
  ·cases he
  ·split at he
   ·cases hh:Lx.hexF h t with
   |inl r=>rw[hh] at he;cases he
   |inr e'=>rw[hh] at he;cases he;exact hexF_pos t h e hh
   ·split at he
    ·cases he;decide
    ·split at he
     ·cases hh:Lx.hexF (Lx.digit c) t with
     |inl r=>rw[hh] at he;cases he
     |inr e'=>rw[hh] at he;cases he;exact hexF_pos t _ e hh
     ·cases hh:Lx.hexF (-1) t with
     |inl r=>rw[hh] at he;cases he
     |inr e'=>rw[hh] at he;cases he;exact hexF_pos t _ e hh
theorem rtoken_ret (s:List UInt8)(a:Nat)(w:World)(hs:s.length≤1099511627776)(ha:a < s.length):Ret prog 71 #[.string ⟨s.toArray⟩,.int .i64 a] w (fun v w'=>v=tokR (Lx.token s a)∧Below w.heap.size w w'):=by
 refine ret_of fun K hK=>S_foliantref03_token_ok ?_;unfold S_foliantref03_token;refine o_tok (Own.start w) fun b w1 ho=>?_;have hd:=Lx.drop_cons ha;have hT:Lx.token s a=if s[a]=91∨s[a]=93∨s[a]=123∨s[a]=125 then Lx.mark s a 1
  else if s[a]=60 then (if (s.drop (a+1)).head?=some s[a] then Lx.mark s a 2 else Lx.hex s a)
  else if s[a]=62 then (if (s.drop (a+1)).head?=some s[a] then Lx.mark s a 2 else Lx.refused 3)
  else if s[a]=47 then Lx.name s a
  else if s[a]=40 then Lx.text s a
  else if s[a]=41 then Lx.refused 3
  else Lx.word s a:=by rw[Lx.token,hd]
 have hw1:IntKind.wrap .i64 ((a:Int)+1)=((a+1:Nat):Int):=by rw[wrap64_id (by omega) (by omega)];omega
 have hw2:IntKind.wrap .i64 ((a:Int)+2)=((a+2:Nat):Int):=by rw[wrap64_id (by omega) (by omega)];omega
 -- the byte behind is the same
 have two:(s.drop (a+1)).head?=some s[a]→a+2≤s.length:=by
  intro h;cases hdd:s.drop (a+1) with
 |nil=>rw[hdd] at h;cases h
 |cons x t=>
   have:=congrArg List.length hdd;simp at this;omega
 have hdbl:∀{E:VWP},E (.bool (decide ((s.drop (a+1)).head?=some s[a]))) w1→DoX prog (mB .len #[9] 3 #[false] #[.string ⟨s.toArray⟩]) w1 (pk K) fun t23 w=>
   DoX prog (mBin .lss 3 (.int .i64 ((a+1:Nat):Int)) t23) w (pk K) fun t24 w=>
   GDo t24 true (fun E=>E (.string ⟨s.toArray⟩) w) w fun t26 w=>
   GDo t24 true (fun E=>E (.int .i64 a) w) w fun t27 w=>
   GDo t24 true (fun E=>DoX prog (mBin .add 3 t27 (.int .i64 1)) w (pk K) E) w fun t28 w=>
   GDo t24 true (fun E=>DoX prog (mIx 9 t26 t28) w (pk K) E) w fun t29 w=>
   GDo t24 true (fun E=>E (.int .u8 s[a].toNat) w) w fun t30 w=>
   GDo t24 true (fun E=>DoX prog (mEq .eql 5 (.tmp 29) (.tmp 30) t29 t30) w (pk K) E) w fun t31 w=>
   DoX prog (mPick t24 t31 (.bool false)) w (pk K) E:=by
  intro E hE;by_cases h:((a+1:Nat):Int) < (s.length:Int)
  ·have h2:a+1 < s.length:=by omega
   simp only[s_len Tryz.underlying9,rs,h,decide_true,hw1,s_at h2];rw[show decide ((s[a+1].toNat:Int)=(s[a].toNat:Int))=decide ((s.drop (a+1)).head?=some s[a]) by
    rw[u8d s[a+1] _ s[a] rfl,Lx.drop_cons h2,List.head?_cons];by_cases g:s[a+1]=s[a]
    ·rw[decide_eq_true g,decide_eq_true (by rw[g])]
    ·rw[decide_eq_false g,decide_eq_false (by simpa using g)]]
   exact hE
  ·rw[decide_eq_false (by rw[List.drop_eq_nil_of_le (by omega)];simp)] at hE;simp only[s_len Tryz.underlying9,rs,h,decide_false,g_un];exact hE
 simp only[s_at ha];rw[b_add,hw1];refine hdbl ?_;generalize hD:decide ((s.drop (a+1)).head?=some s[a])=D at *;have hDt:D=true→(s.drop (a+1)).head?=some s[a]:=fun h=>by rw[h] at hD;exact of_decide_eq_true hD
 have hDf:D=false→¬(s.drop (a+1)).head?=some s[a]:=fun h=>by rw[h] at hD;exact of_decide_eq_false hD
 have q1:=u8d s[a] 60 60 rfl;have q2:=u8d s[a] 62 62 rfl;have q3:=u8d s[a] 47 47 rfl;have q4:=u8d s[a] 40 40 rfl;have q5:=u8d s[a] 41 41 rfl;have p1:=u8d s[a] 91 91 rfl;have p2:=u8d s[a] 93 93 rfl;have p3:=u8d s[a] 123 123 rfl;have p4:=u8d s[a] 125 125 rfl;have mk:∀n:Nat,a+n≤s.length→Lx.token s a=Lx.mark s a n→DoX prog (mSlice 9 (.string ⟨s.toArray⟩) (some (.int .i64 a)) (some (.int .i64 ((a+n:Nat):Int))) none) w1 (pk K) fun t49 w=>
   DoX prog (mBuild 90 #[(0,(.int .i64 6)),(1,.int .i64 a),(2,.int .i64 ((a+n:Nat):Int)),(4,t49)]) w (pk K) fun t50 w=>
   DoX prog (mStore 90 (.pointer (some ⟨b,0,none⟩)) t50) w (pk K) fun _ w=>
   RetX prog [.cell (.pointer (some ⟨b,0,none⟩)) 90,.val (.int .i64 0)] w K:=by
  intro n hn hm;rw[s_cut (i:=a) (j:=a+n) rfl rfl (by omega) hn,m_tok4];exact tok_put 0 ho rfl fun w' ho=>hK _ _ ⟨by rw[hm];rfl,ho.done⟩
 have no:∀(e:Int),Lx.token s a=Lx.refused e→DoX prog (mBuild 90 #[]) w1 (pk K) fun t50 w=>
   DoX prog (mStore 90 (.pointer (some ⟨b,0,none⟩)) t50) w (pk K) fun _ w=>
   RetX prog [.cell (.pointer (some ⟨b,0,none⟩)) 90,.val (.int .i64 e)] w K:=by
  intro e hm;rw[m_tok0];exact tok_put 0 ho rfl fun w' ho=>hK _ _ ⟨by rw[hm];rfl,ho.done⟩
 -- strings
 have str:∀(r:(List UInt8×Nat) ⊕ Int) (w2:World),Own w w2 [tokE b Lx.none_]→(∀e,r=.inr e→e≠0)→Lx.token s a=(match r with|.inr e=>Lx.refused e|.inl r=>Lx.told 3 a (a+1+r.2:Nat) r.1 32767)→∀x y z,strR s (a+1) r=.tuple #[x,y,z]→S_foliantref03_token_0 (.int .i64 a) (.pointer (some ⟨b,0,none⟩)) x y z w2 K:=by
  intro r w2 ho hpos hm x y z hxyz;rw[told_str] at hm;unfold S_foliantref03_token_0;cases r with
 |inr e=>
   simp only[strR] at hxyz
   injection hxyz with hxyz
   injection hxyz with hxyz
   simp only[List.cons.injEq,and_true] at hxyz;obtain⟨rfl,rfl,rfl⟩:=hxyz;have he:=hpos e rfl;simp only[rs,decide_eq_true he,m_tok0];exact tok_put 0 ho rfl fun w' ho=>hK _ _ ⟨by rw[hm];rfl,ho.done⟩
 |inl r=>
   rw[strR_inl] at hxyz
   injection hxyz with hxyz
   injection hxyz with hxyz
   simp only[List.cons.injEq,and_true] at hxyz;obtain⟨rfl,rfl,rfl⟩:=hxyz;by_cases hbig:32767 < r.1.length
   ·simp only[if_pos hbig,rs,ne_eq,show ¬((5:Int)=0) by decide,not_false_eq_true,decide_true,m_tok0];exact tok_put 0 ho rfl fun w' ho=>hK _ _ ⟨by rw[hm];simp only;rw[if_pos hbig];rfl,ho.done⟩
   ·simp only[if_neg hbig,rs,ne_eq,not_true,decide_false,m_tok4];exact tok_put 0 ho rfl fun w' ho=>hK _ _ ⟨by rw[hm];simp only;rw[if_neg hbig],ho.done⟩
 have trip:∀r,∃x y z,strR s (a+1) r=.tuple #[x,y,z]:=by
  intro r;cases r with
 |inr e=>exact⟨_,_,_,rfl⟩
 |inl r=>exact⟨_,_,_,strR_inl⟩
 by_cases g1:s[a]=60
 ·have hT:Lx.token s a=if (s.drop (a+1)).head?=some s[a] then Lx.mark s a 2 else Lx.hex s a:=by
   rw[hT,if_neg (by rw[g1];decide),if_pos g1]
  simp only[rs,q1,decide_eq_true g1,g_un];cases hDD:D with
 |true=>
   have h2:=hDt hDD;simp only[rs,hw2];exact mk 2 (two h2) (by rw[hT,if_pos h2])
 |false=>
   have h2:=hDf hDD;rw[if_neg h2] at hT;have n1:¬s[a]=91:=by rw[g1];decide
   have n2:¬s[a]=93:=by rw[g1];decide
   have n3:¬s[a]=123:=by rw[g1];decide
   have n4:¬s[a]=125:=by rw[g1];decide
   have n5:¬s[a]=62:=by rw[g1];decide
   have n6:¬s[a]=41:=by rw[g1];decide
   have n7:¬s[a]=47:=by rw[g1];decide
   have n8:¬s[a]=40:=by rw[g1];decide
   simp only[rs,p1,p2,p3,p4,q2,q5,q3,q4,q1,decide_eq_false n1,decide_eq_false n2,decide_eq_false n3,decide_eq_false n4,decide_eq_false n5,decide_eq_false n6,decide_eq_false n7,decide_eq_false n8,decide_eq_true g1,g_un,hw1];refine c_below ho (rlit_ret s (a+1) w1 hs (by omega)) ?_;rintro _ w2 rfl ho;obtain⟨x,y,z,hxyz⟩:=trip (textR s (a+1));rw[hxyz];simp only[ex];refine join fun J hJ=>?_;refine c_below ho (rhex3_ret s (a+1) w2 hs (by omega)) ?_;rintro _ w3 rfl ho;obtain⟨x',y',z',hxyz'⟩:=trip (hexR s (a+1));rw[hxyz'];simp only[ex];refine hJ _ _ fun _=>?_;simp only[gd];exact str (hexR s (a+1)) w3 ho (fun e he=>hexF_pos _ _ _ he) (by rw[hT,Lx.hex,hexR];cases Lx.hexF (-1) (s.drop (a+1))<;>rfl) _ _ _ hxyz'
 by_cases g2:s[a]=62
 ·have hT:Lx.token s a=if (s.drop (a+1)).head?=some s[a] then Lx.mark s a 2 else Lx.refused 3:=by
   rw[hT,if_neg (by rw[g2];decide),if_neg g1,if_pos g2]
  simp only[rs,q1,decide_eq_false g1,q2,decide_eq_true g2,g_un];cases hDD:D with
 |true=>
   have h2:=hDt hDD;simp only[rs,hw2];exact mk 2 (two h2) (by rw[hT,if_pos h2])
 |false=>
   have h2:=hDf hDD;rw[if_neg h2] at hT;have n1:¬s[a]=91:=by rw[g2];decide
   have n2:¬s[a]=93:=by rw[g2];decide
   have n3:¬s[a]=123:=by rw[g2];decide
   have n4:¬s[a]=125:=by rw[g2];decide
   simp only[rs,p1,p2,p3,p4,q2,decide_eq_false n1,decide_eq_false n2,decide_eq_false n3,decide_eq_false n4,decide_eq_true g2,g_un];exact no 3 hT
 simp only[rs,q1,decide_eq_false g1,q2,decide_eq_false g2,g_un];by_cases b1:s[a]=91
 ·simp only[rs,p1,decide_eq_true b1,g_un,hw1];exact mk 1 (by omega) (by rw[hT,if_pos (.inl b1)])
 by_cases b2:s[a]=93
 ·simp only[rs,p1,decide_eq_false b1,p2,decide_eq_true b2,g_un,hw1];exact mk 1 (by omega) (by rw[hT,if_pos (.inr (.inl b2))])
 by_cases b3:s[a]=123
 ·simp only[rs,p1,decide_eq_false b1,p2,decide_eq_false b2,p3,decide_eq_true b3,g_un,hw1];exact mk 1 (by omega) (by rw[hT,if_pos (.inr (.inr (.inl b3)))])
 by_cases b4:s[a]=125
 ·simp only[rs,p1,decide_eq_false b1,p2,decide_eq_false b2,p3,decide_eq_false b3,p4,decide_eq_true b4,g_un,hw1];exact mk 1 (by omega) (by rw[hT,if_pos (.inr (.inr (.inr b4)))])
 rw[if_neg (by rintro (h|h|h|h)<;>contradiction),if_neg g1,if_neg g2] at hT;simp only[rs,p1,p2,p3,p4,decide_eq_false b1,decide_eq_false b2,decide_eq_false b3,decide_eq_false b4,g_un,q2,decide_eq_false g2];by_cases g5:s[a]=41
 ·simp only[rs,q5,decide_eq_true g5,g_un];exact no 3 (by rw[hT,if_neg (by rw[g5];decide),if_neg (by rw[g5];decide),if_pos g5])
 simp only[rs,q5,decide_eq_false g5];by_cases g3:s[a]=47
 ·rw[if_pos g3] at hT;simp only[rs,q3,decide_eq_true g3,hw1];refine c_eq (rrun_ret s (a+1) w1 hs (by omega)) ?_;have hto:=Lx.run_le s (show a+1≤s.length by omega);have hto2:a+1≤Lx.run s (a+1):=by unfold Lx.run;omega
  rw[s_cut rfl rfl hto2 hto];have hcl:(Lx.cut s (a+1) (Lx.run s (a+1))).length≤s.length:=by rw[cut_length hto];omega
  refine c_below ho (rnamet_ret _ w1 (by omega)) ?_;rintro _ w2 rfl ho;have hN:Lx.token s a=if (nameR (Lx.cut s (a+1) (Lx.run s (a+1)))).2≠0 then Lx.refused (nameR (Lx.cut s (a+1) (Lx.run s (a+1)))).2 else (⟨4,a,Lx.run s (a+1),0,(nameR (Lx.cut s (a+1) (Lx.run s (a+1)))).1⟩,0):=by
   rw[hT,Lx.name,nameR];cases Lx.nameF (Lx.cut s (a+1) (Lx.run s (a+1))) with
  |none=>rfl
  |some x=>
    simp only[Lx.told];by_cases h:127 < x.length
    ·rw[if_pos (by omega),if_pos h];simp[Lx.refused]
    ·rw[if_neg (by omega),if_neg h];simp
  simp only[ex,rs];by_cases he:(nameR (Lx.cut s (a+1) (Lx.run s (a+1)))).2≠0
  ·rw[if_pos he] at hN;simp only[decide_eq_true he,i_t,m_tok0];exact tok_put 0 ho rfl fun w' ho=>hK _ _ ⟨by rw[hN];rfl,ho.done⟩
  ·rw[if_neg he] at hN;simp only[decide_eq_false he,i_f,m_tok4];exact tok_put 0 ho rfl fun w' ho=>hK _ _ ⟨by rw[hN],ho.done⟩
 simp only[rs,q3,decide_eq_false g3];rw[if_neg g3] at hT;by_cases g4:s[a]=40
 ·rw[if_pos g4] at hT;simp only[rs,q4,decide_eq_true g4,g_un,hw1];refine c_below ho (rlit_ret s (a+1) w1 hs (by omega)) ?_;rintro _ w2 rfl ho;obtain⟨x,y,z,hxyz⟩:=trip (textR s (a+1));rw[hxyz];simp only[ex];refine join fun J hJ=>?_;refine hJ _ _ fun _=>?_;simp only[gd];exact str (textR s (a+1)) w2 ho (fun e he=>textR_pos _ _ _ he) (by rw[hT,text_textR]) _ _ _ hxyz
 rw[if_neg g4,if_neg g5] at hT;simp only[rs,q4,decide_eq_false g4,q1,decide_eq_false g1];refine c_eq (rrun_ret s a w1 hs (by omega)) ?_;have hto:=Lx.run_le s (show a≤s.length by omega);have hto2:a≤Lx.run s a:=by unfold Lx.run;omega
 rw[s_cut rfl rfl hto2 hto];have hcl:(Lx.cut s a (Lx.run s a)).length≤s.length:=by rw[cut_length hto];omega
 refine c_below ho (rword_ret _ w1 (by omega)) ?_;rintro _ w2 rfl ho;have hW:Lx.token s a=_:=hT.trans (wordR_wordT (Lx.cut s a (Lx.run s a)) a (Lx.run s a));simp only[tokR,ex];refine o_tok ho fun b2 w3 ho=>?_;refine o_put 0 ho rfl (new:=tokC (wordR (Lx.cut s a (Lx.run s a))).1) szTok (tokC_one _) rfl fun w4 ho=>?_;have ho:Own w w4 [tokE b2 (wordR (Lx.cut s a (Lx.run s a))).1,tokE b Lx.none_]:=ho;simp only[rs];by_cases he:(wordR (Lx.cut s a (Lx.run s a))).2≠0
 ·rw[if_pos he] at hW;simp only[decide_eq_true he,i_t,m_tok0];exact tok_put 1 ho rfl fun w' ho=>hK _ _ ⟨by rw[hW];rfl,ho.done⟩
 ·rw[if_neg he] at hW;simp only[decide_eq_false he,i_f];rw[f_addr (show fOff prog 90 1=some 1 by kernel_rfl)];refine o_store 0 ho rfl (by kernel_rfl) rfl (by simp[tokC]) fun w5 ho=>?_;rw[f_addr (show fOff prog 90 2=some 2 by kernel_rfl)];refine o_store 0 ho rfl (by kernel_rfl) rfl (by simp[tokC]) fun w6 ho=>?_;have ho:Own w w6 [tokE b2 { (wordR (Lx.cut s a (Lx.run s a))).1 with a:=a,t:=Lx.run s a },tokE b Lx.none_]:=ho;rw[l_at (ho.agg 0 rfl aggTok)];exact tok_put 1 ho rfl fun w' ho=>hK _ _ ⟨by rw[hW],ho.done⟩
theorem rnext_ret (s:List UInt8)(i:Int)(w:World)(hs:s.length≤1099511627776):Ret prog 49 #[.string ⟨s.toArray⟩,.int .i64 i] w (fun v w'=>v=tokR (Lx.next s i)∧Below w.heap.size w w'):=by
 refine ret_of fun K hK=>S_foliantref03_Next_ok ?_;unfold S_foliantref03_Next;refine o_tok (Own.start w) fun b w1 ho=>?_;have out:(i < 0∨(s.length:Int) < i)→DoX prog (mBuild 90 #[]) w1 (pk K) fun t50 w=>
   DoX prog (mStore 90 (.pointer (some ⟨b,0,none⟩)) t50) w (pk K) fun _ w=>
   RetX prog [.cell (.pointer (some ⟨b,0,none⟩)) 90,.val (.int .i64 1)] w K:=by
  intro h;rw[m_tok0];exact tok_put 0 ho rfl fun w' ho=>hK _ _ ⟨by rw[Lx.next,if_pos h];rfl,ho.done⟩
 by_cases h1:i < 0
 ·simp only[rs,h1,decide_true,g_un];exact out (.inl h1)
 simp only[rs,h1,decide_false,s_len Tryz.underlying9];by_cases h2:(s.length:Int) < i
 ·simp only[rs,h2,decide_true];exact out (.inr h2)
 simp only[rs,h2,decide_false];have hsk:Lx.skipI s i=((Lx.skip s i.toNat:Nat):Int):=by rw[Lx.skipI,if_neg (by omega)]
 have hN:Lx.next s i=Lx.token s (Lx.skip s i.toNat):=by rw[Lx.next,if_neg (by omega)]
 have hle:=Lx.skip_le s (k:=i.toNat) (by omega);refine c_eq (rskip_ret s i w1 hs) ?_;rw[hsk];generalize Lx.skip s i.toNat=a at *;simp only[s_len Tryz.underlying9,rs];by_cases hend:(s.length:Int)≤(a:Int)
 ·have:a=s.length:=by omega
  simp only[hend,decide_true,i_t,m_tok012];refine tok_put 0 ho rfl fun w' ho=>hK _ _ ⟨?_,ho.done⟩;rw[hN,Lx.token,this,List.drop_length]
 ·simp only[hend,decide_false,i_f];exact tok_tail 0 ho rfl (rtoken_ret s a w1 hs (by omega)) fun w' hb=>hK _ _ ⟨by rw[hN],hb⟩
end
section
open Eng Go.RowKit
section
variable {w:World}{PK:PKT}{K:VWP}{S:Nat→Prop}{w0:World}{L:List Ent}
theorem fa_t0 {b:Nat}:DoX prog (mFA 90 (.pointer (some ⟨b,0,none⟩)) 0) w PK K=K (.pointer (some ⟨b,0,none⟩)) w:=f_addr (show fOff prog 90 0=some 0 by kernel_rfl)
theorem fa_t1 {b:Nat}:DoX prog (mFA 90 (.pointer (some ⟨b,0,none⟩)) 1) w PK K=K (.pointer (some ⟨b,1,none⟩)) w:=f_addr (show fOff prog 90 1=some 1 by kernel_rfl)
theorem fa_t2 {b:Nat}:DoX prog (mFA 90 (.pointer (some ⟨b,0,none⟩)) 2) w PK K=K (.pointer (some ⟨b,2,none⟩)) w:=f_addr (show fOff prog 90 2=some 2 by kernel_rfl)
end
end
section
open Eng Go.RowKit
section
variable {w:World}{PK:PKT}{K:VWP}{S:Nat→Prop}{w0:World}{L:List Ent}
end
theorem upto_end {s:List UInt8}{i b:Int}{l:List Lx.Tok}{n:Nat}(h:Lx.Steps s i l b)(hn:l.length < n)(he:(Lx.next s b).2=0)(hk:(Lx.next s b).1.k=0):Lx.upto s n i=.inl l:=by
 obtain⟨m,rfl⟩:∃m,n=l.length+(m+1):=⟨n - l.length - 1,by omega⟩;rw[h (m+1),Lx.upto,if_neg (by rw[he];simp),if_pos hk];simp
end
section
open Eng Go.RowKit
theorem draw {w:World}{F:World→Prop}(h:F w.drew):DrawX w F:=⟨h⟩
end
end Go.Proofs.YtjloddgofmdmgaaGreatDoor


namespace Go.Proofs.YtjloddgofmdmgaaGreatDoor
section
open Eng Go.RowKit
theorem flat_get:∀(l:List Lx.Tok) (k j:Nat) (hk:k < l.length),j < 5→(l.flatMap tokC)[k*5+j]?=(tokC l[k])[j]?
|x::l,0,j,_,hj=>by
  rw[List.flatMap_cons,List.getElem?_append_left (by simpa[tokC] using hj)];simp
|x::l,k+1,j,hk,hj=>by
  have h5:(tokC x).length=5:=rfl;rw[List.flatMap_cons,List.getElem?_append_right (by rw[h5];omega),h5,show (k+1)*5+j - 5=k*5+j by omega];rw[flat_get l k j (by simpa using hk) hj];simp
end
end Go.Proofs.YtjloddgofmdmgaaGreatDoor

namespace Go.Proofs.YtjloddgofmdmgaaGreatDoor
section
open Eng Go.RowKit
theorem Tb.mono {w w':World}(h:Tb w)(hb:Below w.heap.size w w'):Tb w':=
 Go.Joins.tab_stays (show Tryz.prog.globalNamed "internal/strconv.uint64pow10"=some 0 by kernel_rfl) h hb (Nat.le_refl _)
theorem Tb.own {w w':World}{L:List Ent}(h:Tb w)(ho:Own w w' L):Tb w':=h.mono ho.done
end
section
open Eng Go.RowKit
theorem smp1:Lx.next [55,46] 0=(⟨2,0,2,70000,[]⟩,0):=by decide +kernel
theorem smp2:Lx.next [32,55,120] 0=(⟨5,1,3,0,[55,120]⟩,0):=by decide +kernel
theorem smp3:Lx.next [45,48] 0=(⟨1,0,2,0,[]⟩,0):=by decide +kernel
theorem smp4:Lx.next [41] 0=(Lx.none_,3):=by decide +kernel
theorem smp5:Lx.next [40,97] 0=(Lx.none_,4):=by decide +kernel
end
end Go.Proofs.YtjloddgofmdmgaaGreatDoor







namespace Go.Proofs.YtjloddgofmdmgaaGreatDoor
section
open Eng Go.RowKit
section
variable {w:World}{PK:PKT}{K:VWP}{S:Nat→Prop}{w0:World}{L:List Ent}
end
abbrev StrRow (v:Value)(l:List (List UInt8)):Ent:=.row 9 1 v l.length (strsV l)
end
section
open Eng Go.RowKit
theorem kid_at {A:Nat→Prop}{wb:World}{o:Ob}{vk vc:Value}{cs:List Value}(h:ObAt A wb o vk vc cs){i:Nat}(hi:i < o.kids.length) :
  ∃v p,OV A wb v o.kids[i]∧∀W,Kept A wb W→(mIA 25 vc (.int .i64 (i:Int))).run prog W=.ok (.value (.pointer (some p))) W∧(mLoad 27 (.pointer (some p))).run prog W=.ok (.value v) W:=by
 obtain⟨b,off,cap,rfl,_⟩:=sl_open h.kids.1 (by omega);obtain⟨a,hl,hov,hget⟩:=OVs.get _ _ i hi h.all;refine⟨.agg a.toArray,⟨b,off+i*6,none⟩,hov,fun W hk=>⟨?_,?_⟩⟩
 ·have:=run_ia (P:=prog) (T:=25) (b:=b) (off:=off) (cap:=cap) (n:=o.kids.length) (k:=.i64) (i:=(i:Int)) (w:=W) Tryz.underlying25 szOb (by omega) (by omega);rw[Int.toNat_natCast] at this;exact this
 ·obtain⟨b',off',cap',he,hc⟩:=sl_open (h.kept hk).kids.1 (by omega);cases he;refine run_load_at (v:=.agg a.toArray) (AtV.agg aggOb hl fun j v hj=>?_);rw[Nat.add_assoc];exact hc _ _ (hget j v hj)
theorem key_at {A:Nat→Prop}{wb:World}{o:Ob}{vk vc:Value}{cs:List Value}(h:ObAt A wb o vk vc cs){i:Nat}(hi:i < o.keys.length) :
  ∃p,∀W,Kept A wb W→(mIA 24 vk (.int .i64 (i:Int))).run prog W=.ok (.value (.pointer (some p))) W∧(mLoad 9 (.pointer (some p))).run prog W=.ok (.value (.string ⟨o.keys[i].toArray⟩)) W:=by
 obtain⟨b,off,cap,rfl,_⟩:=sl_open h.keys.1 (by omega);refine⟨⟨b,off+i,none⟩,fun W hk=>⟨?_,?_⟩⟩
 ·have:=run_ia (P:=prog) (T:=24) (b:=b) (off:=off) (cap:=cap) (n:=o.keys.length) (k:=.i64) (i:=(i:Int)) (w:=W) Tryz.underlying24 (show _=some 1 by kernel_rfl) (by omega) (by omega);rw[Int.toNat_natCast,Nat.mul_one] at this;exact this
 ·obtain⟨b',off',cap',he,hc⟩:=sl_open (h.kept hk).keys.1 (by omega);cases he;exact run_load_cell nStr5 (hc i _ (strsV_get hi))
theorem sl_one5 {w:World}{v:Value}{sz n:Nat}{cs:List Value}(h:Sl w v sz n cs):v.oneCell'=true:=by
 obtain⟨_,a,cap,rfl,_⟩:=h;rfl
theorem strsV_one' {l:List (List UInt8)}:∀x∈strsV l,x.oneCell'=true:=by
 intro x hx;obtain⟨y,_,rfl⟩:=List.mem_map.1 hx;rfl
section
variable {w:World}{PK:PKT}{K:VWP}{S:Nat→Prop}{w0:World}{L:List Ent}
theorem o_appSs (i:Nat){v v2:Value}{xs ys:List (List UInt8)}{cs:Array Bool}(ho:OwnS S w0 w L)(hi:L[i]?=some (StrRow v xs))(hs:Sl w v2 1 ys.length (strsV ys))(hb:xs.length+ys.length≤1099511627776)
  (k:∀v' w',OwnS S w0 w' (L.set i (StrRow v' (xs++ys)))→K v' w'):DoX prog (mB .append #[24,24] 24 cs #[v,v2]) w PK K:=by
 refine o_append i Tryz.underlying24 (show elB prog 9 1 16=true by kernel_rfl) (by decide) ho hi hs strsV_one' (by omega) (by omega) fun v' w' h=>k v' w' ?_;have e:StrRow v' (xs++ys)=.row 9 1 v' (xs.length+ys.length) (strsV xs++strsV ys):=by
  rw[StrRow,List.length_append];simp[strsV]
 rw[e];exact h
theorem o_appS1 (i:Nat){v:Value}{xs:List (List UInt8)}{y:List UInt8}{cs:Array Bool}{PK2:PKT}(ho:OwnS S w0 w L)(hi:L[i]?=some (StrRow v xs))(hb:xs.length≤100000000000)
  (k:∀v' w',OwnS S w0 w' (L.set i (StrRow v' (xs++[y])))→K v' w') :
  DoX prog (mBuildS 24 1 #[(0,.string ⟨y.toArray⟩)]) w PK fun t w=>DoX prog (mB .append #[24,24] 24 cs #[v,t]) w PK2 K:=by
 refine o_new (fun b=>.slice (some ⟨b,0,none⟩) 1 1) [.string ⟨y.toArray⟩] 9 (fun _=>by kernel_rfl) ho fun nb w4 h4=>?_;refine o_appSs (i+1) h4 (by rw[List.getElem?_cons_succ];exact hi) (ys:=[y]) (h4.sl 0 rfl 1 1 1 rfl) (by simp;omega) fun v' w5 h5=>k v' w5 h5.tail
end
theorem why_fields {d:Nat}{o:Ob}(h:Vl.why d o=0):d≤24∧Vl.usesOk o=true∧¬(o.k=9∧1 < d)∧Vl.fits o=true∧o.s.length≤Vl.long o.k∧o.kids.length≤8191∧Vl.form o=true:=by
 unfold Vl.why at h;split at h
 ·cases h
 split at h
 ·cases h
 split at h
 ·cases h
 split at h
 ·cases h
 split at h
 ·cases h
 split at h
 ·cases h
 rename_i h1 h2 h3 h4 h5 h6
 rw[not_or] at h2;exact⟨by omega,by simpa using h2.1,h2.2,by simpa using h3,by omega,by omega,by simpa using h6⟩
end
section
open Eng Go.RowKit
theorem Eng.Mem.le.trans {M N O:Mem}(h:M.le N)(k:N.le O):M.le O:=Mem.le_trans h k
theorem strsV_one5 {l:List (List UInt8)}:∀x∈strsV l,x.oneCell'=true:=by
 intro x hx;obtain⟨y,_,rfl⟩:=List.mem_map.1 hx;rfl
theorem urow_one {w:World}{T:TypeId}{sz:Nat}{v:Value}{n:Nat}{xs:List Value}(h:(Ent.urow T sz v n xs).is w):v.oneCell'=true:=by
 rcases (show w.ownsRow 0 T sz v n xs from h).2 with ⟨rfl,_⟩|⟨g,cap,cur,rfl,_⟩<;>rfl
theorem ovs_app {A:Nat→Prop}{w:World}:∀{os ps:List Ob} {cs ds:List Value},OVs A w cs os→OVs A w ds ps→OVs A w (cs++ds) (os++ps)
|[],ps,cs,ds,h,k=>by rw[OVs] at h;subst h;simpa using k
|o::os,ps,cs,ds,h,k=>by
  rw[OVs] at h;obtain⟨a,rest,rfl,hl,h1,h2⟩:=h;rw[List.cons_append,OVs];exact⟨a,rest++ds,by simp,hl,h1,ovs_app h2 k⟩
theorem ovs_1 {A:Nat→Prop}{w:World}{o:Ob}{vk vc:Value}(h:OV A w (obV o vk vc) o):OVs A w (obC o vk vc) [o]:=by
 rw[OVs];exact⟨obC o vk vc,[],by simp,rfl,h,OVs.nil⟩
theorem ObAt.le {M N:Mem}{o:Ob}{vk vc:Value}{cs:List Value}(hl:M.le N)(h:ObAt M.A M.w o vk vc cs):ObAt N.A N.w o vk vc cs:=⟨h.keys.le hl,h.kids.le hl,h.all.le hl⟩
theorem obAt_mk {M:Mem}{k n g:Int}{s:List UInt8}{keys:List (List UInt8)}{kids:List Ob}{vk vc:Value}{cs:List Value}(h1:SlA M.A M.w vk 1 keys.length (strsV keys))(h2:SlA M.A M.w vc 6 kids.length cs)(h3:OVs M.A M.w cs kids):ObAt M.A M.w (.mk k n g s keys kids) vk vc cs:=⟨h1,h2,h3⟩
theorem ob0_ov (M:Mem):OV M.A M.w (obV Vl.ob0 (.slice none 0 0) (.slice none 0 0)) Vl.ob0:=(obAt_mk (M:=M) (keys:=[]) (kids:=[]) (SlA.nil _ _ _ _) (SlA.nil _ _ _ _) OVs.nil).ov
theorem clone1_ret (o:Ob){vk vc:Value}(hk:vk.oneCell'=true)(hc:vc.oneCell'=true)(w:World):Ret prog 190 #[obV o vk vc] w (fun v w'=>v=obV o vk vc∧Below w.heap.size w w'):=by
 refine ret_of fun K hK=>S_value_Clone_1_ok ?_;unfold S_value_Clone_1;refine o_obb o hk hc (Own.start w) fun b w1 ho=>?_;refine o_oba ho fun b2 w2 ho=>?_;rw[ob_v ho 1 rfl];refine ob_put 0 hk hc ho rfl fun w3 ho=>?_;exact ret_v1 (rv_cell (ho.agg 0 rfl aggOb)) (hK _ _ ⟨rfl,ho.done⟩)
theorem clone1_plain:plainB prog 190=true:=by kernel_rfl
abbrev cloneF:Value:=.func (.func 190) #[] #[]
theorem changed_ret (n:Nat):∀(o:Ob) (v:Value) (M:Mem) (w:World),o.wt≤n→o.wt≤100000000000→M.has w→OV M.A M.w v o→RetM prog 189 #[v,cloneF] M w (fun v' N=>OV N.A N.w v' o):=by
 induction n with
|zero=>intro o v M w h;have:=o.wt_pos;omega
|succ n ih=>
 intro o v M w hn hw hM hv;obtain⟨vk,vc,cs,rfl,ha⟩:=hv.open;have hww:Ob.wts o.kids≤100000000000:=by cases o;rw[Ob.wt] at hw;simp only[Ob.kids];omega
 have hkt:Pl.tot o.keys≤100000000000:=by cases o;rw[Ob.wt] at hw;simp only[Ob.keys];omega
 have hlk:=Ob.len_wts o.kids;have hkl:=Pl.length_tot o.keys;refine retM_of hM fun K hK=>S_value_changed_ok ?_;unfold S_value_changed;refine o_obb o ha.keys.one ha.kids.one (OwnS.memS hM) fun b w1 ho=>?_;refine o_oba ho fun b4 w2 ho=>?_;rw[ob_v ho 1 rfl];refine c_val clone1_plain (c_below ho (R:=fun v=>v=obV o vk vc) (clone1_ret o ha.keys.one ha.kids.one w2) ?_);rintro _ w3 rfl ho;refine ob_put 1 ha.keys.one ha.kids.one ho rfl fun w4 ho=>?_;rw[fa_o4,ob_keys ho 1 rfl];refine c_ret (sclone_s_ret vk _ _ w4 (ha.keys.now (ho.hasM 2 rfl)) strsV_one5 (by omega)) fun vk' w5 hnew=>?_;have ho:=ho.join hnew;have ho:OwnS M.A w w5 [.urow 9 1 vk' o.keys.length (strsV o.keys),obE b4 ob0 (.slice none 0 0) (.slice none 0 0),obE b o vk vc,.mem M]:=ho;have hk1:vk'.oneCell'=true:=urow_one (ho.at_ 0 rfl);rw[fa_o4];refine o_store 2 ho rfl (by kernel_rfl) hk1 (show 0+4 < 6 by omega) fun w6 ho=>?_;have ho:OwnS M.A w w6 [.urow 9 1 vk' o.keys.length (strsV o.keys),obE b4 ob0 (.slice none 0 0) (.slice none 0 0),obE b o vk' vc,.mem M]:=ho;obtain⟨N,hMN,hkeys,ho⟩:=ho.freezeU 2 rfl;have ho:OwnS M.A w w6 [obE b4 ob0 (.slice none 0 0) (.slice none 0 0),obE b o vk' vc,.mem N]:=ho;refine join fun J hJ=>?_;have fin:∀(W:World) (N':Mem) (vc':Value) (cs':List Value),OwnS M.A w W [obE b4 ob0 (.slice none 0 0) (.slice none 0 0),obE b o vk' vc',.mem N']→N.le N'→vc'.oneCell'=true→SlA N'.A N'.w vc' 6 o.kids.length cs'→OVs N'.A N'.w cs' o.kids→J [] W:=by
  intro W N' vc' cs' ho hle hc1 h1 h2;refine hJ _ _ fun _=>?_;unfold S_value_changed_1;rw[ob_v ho 1 rfl];refine ob_put 0 hk1 hc1 ho rfl fun w7 ho=>?_;refine ret_v1 (rv_cell (ho.agg 0 rfl aggOb)) (hK _ _ N' _ 2 ho rfl (hMN.trans hle) ?_);exact ObAt.ov (⟨hkeys.le hle,h1,h2⟩:ObAt N'.A N'.w o vk' vc' cs')
 have hav:=ha.le hMN;rw[fa_o5,ob_kids ho 1 rfl];obtain⟨a,cap,rfl,hnil⟩:∃a cap,vc=.slice a o.kids.length cap∧(a=none→o.kids.length=0):=by
  obtain⟨⟨_,a,cap,e,h1,_⟩,_⟩:=ha.kids;exact⟨a,cap,e,h1⟩
 rw[n_nilS Tryz.underlying25];cases a with
|none=>
  simp only[Option.isNone_none,Bool.not_true,i_f];exact fin _ N _ _ ho N.le_refl rfl hav.kids hav.all
|some p=>
  simp only[Option.isNone_some,Bool.not_false,i_t];rw[fa_o5,ob_kids ho 1 rfl,sl_len_any Tryz.underlying25];refine o_makeN (sz:=6) (bytes:=88) Tryz.underlying25 (by kernel_rfl) (by omega) (by omega) ho fun g w7 zs hzs ho=>?_;have ho:=ho.toU 6 o.kids.length o.kids.length hzs (Nat.le_refl _) (by omega);rw[List.take_of_length_le (by omega)] at ho;rw[fa_o5,ob_kids ho 2 rfl,sl_len_any Tryz.underlying25];refine loop (fun vs W=>∃(i:Nat) (N':Mem) (cs' zs':List Value),vs=[.int .i64 i]∧i≤o.kids.length∧N.le N'∧OVs N'.A N'.w cs' (o.kids.take i)∧cs'.length=i*6 ∧
    OwnS M.A w W [.urow 27 6 (.slice (some ⟨g,0,none⟩) o.kids.length o.kids.length) o.kids.length (cs'++zs'),obE b4 ob0 (.slice none 0 0) (.slice none 0 0),obE b o vk' (.slice (some p) o.kids.length cap),.mem N']) (fun vs _=>o.kids.length - n0 vs)
   ⟨0,N,[],zs,rfl,by omega,N.le_refl,OVs.nil,rfl,ho⟩ ?_
  clear ho;rintro vs w8 ⟨i,N',cs',zs',rfl,hi,hle,hcs',hl',ho⟩ _;simp only[S_value_changed_0,gd,rs];have hrl:=(show w8.ownsRow 0 27 6 _ _ (cs'++zs') from ho.at_ 0 rfl).1;rw[List.length_append,hl'] at hrl;by_cases hlt:(i:Int) < (o.kids.length:Int)
  ·have hi':i < o.kids.length:=by omega
   simp only[hlt,decide_true,i_t];obtain⟨x,q,hx,hrx⟩:=kid_at (hav.le hle) hi';obtain⟨r1,r2⟩:=hrx w8 (ho.hasM 3 rfl);refine do_eq r1 |>.mpr (do_eq r2 |>.mpr ?_);obtain⟨xk,xc,xcs,rfl,hxa⟩:=hx.open;refine o_oba ho fun b7 w9 ho=>?_;refine ob_put 0 hxa.keys.one hxa.kids.one ho rfl fun w10 ho=>?_;rw[ob_v ho 0 rfl];have hkw:=kid_wt hi';refine c_mem ho 4 rfl (ih _ _ N' w10 (by omega) (by omega) (ho.hasM 4 rfl) hx) fun y N2 w11 hle2 hy ho=>?_;obtain⟨yk,yc,ycs,rfl,hya⟩:=hy.open;have ho:OwnS M.A w w11 [.urow 27 6 (.slice (some ⟨g,0,none⟩) o.kids.length o.kids.length) o.kids.length (cs'++zs'),obE b4 ob0 (.slice none 0 0) (.slice none 0 0),obE b o vk' (.slice (some p) o.kids.length cap),.mem N2]:=ho.tail;refine do_eq (run_ia Tryz.underlying25 szOb (by omega) (by omega)) |>.mpr ?_;rw[Int.toNat_natCast,Nat.zero_add];refine o_storeU 0 ho rfl (u:=obV o.kids[i] yk yc) (new:=obC o.kids[i] yk yc) rfl szOb (obC_one _ hya.keys.one hya.kids.one) (by show i*6+6≤_;omega) fun w12 ho=>?_;rw[wrap64_id (by omega) (by omega)];refine nextX ⟨i+1,N2,cs'++obC o.kids[i] yk yc,zs'.drop 6,rfl,by omega,hle.trans hle2,?_,?_,?_⟩ (by simp[n0,RowKit.intOf];omega)
   ·rw[List.take_succ_eq_append_getElem hi'];exact ovs_app (hcs'.le hle2) (ovs_1 hy)
   ·rw[List.length_append,hl'];show i*6+6=_;omega
   ·have e:(cs'++zs').take (i*6)++obC o.kids[i] yk yc++(cs'++zs').drop (i*6+(obC o.kids[i] yk yc).length)=cs'++obC o.kids[i] yk yc++zs'.drop 6:=by
     rw[List.take_left' hl',List.drop_append,List.drop_eq_nil_of_le (by rw[hl'];omega),List.nil_append,hl']
     congr 2
     show i*6+6 - i*6=6;omega
    rw[e] at ho;exact ho
  ·have hi':i=o.kids.length:=by omega
   subst hi';simp only[hlt,decide_false,i_f];have hz:zs'=[]:=List.eq_nil_of_length_eq_zero (by omega);subst hz;rw[List.append_nil,List.take_of_length_le (Nat.le_refl _)] at *;rw[fa_o5];refine o_store 2 ho rfl (by kernel_rfl) rfl (show 0+5 < 6 by omega) fun w9 ho=>?_;obtain⟨N2,hle2,hrow,ho⟩:=OwnS.freezeU (L:=[obE b4 ob0 (.slice none 0 0) (.slice none 0 0),obE b o vk' (.slice (some ⟨g,0,none⟩) o.kids.length o.kids.length),.mem N']) ho 2 rfl;exact fin _ N2 _ _ ho (hle.trans hle2) rfl hrow (hcs'.le hle2)
theorem clone_ret (o:Ob)(v:Value)(M:Mem)(w:World)(hw:o.wt≤100000000000)(hM:M.has w)(hv:OV M.A M.w v o):RetM prog 121 #[v] M w (fun v' N=>OV N.A N.w v' o):=by
 obtain⟨vk,vc,cs,rfl,ha⟩:=hv.open;refine retM_of hM fun K hK=>S_value_Clone_ok ?_;unfold S_value_Clone;refine o_obb o ha.keys.one ha.kids.one (OwnS.memS hM) fun b w1 ho=>?_;refine o_oba ho fun b4 w2 ho=>?_;rw[ob_v ho 1 rfl];refine c_mem ho 2 rfl (changed_ret o.wt o _ M w2 (Nat.le_refl _) hw (ho.hasM 2 rfl) hv) fun y N w3 hle hy ho=>?_;obtain⟨yk,yc,ycs,rfl,hya⟩:=hy.open;refine ob_put 0 hya.keys.one hya.kids.one ho rfl fun w4 ho=>?_;exact ret_v1 (rv_cell (ho.agg 0 rfl aggOb)) (hK _ _ N _ 2 ho rfl hle hy)
end
section
open Eng
def S_write_single_0 (t3:Value)(w:World)(K:Ending→World→Prop):Prop:=
 DoX prog (mBuildS 24 1 #[(0,t3)]) w (pk K) fun t68 w=>
 K (.returned t68) w
def S_write_single (t0:Value)(w:World)(K:Ending→World→Prop):Prop:=
 DoX prog (mBox 27 t0) w (pk K) fun t1 w=>
 JoinX (fun J1=>
 DoX prog (mFA 27 t1 0) w (pk K) fun t8 w=>
 DoX prog (mLoad 3 t8) w (pk K) fun t9 w=>
 DoX prog (mEq .eql 3 (.tmp 9) (.const (.int .i64 0)) t9 (.int .i64 0)) w (pk K) fun t11 w=>
 IfX t11 (J1 [(.string ⟨#[110,117,108,108]⟩)] w) (DoX prog (mEq .eql 3 (.tmp 9) (.const (.int .i64 1)) t9 (.int .i64 1)) w (pk K) fun t13 w=>
 IfX t13 (DoX prog (mBuild 135 #[(0,(.string ⟨#[102,97,108,115,101]⟩)),(1,(.string ⟨#[116,114,117,101]⟩))]) w (pk K) fun t14 w=>
 DoX prog (mFA 27 t1 1) w (pk K) fun t15 w=>
 DoX prog (mLoad 2 t15) w (pk K) fun t16 w=>
 DoX prog (mIx 135 t14 t16) w (pk K) fun t17 w=>
 J1 [t17] w) (DoX prog (mEq .eql 3 (.tmp 9) (.const (.int .i64 2)) t9 (.int .i64 2)) w (pk K) fun t19 w=>
 IfX t19 (DoX prog (mFA 27 t1 1) w (pk K) fun t21 w=>
 DoX prog (mLoad 2 t21) w (pk K) fun t22 w=>
 CallX prog 32 #[t22] w (pk K) fun t23 w=>
 DoX prog (mExt t23 0) w (pk K) fun t24 w=>
 DoX prog (mExt t23 1) w (pk K) fun t25 w=>
 J1 [t24] w) (DoX prog (mEq .eql 3 (.tmp 9) (.const (.int .i64 3)) t9 (.int .i64 3)) w (pk K) fun t27 w=>
 IfX t27 (DoX prog (mFA 27 t1 1) w (pk K) fun t29 w=>
 DoX prog (mLoad 2 t29) w (pk K) fun t30 w=>
 CallX prog 139 #[t30] w (pk K) fun t31 w=>
 DoX prog (mExt t31 0) w (pk K) fun t32 w=>
 DoX prog (mExt t31 1) w (pk K) fun t33 w=>
 J1 [t32] w) (DoX prog (mEq .eql 3 (.tmp 9) (.const (.int .i64 4)) t9 (.int .i64 4)) w (pk K) fun t35 w=>
 IfX t35 (DoX prog (mFA 27 t1 3) w (pk K) fun t37 w=>
 DoX prog (mLoad 9 t37) w (pk K) fun t38 w=>
 CallX prog 140 #[t38] w (pk K) fun t39 w=>
 DoX prog (mExt t39 0) w (pk K) fun t40 w=>
 DoX prog (mExt t39 1) w (pk K) fun t41 w=>
 J1 [t40] w) (DoX prog (mEq .eql 3 (.tmp 9) (.const (.int .i64 5)) t9 (.int .i64 5)) w (pk K) fun t43 w=>
 IfX t43 (DoX prog (mFA 27 t1 3) w (pk K) fun t45 w=>
 DoX prog (mLoad 9 t45) w (pk K) fun t46 w=>
 CallX prog 91 #[t46] w (pk K) fun t47 w=>
 DoX prog (mExt t47 0) w (pk K) fun t48 w=>
 DoX prog (mExt t47 1) w (pk K) fun t49 w=>
 J1 [t48] w) (DoX prog (mEq .eql 3 (.tmp 9) (.const (.int .i64 8)) t9 (.int .i64 8)) w (pk K) fun t51 w=>
 IfX t51 (DoX prog (mFA 27 t1 1) w (pk K) fun t53 w=>
 DoX prog (mLoad 2 t53) w (pk K) fun t54 w=>
 CallX prog 32 #[t54] w (pk K) fun t55 w=>
 DoX prog (mExt t55 0) w (pk K) fun t56 w=>
 DoX prog (mExt t55 1) w (pk K) fun t57 w=>
 DoX prog (mFA 27 t1 2) w (pk K) fun t59 w=>
 DoX prog (mLoad 3 t59) w (pk K) fun t60 w=>
 CallX prog 32 #[t60] w (pk K) fun t61 w=>
 DoX prog (mExt t61 0) w (pk K) fun t62 w=>
 DoX prog (mExt t61 1) w (pk K) fun t63 w=>
 DoX prog (mBuildS 24 3 #[(0,t56),(1,t62),(2,(.string ⟨#[82]⟩))]) w (pk K) fun t66 w=>
 K (.returned t66) w) (J1 [(.string ⟨#[]⟩)] w)))))))) (fun vs1 w=>∀_:Sg,S_write_single_0 (vs1.getD 0 undef) w K)
theorem S_write_single_eq (t0:Value)(w:World)(K:Ending→World→Prop):wpX prog 69 [(19,[3])] [] none (bodyOf Tryz.f90) (topQ prog [.tmp 2] K) (startX [t0]) [] w=S_write_single t0 w K:=by kernel_rfl
theorem S_write_single_ok {t0:Value}{w:World}{K:Ending→World→Prop}(h:S_write_single t0 w K):Calls prog 90 #[t0] w K:=
 calls_of_wpX Tryz.func90 rfl rfl rfl rfl (Eq.mpr (S_write_single_eq t0 w K) h)
def S_write_parts_1_1_3 (t2 t9 t40:Value)(w:World)(N3:List Value→World→Prop)(K:Ending→World→Prop):Prop:=
 DoX prog (mLoad 134 t2) w (pk K) fun t61 w=>
 DoX prog (mLoad 27 t9) w (pk K) fun t62 w=>
 DoX prog (mCallV t61 #[t62]) w (pk K) fun t63 w=>
 DoX prog (mUn .not t63) w (pk K) fun t64 w=>
 IfX t64 (K (.returned (.bool false)) w) (DoX prog (mBin .add 3 t40 (.int .i64 1)) w (pk K) fun t65 w=>
 N3 [t65] w)
def S_write_parts_1_1_2 (t1 t2 t3 t5 t38 t39 t40:Value)(w:World)(N3:List Value→World→Prop)(K:Ending→World→Prop):Prop:=
 DoX prog (mBin .lss 3 t40 t39) w (pk K) fun t41 w=>
 IfX t41 (DoX prog (mIA 25 t38 t40) w (pk K) fun t43 w=>
 DoX prog (mLoad 27 t43) w (pk K) fun t44 w=>
 DoX prog (mAlloc 27) w (pk K) fun t9 w=>
 DoX prog (mStore 27 t9 t44) w (pk K) fun _ w=>
 JoinX (fun J4=>
 DoX prog (mFA 27 t3 0) w (pk K) fun t45 w=>
 DoX prog (mLoad 3 t45) w (pk K) fun t46 w=>
 DoX prog (mEq .eql 3 (.tmp 46) (.const (.int .i64 7)) t46 (.int .i64 7)) w (pk K) fun t47 w=>
 IfX t47 (DoX prog (mFA 27 t3 4) w (pk K) fun t49 w=>
 DoX prog (mLoad 24 t49) w (pk K) fun t50 w=>
 DoX prog (mIA 24 t50 t40) w (pk K) fun t52 w=>
 DoX prog (mLoad 9 t52) w (pk K) fun t53 w=>
 CallX prog 91 #[t53] w (pk K) fun t54 w=>
 DoX prog (mExt t54 0) w (pk K) fun t55 w=>
 DoX prog (mExt t54 1) w (pk K) fun t56 w=>
 DoX prog (mLoad 133 t1) w (pk K) fun t57 w=>
 DoX prog (mCallV t57 #[t55]) w (pk K) fun t59 w=>
 DoX prog (mUn .not t59) w (pk K) fun t60 w=>
 IfX t60 (K (.returned (.bool false)) w) (J4 [] w)) (J4 [] w)) (fun vs4 w=>∀_:Sg,S_write_parts_1_1_3 t2 t9 t40 w N3 K)) (DoX prog (mLoad 133 t1) w (pk K) fun t66 w=>
 DoX prog (mIA 135 t5 (.int .i64 1)) w (pk K) fun t67 w=>
 DoX prog (mLoad 9 t67) w (pk K) fun t68 w=>
 DoX prog (mCallV t66 #[t68]) w (pk K) fun t69 w=>
 K (.returned t69) w)
def S_write_parts_1_1_1 (t1 t2 t3 t5:Value)(w:World)(K:Ending→World→Prop):Prop:=
 DoX prog (mLoad 133 t1) w (pk K) fun t32 w=>
 DoX prog (mIA 135 t5 (.int .i64 0)) w (pk K) fun t33 w=>
 DoX prog (mLoad 9 t33) w (pk K) fun t34 w=>
 DoX prog (mCallV t32 #[t34]) w (pk K) fun t35 w=>
 DoX prog (mUn .not t35) w (pk K) fun t36 w=>
 IfX t36 (K (.returned (.bool false)) w) (DoX prog (mFA 27 t3 5) w (pk K) fun t37 w=>
 DoX prog (mLoad 25 t37) w (pk K) fun t38 w=>
 DoX prog (mB .len #[25] 3 #[false] #[t38]) w (pk K) fun t39 w=>
 LoopX [(.int .i64 0)] w (fun vs3 w N3=>∀_:Sg,S_write_parts_1_1_2 t1 t2 t3 t5 t38 t39 (vs3.getD 0 undef) w N3 K))
def S_write_parts_1_1_0 (t1 t16 t17 t18:Value)(w:World)(N2:List Value→World→Prop)(K:Ending→World→Prop):Prop:=
 DoX prog (mBin .lss 3 t18 t17) w (pk K) fun t19 w=>
 IfX t19 (DoX prog (mIA 24 t16 t18) w (pk K) fun t20 w=>
 DoX prog (mLoad 9 t20) w (pk K) fun t21 w=>
 DoX prog (mLoad 133 t1) w (pk K) fun t22 w=>
 DoX prog (mCallV t22 #[t21]) w (pk K) fun t24 w=>
 DoX prog (mUn .not t24) w (pk K) fun t25 w=>
 IfX t25 (K (.returned (.bool false)) w) (DoX prog (mBin .add 3 t18 (.int .i64 1)) w (pk K) fun t26 w=>
 N2 [t26] w)) (K (.returned (.bool true)) w)
def S_write_parts_1_1 (t0 t1 t2:Value)(w:World)(K:Ending→World→Prop):Prop:=
 DoX prog (mBox 27 t0) w (pk K) fun t3 w=>
 DoX prog (mBuild 135 #[(0,(.string ⟨#[91]⟩)),(1,(.string ⟨#[93]⟩))]) w (pk K) fun t12 w=>
 DoX prog (mAlloc 135) w (pk K) fun t5 w=>
 DoX prog (mStore 135 t5 t12) w (pk K) fun _ w=>
 JoinX (fun J1=>
 DoX prog (mFA 27 t3 0) w (pk K) fun t13 w=>
 DoX prog (mLoad 3 t13) w (pk K) fun t14 w=>
 DoX prog (mEq .eql 3 (.tmp 14) (.const (.int .i64 6)) t14 (.int .i64 6)) w (pk K) fun t28 w=>
 IfX t28 (J1 [] w) (DoX prog (mEq .eql 3 (.tmp 14) (.const (.int .i64 7)) t14 (.int .i64 7)) w (pk K) fun t30 w=>
 IfX t30 (DoX prog (mBuild 135 #[(0,(.string ⟨#[60,60]⟩)),(1,(.string ⟨#[62,62]⟩))]) w (pk K) fun t31 w=>
 DoX prog (mStore 135 t5 t31) w (pk K) fun _ w=>
 J1 [] w) (DoX prog (mLoad 27 t3) w (pk K) fun t15 w=>
 CallX prog 90 #[t15] w (pk K) fun t16 w=>
 DoX prog (mB .len #[24] 3 #[false] #[t16]) w (pk K) fun t17 w=>
 LoopX [(.int .i64 0)] w (fun vs2 w N2=>∀_:Sg,S_write_parts_1_1_0 t1 t16 t17 (vs2.getD 0 undef) w N2 K)))) (fun vs1 w=>∀_:Sg,S_write_parts_1_1_1 t1 t2 t3 t5 w K)
theorem S_write_parts_1_1_eq (t0 t1 t2:Value)(w:World)(K:Ending→World→Prop):wpX prog 70 [(13,[]),(22,[])] [(4,[18]),(16,[40])] none (bodyOf Tryz.f89) (topQ prog [.tmp 4] K) (startX [t0,t1,t2]) [] w=S_write_parts_1_1 t0 t1 t2 w K:=by kernel_rfl
theorem S_write_parts_1_1_ok {t0 t1 t2:Value}{w:World}{K:Ending→World→Prop}(h:S_write_parts_1_1 t0 t1 t2 w K):Calls prog 89 #[t0,t1,t2] w K:=
 calls_of_wpX Tryz.func89 rfl rfl rfl rfl (Eq.mpr (S_write_parts_1_1_eq t0 t1 t2 w K) h)
def S_write_parts_1 (t0 t1:Value)(w:World)(K:Ending→World→Prop):Prop:=
 DoX prog (mBox 133 t0) w (pk K) fun t2 w=>
 DoX prog (mAlloc 134) w (pk K) fun t3 w=>
 DoX prog (mFunc (.func 89) #[] #[t2,t3]) w (pk K) fun t4 w=>
 DoX prog (mStore 134 t3 t4) w (pk K) fun _ w=>
 DoX prog (mLoad 134 t3) w (pk K) fun t5 w=>
 DoX prog (mLoad 27 t1) w (pk K) fun t6 w=>
 DoX prog (mCallV t5 #[t6]) w (pk K) fun t7 w=>
 K (.returned (.tuple #[])) w
theorem S_write_parts_1_eq (t0 t1:Value)(w:World)(K:Ending→World→Prop):wpX prog 8 [] [] none (bodyOf Tryz.f88) (topQ prog [] K) (startX [t0,t1]) [] w=S_write_parts_1 t0 t1 w K:=by kernel_rfl
theorem S_write_parts_1_ok {t0 t1:Value}{w:World}{K:Ending→World→Prop}(h:S_write_parts_1 t0 t1 w K):Calls prog 88 #[t0,t1] w K:=
 calls_of_wpX Tryz.func88 rfl rfl rfl rfl (Eq.mpr (S_write_parts_1_eq t0 t1 w K) h)
def S_write_parts (t0:Value)(w:World)(K:Ending→World→Prop):Prop:=
 DoX prog (mBox 27 t0) w (pk K) fun t1 w=>
 DoX prog (mFunc (.func 88) #[] #[t1]) w (pk K) fun t3 w=>
 K (.returned t3) w
theorem S_write_parts_eq (t0:Value)(w:World)(K:Ending→World→Prop):wpX prog 4 [] [] none (bodyOf Tryz.f54) (topQ prog [.tmp 2] K) (startX [t0]) [] w=S_write_parts t0 w K:=by kernel_rfl
theorem S_write_parts_ok {t0:Value}{w:World}{K:Ending→World→Prop}(h:S_write_parts t0 w K):Calls prog 54 #[t0] w K:=
 calls_of_wpX Tryz.func54 rfl rfl rfl rfl (Eq.mpr (S_write_parts_eq t0 w K) h)
def S_slices_AppendSeq_string_string_p0 (x0:Nat)(K:Ending→World→Prop):=pdM prog [.val (.slice none 0 0)] K [(mkD x0)]
def S_slices_AppendSeq_string_string (t0 t1:Value)(w:World)(K:Ending→World→Prop):Prop:=
 DoX prog (mBox 24 t0) w (pk K) fun t2 w=>
 RangeX prog none 1 t1 w (fun l1 as1 w R1=>
 BegX prog l1 w (fun w=>
 DoX prog (mLoad 24 t2) w pkR fun t8 w=>
 DoX prog (mBuildS 24 1 #[(0,(as1.getD 0 undef))]) w pkR fun t10 w=>
 DoX prog (mB .append #[24,24] 24 #[false,false] #[t8,t10]) w pkR fun t11 w=>
 DoX prog (mStore 24 t2 t11) w pkR fun _ w=>
 EndX prog l1 none w R1))
 [(none,fun r1 w=>
 DoX prog (mLoad 24 t2) w (S_slices_AppendSeq_string_string_p0 r1 K) fun t12 w=>
 LeaveM prog [.val t12] K [(mkD r1)] .returning w)]
theorem S_slices_AppendSeq_string_string_eq (t0 t1:Value)(w:World)(K:Ending→World→Prop):wpX prog 13 [] [] none (bodyOf Tryz.f87) (topM prog [.tmp 4] K) (startX [t0,t1]) [] w=S_slices_AppendSeq_string_string t0 t1 w K:=by kernel_rfl
theorem S_slices_AppendSeq_string_string_ok {t0 t1:Value}{w:World}{K:Ending→World→Prop}(h:S_slices_AppendSeq_string_string t0 t1 w K):Calls prog 87 #[t0,t1] w K:=
 calls_of_wpM Tryz.func87 rfl rfl rfl rfl (Eq.mpr (S_slices_AppendSeq_string_string_eq t0 t1 w K) h)
def S_slices_Collect_string (t0:Value)(w:World)(K:Ending→World→Prop):Prop:=
 CallX prog 87 #[(.slice none 0 0),t0] w (pk K) fun t4 w=>
 K (.returned t4) w
theorem S_slices_Collect_string_eq (t0:Value)(w:World)(K:Ending→World→Prop):wpX prog 5 [] [] none (bodyOf Tryz.f53) (topQ prog [.tmp 2] K) (startX [t0]) [] w=S_slices_Collect_string t0 w K:=by kernel_rfl
theorem S_slices_Collect_string_ok {t0:Value}{w:World}{K:Ending→World→Prop}(h:S_slices_Collect_string t0 w K):Calls prog 53 #[t0] w K:=
 calls_of_wpX Tryz.func53 rfl rfl rfl rfl (Eq.mpr (S_slices_Collect_string_eq t0 w K) h)
def S_write_Text (t0:Value)(w:World)(K:Ending→World→Prop):Prop:=
 DoX prog (mBox 27 t0) w (pk K) fun t1 w=>
 DoX prog (mLoad 27 t1) w (pk K) fun t5 w=>
 CallX prog 51 #[t5] w (pk K) fun t6 w=>
 DoX prog (mEq .neq 30 (.tmp 7) (.const (.int .i64 0)) t6 (.int .i64 0)) w (pk K) fun t8 w=>
 IfX t8 (K (.returned (.tuple #[(.string ⟨#[]⟩),t6])) w) (DoX prog (mFA 27 t1 0) w (pk K) fun t10 w=>
 DoX prog (mLoad 3 t10) w (pk K) fun t11 w=>
 DoX prog (mEq .eql 3 (.tmp 11) (.const (.int .i64 9)) t11 (.int .i64 9)) w (pk K) fun t12 w=>
 IfX t12 (K (.returned (.tuple #[(.string ⟨#[]⟩),(.int .i64 10)])) w) (DoX prog (mLoad 27 t1) w (pk K) fun t13 w=>
 CallX prog 54 #[t13] w (pk K) fun t14 w=>
 CallX prog 53 #[t14] w (pk K) fun t15 w=>
 CallX prog 52 #[t15] w (pk K) fun t16 w=>
 K (.returned (.tuple #[t16,(.int .i64 0)])) w))
theorem S_write_Text_eq (t0:Value)(w:World)(K:Ending→World→Prop):wpX prog 17 [] [] none (bodyOf Tryz.f30) (topQ prog [.tmp 2,.tmp 3] K) (startX [t0]) [] w=S_write_Text t0 w K:=by kernel_rfl
theorem S_write_Text_ok {t0:Value}{w:World}{K:Ending→World→Prop}(h:S_write_Text t0 w K):Calls prog 30 #[t0] w K:=
 calls_of_wpX Tryz.func30 rfl rfl rfl rfl (Eq.mpr (S_write_Text_eq t0 w K) h)
end
section
open Eng Go.RowKit
section
variable {w:World}{PK:PKT}{K:VWP}{S:Nat→Prop}{w0:World}
theorem perm3 {A B C:List Ent}:(A++(B++C)).Perm (B++(A++C)):=by
 rw[←List.append_assoc,←List.append_assoc];exact List.Perm.append_right C List.perm_append_comm
theorem own_sink {A B M X:List Ent}(h:OwnS S w0 w (A++(B++(M++X)))):OwnS S w0 w (B++(M++(A++X))):=h.perm (perm3.trans (perm3.append_left _))
theorem own_float {A B M X:List Ent}(h:OwnS S w0 w (B++(M++(A++X)))):OwnS S w0 w (A++(B++(M++X))):=h.perm (perm3.trans (perm3.append_left _)).symm
theorem ia2_0 {b:Nat}:DoX prog (mIA 135 (.pointer (some ⟨b,0,none⟩)) (.int .i64 0)) w PK K=K (.pointer (some ⟨b,0,none⟩)) w:=do_eq (by kernel_rfl)
theorem ia2_1 {b:Nat}:DoX prog (mIA 135 (.pointer (some ⟨b,0,none⟩)) (.int .i64 1)) w PK K=K (.pointer (some ⟨b,1,none⟩)) w:=do_eq (by kernel_rfl)
theorem ix2_0 {x y:Value}:DoX prog (mIx 135 (.agg #[x,y]) (.int .i64 0)) w PK K=K x w:=do_eq (by kernel_rfl)
theorem ix2_1 {x y:Value}:DoX prog (mIx 135 (.agg #[x,y]) (.int .i64 1)) w PK K=K y w:=do_eq (by kernel_rfl)
end
theorem single_ret (o:Ob)(v:Value)(d:Nat)(w:World)(ht:Tb w)(hov:OV (InW w) w v o)(hc:Vl.check d o=0)(k6:o.k≠6)(k7:o.k≠7)(k9:o.k≠9) :
  Ret prog 90 #[v] w (fun v' w'=>Own w w' [StrRow v' (Wr.parts o)]):=by
 obtain⟨vk,vc,cs,rfl,ha⟩:=hov.open;obtain⟨_,huse,_,hfit,hsl,_,_⟩:=why_fields (Wr.check_why hc);refine ret_of fun K hK=>S_write_single_ok ?_;unfold S_write_single;refine o_obb o ha.keys.one ha.kids.one (Own.start w) fun b w1 ho=>?_;rw[Wr.parts_eq,if_neg k6,if_neg k7] at hK;refine join fun J hJ=>?_;have fin:∀{t:List UInt8} {W:World} {L:List Ent},Own w W L→o.k≠8→t=Wr.leaf o.k o.n o.s→J [.string ⟨t.toArray⟩] W:=by
  rintro t W L ho h8 rfl;refine hJ _ _ fun _=>?_;simp only[S_write_single_0,gd];rw[if_neg h8] at hK;refine o_new (fun b=>.slice (some ⟨b,0,none⟩) 1 1) [.string ⟨(Wr.leaf o.k o.n o.s).toArray⟩] 9 (fun _=>by kernel_rfl) ho fun nb w4 h4=>?_;exact hK _ _ ((h4.toRow 1 1 1 rfl (by omega) (by omega)).sub (.cons_cons _ (List.nil_sublist _)))
 rw[fa_o0,ob_k ho 0 rfl];simp only[rs,fa_o1,fa_o2,fa_o3,ob_n ho 0 rfl,ob_s ho 0 rfl];by_cases k0:o.k=0
 ·simp only[k0,decide_true,i_t];exact fin (t:=Wr.nul) ho (by omega) (by simp[Wr.leaf,k0])
 by_cases k1:o.k=1
 ·simp only[k1,Int.reduceEq,decide_true,decide_false,i_t,i_f];have hf:0≤o.n∧o.n≤1:=by simpa[Vl.fits,k1] using hfit
  have hb:∀{PK:PKT} {K:VWP},DoX prog (mBuild 135 #[(0,(.string ⟨#[102,97,108,115,101]⟩)),(1,(.string ⟨#[116,114,117,101]⟩))]) w1 PK K=K (.agg #[.string ⟨Wr.fal.toArray⟩,.string ⟨Wr.tru.toArray⟩]) w1:=do_eq (by kernel_rfl);rw[hb,ob_n ho 0 rfl];rcases (show o.n=0∨o.n=1 by omega) with hn|hn
  ·skip
   rw[hn,ix2_0];exact fin ho (by omega) (by simp[Wr.leaf,k1,hn])
  ·rw[hn,ix2_1];exact fin ho (by omega) (by simp[Wr.leaf,k1,hn])
 by_cases k2:o.k=2
 ·simp only[k2,Int.reduceEq,decide_true,decide_false,i_t,i_f];refine c_told (pint_ret o.n w1 (ht.own ho)) rfl ho fun w2 ho=>?_;simp only[ex];exact fin ho (by omega) (by simp[Wr.leaf,k2,Wr.num])
 by_cases k3:o.k=3
 ·simp only[k3,Int.reduceEq,decide_true,decide_false,i_t,i_f];refine c_told (preal_ret o.n w1) rfl ho fun w2 ho=>?_;simp only[ex];exact fin ho (by omega) (by simp[Wr.leaf,k3])
 by_cases k4:o.k=4
 ·simp only[k4,Int.reduceEq,decide_true,decide_false,i_t,i_f];have hl:Vl.long o.k=32767:=by rw[k4];rfl
  refine c_told (pstr_ret o.s w1 (by omega)) rfl ho fun w2 ho=>?_;simp only[ex];exact fin ho (by omega) (by simp[Wr.leaf,k4])
 by_cases k5:o.k=5
 ·simp only[k5,Int.reduceEq,decide_true,decide_false,i_t,i_f];refine c_told (pname_ret o.s w1) rfl ho fun w2 ho=>?_;simp only[ex];exact fin ho (by omega) (by simp[Wr.leaf,k5])
 have k8:o.k=8:=by
  unfold Vl.usesOk Vl.used at huse;simp only[k0,k1,k2,k3,k4,k5,k6,k7,k9,or_self,if_false] at huse;by_cases h:o.k=8
  ·exact h
  ·simp[h] at huse
 rw[if_pos k8] at hK;simp only[k8,Int.reduceEq,decide_true,decide_false,i_t,i_f];refine c_told (pint_ret o.n w1 (ht.own ho)) rfl ho fun w2 ho=>?_;simp only[ex,ob_g ho 0 rfl];refine c_told (pint_ret o.g w2 (ht.own ho)) rfl ho fun w3 ho=>?_;simp only[ex];refine o_new (fun b=>.slice (some ⟨b,0,none⟩) 3 3) [.string ⟨(Wr.num o.n).toArray⟩,.string ⟨(Wr.num o.g).toArray⟩,.string ⟨#[82]⟩] 9 (fun _=>by kernel_rfl) ho fun nb w4 h4=>?_;exact hK _ _ ((h4.toRow 1 3 3 rfl (by omega) (by omega)).sub (.cons_cons _ (List.nil_sublist _)))
end
section
open Eng Go.RowKit
def yldE (b lb:Nat):Ent:=.cells b [.func (.yield lb) #[] #[]] 133
def telV (b1 b2:Nat):Value:=.func (.func 89) #[] #[.pointer (some ⟨b1,0,none⟩),.pointer (some ⟨b2,0,none⟩)]
def telE (b1 b2:Nat):Ent:=.cells b2 [telV b1 b2] 134
def endE (b:Nat)(x y:List UInt8):Ent:=.cells b [.string ⟨x.toArray⟩,.string ⟨y.toArray⟩] 135
theorem nFs:notAgg prog 133=true:=by kernel_rfl
theorem nFo:notAgg prog 134=true:=by kernel_rfl
theorem sz2:(Tryz.prog.info? 135).map (·.size)=some 2:=by kernel_rfl
theorem tell_plain:plainB prog 89=true:=by kernel_rfl
def midTo (o:Ob)(i:Nat):List (List UInt8):=if o.k=7 then Wr.partsD (o.keys.take i) (o.kids.take i) else Wr.partsL (o.kids.take i)
theorem strs_get {ps:List (List UInt8)}{j:Nat}{x:Value}(h:(strsV ps)[j]?=some x):∃y,ps[j]?=some y∧x=.string ⟨y.toArray⟩:=by
 unfold strsV at h;rw[List.getElem?_map] at h;cases hy:ps[j]? with
|none=>rw[hy] at h;cases h
|some y=>rw[hy] at h;exact⟨y,rfl,by simpa[strV] using h.symm⟩
theorem mid_split (o:Ob)(i:Nat):∃t,midTo o o.kids.length=midTo o i++t:=by
 unfold midTo;split
 ·rw[Wr.partsD_min _ _ _ (.inr (Nat.le_refl _))];exact⟨_,Wr.partsD_split o.keys o.kids i⟩
 ·rw[List.take_length];exact⟨Wr.partsL (o.kids.drop i),by rw[←Wr.partsL_app,List.take_append_drop]⟩
theorem tell_any (A:Nat→Prop)(wb:World)(S:Nat→Prop)(w0:World)(L0:Loop)(lb df b1 b2:Nat)(R:Nat→List Ent→Prop)(vs:List Value)(Kf:World→Prop)
  (hI:∀(L:List Ent) (W:World),OwnS S w0 W L→Tb W∧Kept A wb W) (hA:∀(L:List Ent) (W:World),OwnS S w0 W L→∀b,A b→b < W.heap.size)
  (hy:∀(k:Nat) (v:Value) (M X:List Ent) (W:World),vs[k]?=some v→R k M→OwnS S w0 W (loopE L0 lb df++(M++X)) →
   Yld prog lb [v] W (fun r W'=>(r=.bool true∧∃M',R (k+1) M'∧OwnS S w0 W' (loopE L0 lb df++(M'++X)))∨(r=.bool false∧Kf W'))) (n:Nat) :
  ∀(o:Ob) (v:Value) (d:Nat) (M X:List Ent) (k:Nat) (w1:World) (K:Ending→World→Prop),o.wt≤n→OV A wb v o→o.wt≤100000000→Vl.check d o=0→1≤d→o.k≠9 →
   yldE b1 lb∈X→telE b1 b2∈X→OwnS S w0 w1 (loopE L0 lb df++(M++X))→R k M→(∀(j:Nat) (x:List UInt8),(Wr.parts o)[j]?=some x→vs[k+j]?=some (.string ⟨x.toArray⟩)) →
   (∀(M':List Ent) (W:World),R (k+(Wr.parts o).length) M'→OwnS S w0 W (loopE L0 lb df++(M'++X))→K (.returned (.bool true)) W)→(∀W,Kf W→K (.returned (.bool false)) W) →
   Calls prog 89 #[v,.pointer (some ⟨b1,0,none⟩),.pointer (some ⟨b2,0,none⟩)] w1 K:=by
 induction n with
|zero=>intro o v d M X k w1 K h;have:=o.wt_pos;omega
|succ n ih=>
 intro o v d M X k w1 K hn hov hb hc hd k9 hX1 hX2 ho hR hseg hK hKf;obtain⟨vk,vc,cs,rfl,ha⟩:=hov.open;obtain⟨hd24,_,_,_,hsl,hkl,hform⟩:=why_fields (Wr.check_why hc);have hkc:=Wr.check_kids hc
 -- the cells of the closure
 have c1:∀{A' M':List Ent} {W:World},OwnS S w0 W (A'++(loopE L0 lb df++(M'++X)))→∀{PK:PKT} {K:VWP},DoX prog (mLoad 133 (.pointer (some ⟨b1,0,none⟩))) W PK K=K (.func (.yield lb) #[] #[]) W:=fun h=>l_cell nFs (cells_cell (h.mem (e:=yldE b1 lb) (by simp[hX1])) (i:=0) rfl);have c2:∀{A' M':List Ent} {W:World},OwnS S w0 W (A'++(loopE L0 lb df++(M'++X)))→∀{PK:PKT} {K:VWP},DoX prog (mLoad 134 (.pointer (some ⟨b2,0,none⟩))) W PK K=K (telV b1 b2) W:=fun h=>l_cell nFo (cells_cell (h.mem (e:=telE b1 b2) (by simp[hX2])) (i:=0) rfl)
 -- one piece is handed out
 have give:∀(A' M':List Ent) (j:Nat) (x:List UInt8) (W:World) (PK:PKT) (K':VWP),(Wr.parts o)[j]?=some x→R (k+j) M'→OwnS S w0 W (A'++(loopE L0 lb df++(M'++X))) →
   (∀M2 W2,R (k+j+1) M2→OwnS S w0 W2 (A'++(loopE L0 lb df++(M2++X)))→K' (.bool true) W2)→(∀W2,Kf W2→K' (.bool false) W2) →
   DoX prog (mCallV (.func (.yield lb) #[] #[]) #[.string ⟨x.toArray⟩]) W PK K':=by
  intro A' M' j x W PK K' hx hR ho h1 h2;refine c_yld (hy (k+j) _ M' (A'++X) W (hseg j x hx) hR (own_sink ho)) ?_;rintro r W2 (⟨rfl,M2,hR2,ho2⟩|⟨rfl,hk⟩)
  ·exact h1 M2 W2 hR2 (own_float ho2)
  ·exact h2 W2 hk
 refine S_write_parts_1_1_ok ?_;unfold S_write_parts_1_1;refine o_obb o ha.keys.one ha.kids.one ho fun b3 w2 ho=>?_;have mb:∀{x y:List UInt8} {W:World} {PK:PKT} {K:VWP},DoX prog (mBuild 135 #[(0,.string ⟨x.toArray⟩),(1,.string ⟨y.toArray⟩)]) W PK K=K (.agg #[.string ⟨x.toArray⟩,.string ⟨y.toArray⟩]) W:=do_eq (by kernel_rfl);rw[mb (x:=[91]) (y:=[93])];refine o_new (fun b=>.pointer (some ⟨b,0,none⟩)) [.string ⟨#[]⟩,.string ⟨#[]⟩] 135 (fun _=>by kernel_rfl) ho fun b5 w3 ho=>?_;refine o_put 0 ho rfl (new:=[.string ⟨([91]:List UInt8).toArray⟩,.string ⟨([93]:List UInt8).toArray⟩]) sz2 (by simp;exact⟨rfl,rfl⟩) rfl fun w4 ho=>?_;have ho:OwnS S w0 w4 ([endE b5 [91] [93],obE b3 o vk vc]++(loopE L0 lb df++(M++X))):=ho;refine join fun J hJ=>?_
 -- behind the choice of the brackets
 have main:∀(x y:List UInt8) (W:World),OwnS S w0 W ([endE b5 x y,obE b3 o vk vc]++(loopE L0 lb df++(M++X)))→(o.k=6∨o.k=7)→Wr.parts o=[x]++(midTo o o.kids.length++[y]) →
   S_write_parts_1_1_1 (.pointer (some ⟨b1,0,none⟩)) (.pointer (some ⟨b2,0,none⟩)) (.pointer (some ⟨b3,0,none⟩)) (.pointer (some ⟨b5,0,none⟩)) W K:=by
  intro x y W ho h67 hp;unfold S_write_parts_1_1_1;have le0:∀{A':List Ent} {W:World},OwnS S w0 W (endE b5 x y::A')→∀{PK:PKT} {K:VWP},DoX prog (mLoad 9 (.pointer (some ⟨b5,0,none⟩))) W PK K=K (.string ⟨x.toArray⟩) W:=fun h=>l_cell nStr5 (h.cell 0 rfl 0 rfl);have le1:∀{A':List Ent} {W:World},OwnS S w0 W (endE b5 x y::A')→∀{PK:PKT} {K:VWP},DoX prog (mLoad 9 (.pointer (some ⟨b5,1,none⟩))) W PK K=K (.string ⟨y.toArray⟩) W:=fun h=>l_cell nStr5 (h.cell 0 rfl 1 rfl);rw[c1 ho,ia2_0,le0 ho];refine give [endE b5 x y,obE b3 o vk vc] M 0 x W _ _ (by rw[hp];rfl) hR ho ?_ (fun W2 hk=>by rw[u_not,Bool.not_false,i_t];exact hKf W2 hk);intro M2 W2 hR2 ho;rw[u_not,Bool.not_true,i_f,fa_o5,ob_kids ho 1 rfl];have lc:∀{W:World} {L:List Ent},OwnS S w0 W L→∀{PK:PKT} {K:VWP},DoX prog (mB .len #[25] 3 #[false] #[vc]) W PK K=K (.int .i64 (o.kids.length:Int)) W:=fun ho=>sl_len Tryz.underlying25 (ha.kept (hI _ _ ho).2).kids.1;rw[lc ho];have hmem:∀(i q:Nat) (z:List UInt8),(midTo o i)[q]?=some z→(Wr.parts o)[1+q]?=some z:=by
   intro i q z hz;obtain⟨t,ht⟩:=mid_split o i;rw[hp,List.getElem?_append_right (by simp),List.length_singleton,Nat.add_sub_cancel_left,ht,List.append_assoc,List.getElem?_append_left (List.getElem?_eq_some_iff.1 hz).1];exact hz
  refine loop (fun vs' w'=>∃(i:Nat) (M':List Ent),vs'=[.int .i64 i]∧i≤o.kids.length∧R (k+1+(midTo o i).length) M'∧OwnS S w0 w' ([endE b5 x y,obE b3 o vk vc]++(loopE L0 lb df++(M'++X)))) (fun vs' _=>o.kids.length - n0 vs')
   ⟨0,M2,rfl,by omega,by simpa[midTo,Wr.partsD,Wr.partsL] using hR2,ho⟩ ?_
  rintro vs' w5 ⟨i,M3,rfl,hi,hR3,ho⟩ _;simp only[S_write_parts_1_1_2,gd,rs];by_cases hlt:(i:Int) < (o.kids.length:Int)
  ·have hi':i < o.kids.length:=by omega
   simp only[hlt,decide_true,i_t];obtain⟨v,p,hv,hr⟩:=kid_at ha hi';obtain⟨r1,r2⟩:=hr w5 (hI _ _ ho).2;refine do_eq r1 |>.mpr (do_eq r2 |>.mpr ?_);obtain⟨vk',vc',cs',rfl,hkid⟩:=hv.open;refine o_oba ho fun b9 w6 ho=>?_;refine ob_put 0 hkid.keys.one hkid.kids.one ho rfl fun w7 ho=>?_;have ho:OwnS S w0 w7 ([obE b9 o.kids[i] vk' vc',endE b5 x y,obE b3 o vk vc]++(loopE L0 lb df++(M3++X))):=ho;refine join fun J2 hJ2=>?_;have hkw:=kid_wt hi'
   -- the kid,behind its key
   have kid:∀(m:Nat) (M4:List Ent) (W:World),(midTo o (i+1)).length=m+(Wr.parts o.kids[i]).length→(∀(j:Nat) (z:List UInt8),(Wr.parts o.kids[i])[j]?=some z→(Wr.parts o)[1+m+j]?=some z)→R (k+1+m) M4 →
     OwnS S w0 W ([obE b9 o.kids[i] vk' vc',endE b5 x y,obE b3 o vk vc]++(loopE L0 lb df++(M4++X)))→J2 [] W:=by
    intro m M4 W hm hsub hR4 ho;refine hJ2 _ _ fun _=>?_;unfold S_write_parts_1_1_3;rw[c2 ho,ob_v ho 0 rfl];refine c_val tell_plain ?_;refine c_any (ih o.kids[i] _ (d+1) M4 ([obE b9 o.kids[i] vk' vc',endE b5 x y,obE b3 o vk vc]++X) (k+1+m) W
     (fun e w'=>(e=.returned (.bool true)∧∃M',R (k+1+m+(Wr.parts o.kids[i]).length) M'∧OwnS S w0 w' (loopE L0 lb df++(M'++([obE b9 o.kids[i] vk' vc',endE b5 x y,obE b3 o vk vc]++X))))∨(e=.returned (.bool false)∧Kf w'))
     (by omega) hkid.ov (by omega) (hkc _ (List.getElem_mem hi')) (by omega) ?_ (by simp[hX1]) (by simp[hX2]) (own_sink ho) hR4 ?_ (fun M' W' h1 h2=>.inl ⟨rfl,M',h1,h2⟩) (fun W' h=>.inr ⟨rfl,h⟩)) ?_
    ·intro h9;have:=(why_fields (Wr.check_why (hkc _ (List.getElem_mem hi')))).2.2.1;exact this ⟨h9,by omega⟩
    ·intro j z hz;rw[show k+1+m+j=k+(1+m+j) by omega];exact hseg _ z (hsub j z hz)
    ·rintro e w8 (⟨rfl,M5,hR5,ho5⟩|⟨rfl,hk⟩)
     ·simp only[Cont];rw[u_not,Bool.not_true,i_f,b_add,wrap64_id (by omega) (by omega)];refine nextX ⟨i+1,M5,rfl,by omega,?_,(own_float ho5).tail⟩ (by simp[n0,RowKit.intOf];omega);rw[hm,←Nat.add_assoc];exact hR5
     ·simp only[Cont];rw[u_not,Bool.not_false,i_t];exact hKf w8 hk
   rw[fa_o0,ob_k ho 2 rfl];simp only[rs];by_cases k7:o.k=7
   ·have hle:o.keys.length=o.kids.length:=by
     have hf:=hform;simp only[Vl.form,k7,true_or,decide_true,Bool.not_true,Bool.false_or,Bool.and_eq_true] at hf;have:=hf.2;simp only[Vl.rising,Bool.and_eq_true,decide_eq_true_eq] at this;exact this.1
    have hik:i < o.keys.length:=by omega
    have hs:midTo o (i+1)=midTo o i++(Pl.pName o.keys[i]).1::Wr.parts o.kids[i]:=by
     unfold midTo;rw[if_pos k7,if_pos k7];exact Wr.partsD_succ o.keys o.kids i hik hi'
    simp only[k7,decide_true,i_t,fa_o4,ob_keys ho 2 rfl];obtain⟨pk',hrk⟩:=key_at ha hik;obtain⟨q1,q2⟩:=hrk w7 (hI _ _ ho).2;refine do_eq q1 |>.mpr (do_eq q2 |>.mpr ?_);refine c_ret (pname_ret o.keys[i] w7) ?_;rintro v8 w8 ⟨rfl,hb8⟩;have ho:=ho.grow hb8;simp only[ex];rw[c1 ho];refine give [obE b9 o.kids[i] vk' vc',endE b5 x y,obE b3 o vk vc] M3 (1+(midTo o i).length) (Pl.pName o.keys[i]).1 w8 _ _ (hmem (i+1) _ _ ?_) (by rw[←Nat.add_assoc];exact hR3) ho (fun M4 W4 hR4 ho4=>?_) (fun W hk=>?_)
    ·rw[hs,List.getElem?_append_right (Nat.le_refl _)];simp
    ·rw[u_not,Bool.not_true,i_f];refine kid ((midTo o i).length+1) M4 W4 ?_ ?_ ?_ ho4
     ·rw[hs];simp;omega
     ·intro j z hz;rw[Nat.add_assoc];refine hmem (i+1) _ z ?_;rw[hs,List.getElem?_append_right (by omega),show (midTo o i).length+1+j - (midTo o i).length=j+1 by omega,List.getElem?_cons_succ];exact hz
     ·rw[show k+1+((midTo o i).length+1)=k+(1+(midTo o i).length)+1 by omega];exact hR4
    ·rw[u_not,Bool.not_false,i_t];exact hKf W hk
   ·have hs:midTo o (i+1)=midTo o i++Wr.parts o.kids[i]:=by
     unfold midTo;rw[if_neg k7,if_neg k7];exact Wr.partsL_succ o.kids i hi'
    simp only[k7,decide_false,i_f];refine kid (midTo o i).length M3 w7 (by rw[hs,List.length_append]) ?_ hR3 ho;intro j z hz;rw[Nat.add_assoc];refine hmem (i+1) _ z ?_;rw[hs,List.getElem?_append_right (by omega),Nat.add_sub_cancel_left];exact hz
  ·simp only[hlt,decide_false,i_f];have hie:i=o.kids.length:=by omega
   subst hie;rw[c1 ho,ia2_1,le1 ho];refine give [endE b5 x y,obE b3 o vk vc] M3 (1+(midTo o o.kids.length).length) y w5 _ _ ?_ (by rw[←Nat.add_assoc];exact hR3) ho (fun M4 W4 hR4 ho4=>hK M4 W4 ?_ ?_) (fun W2 hk=>hKf W2 hk)
   ·rw[hp,List.getElem?_append_right (by simp),List.getElem?_append_right (by simp)];simp
   ·rw[hp];simp only[List.length_append,List.length_cons,List.length_nil];have e:k+(0+1+((midTo o o.kids.length).length+(0+1)))=k+(1+(midTo o o.kids.length).length)+1:=by omega
    rw[e];exact hR4
   ·exact ho4.tail.tail
 rw[fa_o0,ob_k ho 1 rfl];simp only[rs];by_cases k6:o.k=6
 ·simp only[k6,decide_true,i_t];refine hJ _ _ fun _=>main [91] [93] w4 ho (.inl k6) ?_;rw[Wr.parts_eq,if_neg (by omega),if_pos k6,midTo,if_neg (by omega),List.take_length];rfl
 by_cases k7:o.k=7
 ·simp only[k7,Int.reduceEq,decide_true,decide_false,i_t,i_f];rw[mb (x:=[60,60]) (y:=[62,62])];refine o_put 0 ho rfl (new:=[.string ⟨([60,60]:List UInt8).toArray⟩,.string ⟨([62,62]:List UInt8).toArray⟩]) sz2 (by simp;exact⟨rfl,rfl⟩) rfl fun w5 ho=>?_;refine hJ _ _ fun _=>main [60,60] [62,62] w5 ho (.inr k7) ?_;rw[Wr.parts_eq,if_neg (by omega),if_neg (by omega),if_pos k7,midTo,if_pos k7,Wr.partsD_min _ _ _ (.inr (Nat.le_refl _))];rfl
 simp only[k6,k7,decide_false,i_f];rw[ob_v ho 1 rfl];refine c_ret (single_ret o _ d w4 (hI _ _ ho).1 (OV.mono (hA _ _ ho) _ _ (ha.kept (hI _ _ ho).2).ov) hc k6 k7 k9) ?_;intro v5 w5 hnew;have ho:=ho.join hnew;have ho:OwnS S w0 w5 ([StrRow v5 (Wr.parts o),endE b5 [91] [93],obE b3 o vk vc]++(loopE L0 lb df++(M++X))):=ho;have hpos:0 < (Wr.parts o).length:=by rw[Wr.parts_eq,if_neg k6,if_neg k7];split<;>simp
 have hpl:=Wr.parts_len o;obtain⟨g,off,cap,rfl,_⟩:=sl_open (ho.slRow 0 rfl) hpos;rw[show DoX prog (mB .len #[24] 3 #[false] #[.slice (some ⟨g,off,none⟩) (Wr.parts o).length cap]) w5=DoX prog (mB .len #[24] 3 #[false] #[.slice (some ⟨g,off,none⟩) (Wr.parts o).length cap]) w5 from rfl,sl_len Tryz.underlying24 (ho.slRow 0 rfl)];refine loop (fun vs' w'=>∃(i:Nat) (M':List Ent),vs'=[.int .i64 i]∧i≤(Wr.parts o).length∧R (k+i) M'∧OwnS S w0 w' ([StrRow (.slice (some ⟨g,off,none⟩) (Wr.parts o).length cap) (Wr.parts o),endE b5 [91] [93],obE b3 o vk vc]++(loopE L0 lb df++(M'++X))))
  (fun vs' _=>(Wr.parts o).length - n0 vs') ⟨0,M,rfl,by omega,hR,ho⟩ ?_
 rintro vs' w6 ⟨i,M3,rfl,hi,hR3,ho⟩ _;simp only[S_write_parts_1_1_0,gd,rs];by_cases hlt:(i:Int) < ((Wr.parts o).length:Int)
 ·have hi':i < (Wr.parts o).length:=by omega
  simp only[hlt,decide_true,i_t];obtain⟨g',off',cap',he,hcl⟩:=sl_open (ho.slRow 0 rfl) hpos;cases he;refine do_eq (run_ia Tryz.underlying24 (show _=some 1 by kernel_rfl) (by omega) (by omega)) |>.mpr ?_;have hq:=hcl i _ (strsV_get hi');rw[Int.toNat_natCast,Nat.mul_one,l_cell nStr5 hq,c1 ho];refine give [StrRow (.slice (some ⟨g,off,none⟩) (Wr.parts o).length cap) (Wr.parts o),endE b5 [91] [93],obE b3 o vk vc] M3 i (Wr.parts o)[i] w6 _ _ (List.getElem?_eq_getElem hi') hR3 ho (fun M4 W4 hR4 ho4=>?_) (fun W hk=>?_)
  ·rw[u_not,Bool.not_true,i_f,wrap64_id (by omega) (by omega)];exact nextX ⟨i+1,M4,rfl,by omega,hR4,ho4⟩ (by simp[n0,RowKit.intOf];omega)
  ·rw[u_not,Bool.not_false,i_t];exact hKf W hk
 ·simp only[hlt,decide_false,i_f];have hie:i=(Wr.parts o).length:=by omega
  subst hie;exact hK M3 w6 hR3 ho.tail.tail.tail
end
section
open Eng Go.RowKit
def Obw (wb:World)(W:World):Prop:=Tb W∧Kept (InW wb) wb W∧wb.heap.size≤W.heap.size
theorem parts_seq (wb:World)(o:Ob)(vk vc:Value)(cs:List Value)(b:Nat)(ha:ObAt (InW wb) wb o vk vc cs)(hb:o.wt≤100000000)(hc:Vl.check 1 o=0)(k9:o.k≠9) :
  Seq prog (Obw wb) 88 #[] #[.pointer (some ⟨b,0,none⟩)] [obE b o vk vc] (strsV (Wr.parts o)):=by
 intro S w0 w1 L0 lb df M0 R K hI ho hR hy hend;show Calls prog 88 #[.func (.yield lb) #[] #[],.pointer (some ⟨b,0,none⟩)] w1 K;refine S_write_parts_1_ok ?_;unfold S_write_parts_1;refine o_new (fun b=>.pointer (some ⟨b,0,none⟩)) [.func (.yield lb) #[] #[]] 133 (fun _=>by kernel_rfl) ho fun b1 w2 ho=>?_;refine o_new (fun b=>.pointer (some ⟨b,0,none⟩)) [.nilFunc] 134 (fun _=>by kernel_rfl) ho fun b2 w3 ho=>?_;rw[m_func];refine o_store 0 ho rfl (by kernel_rfl) rfl (by simp) fun w4 ho=>?_;have ho:OwnS S w0 w4 ([telE b1 b2,yldE b1 lb]++(loopE L0 lb df++(M0++[obE b o vk vc]))):=ho;rw[l_cell nFo (ho.cell 0 rfl 0 rfl),l_at ((show (Ent.cells b (obC o vk vc) 27).is w4 from ho.mem (by simp[obE])) |> fun h=>AtV.agg aggOb rfl fun j v hj=>by simpa using cells_cell h hj)];refine c_val tell_plain ?_;refine c_any (tell_any (InW wb) wb S w0 L0 lb df b1 b2 R (strsV (Wr.parts o)) (fun W=>K (.returned (.tuple #[])) W) (fun L W h=>⟨(hI L W h).1,(hI L W h).2.1⟩) (fun L W h b hb=>Nat.lt_of_lt_of_le hb (hI L W h).2.2) hy o.wt o _ 1 M0 ([telE b1 b2,yldE b1 lb]++[obE b o vk vc]) 0 w4
  (fun e w'=>(e=.returned (.bool true)∧∃M',R (0+(Wr.parts o).length) M'∧OwnS S w0 w' (loopE L0 lb df++(M'++([telE b1 b2,yldE b1 lb]++[obE b o vk vc]))))∨(e=.returned (.bool false)∧K (.returned (.tuple #[])) w'))
  (Nat.le_refl _) ha.ov hb hc (by omega) k9 (by simp) (by simp) (own_sink ho) hR ?_ (fun M' W' h1 h2=>.inl ⟨rfl,M',h1,h2⟩) (fun W' h=>.inr ⟨rfl,h⟩)) ?_
 ·intro j x hx;rw[Nat.zero_add];unfold strsV;rw[List.getElem?_map,hx];rfl
 ·rintro e w8 (⟨rfl,M5,hR5,ho5⟩|⟨rfl,hk⟩)
  ·simp only[Cont];refine hend M5 _ w8 ?_ ho5;rw[strsV_length,←Nat.zero_add (Wr.parts o).length];exact hR5
  ·exact hk
def slc7 (b:Nat)(v:Value):Ent:=.cells b [v] 24
theorem collectS_ret {I:World→Prop}{f:Nat}{fa ca:Array Value}{F:List Ent}{ns:List (List UInt8)}(hseq:Seq prog I f fa ca F (strsV ns))(hp:plainB prog f=true)(hl:ns.length≤100000000000)
  {S:Nat→Prop} {w0 w:World} {L:List Ent} (hI:∀(L:List Ent) (W:World),OwnS S w0 W L→I W) (ho:OwnS S w0 w (F++L)) :
  Ret prog 53 #[.func (.func f) fa ca] w (fun v w'=>OwnS S w0 w' (StrRow v ns::L)):=by
 refine ret_of fun K hK=>S_slices_Collect_string_ok ?_;unfold S_slices_Collect_string;refine c_any (S_slices_AppendSeq_string_string_ok (K:=RetK fun v w'=>OwnS S w0 w' (StrRow v ns::L)) ?_) (fun e w' ⟨v,he,hv⟩=>by subst he;exact hK _ _ hv);unfold S_slices_AppendSeq_string_string;have ho:=ho.nilRow 9 1;refine o_new (fun b=>.pointer (some ⟨b,0,none⟩)) [.slice none 0 0] 24 (fun _=>by kernel_rfl) ho fun b2 w1 ho=>?_;refine range ho hp fun L0 df lb w2 ho hy=>?_;refine hseq S w0 w2 L0 lb df (slc7 b2 (.slice none 0 0)::StrRow (.slice none 0 0) []::L) (fun k M=>∃v,M=slc7 b2 v::StrRow v (ns.take k)::L) _ hI ?_ ⟨.slice none 0 0,by rw[List.take_zero]⟩ ?_ ?_
 ·refine ho.perm ?_;show List.Perm (_::_::_::_::(F++L)) (_::_::_::_::(L++F));exact (List.Perm.cons _ (List.Perm.cons _ (List.Perm.cons _ (List.Perm.cons _ List.perm_append_comm))))
 ·rintro k v M X W hk ⟨u,rfl⟩ ho;obtain⟨x,hx,rfl⟩:=strs_get hk;have hkl:k < ns.length:=(List.getElem?_eq_some_iff.1 hx).1;have ho:OwnS S w0 W (.obj lb (lp L0 .ready none)::.obj df (.deferred (some []))::slc7 b2 u::StrRow u (ns.take k)::(L++X)):=ho;refine hy _ W _ (ho.at_ 0 rfl) rfl ?_;refine o_beg 0 ho rfl fun W3 ho=>?_;rw[l_cell nSlS5 (ho.cell 2 rfl 0 rfl)];refine o_appS1 3 ho rfl (by rw[List.length_take];omega) fun v' W4 ho=>?_;refine o_store 2 ho rfl (by kernel_rfl) (sl_one5 (ho.slRow 3 rfl)) (by simp) fun W5 ho=>?_;refine o_end 0 ho rfl fun W6 ho=>?_;refine .inl ⟨rfl,slc7 b2 v'::StrRow v' (ns.take (k+1))::L,⟨v',rfl⟩,?_⟩;have e:ns.take (k+1)=ns.take k++[x]:=by
   rw[List.take_succ_eq_append_getElem hkl,(List.getElem?_eq_some_iff.1 hx).2]
  rw[e];exact ho
 ·rintro M X W ⟨u,rfl⟩ ho;rw[strsV_length,List.take_length] at ho;refine⟨_,.ready,none,_,rfl,(by intro h;cases h),ho.at_ 0 rfl,List.mem_cons.2 (.inl rfl),?_⟩;have hp':OwnS S w0 (putO W lb (lp L0 .exhausted none)) (.obj lb (lp L0 .exhausted none)::.obj df (.deferred (some []))::slc7 b2 u::StrRow u ns::(L++X)):=put_iter (o':=lp L0 .exhausted none) ho 0 rfl;have hp':OwnS S w0 (putO W lb (lp L0 .exhausted none)) (.obj df (.deferred (some []))::slc7 b2 u::StrRow u ns::(L++X)):=hp'.tail;rw[l_cell nSlS5 (hp'.cell 1 rfl 0 rfl)];refine leave1 0 hp' rfl fun W4 ho=>?_;show RetK (fun v w'=>OwnS S w0 w' (StrRow v ns::L)) (.returned u) W4;refine retK ?_;exact ho.tail.tail.sub (.cons_cons _ (List.sublist_append_left _ _))
def txtV (x:List UInt8×Int):Value:=.tuple #[.string ⟨x.1.toArray⟩,.int .i64 x.2]
theorem parts_plain:plainB prog 88=true:=by kernel_rfl
theorem n_err {xo yo:Operand}{a b:Int}{w:World}{PK:PKT}{K:VWP}:DoX prog (mEq .neq 30 xo yo (.int .i64 a) (.int .i64 b)) w PK K=K (.bool (decide (a≠b))) w:=n_int
theorem wtext7_ret (o:Ob)(v:Value)(w:World)(ht:Tb w)(hov:OV (InW w) w v o)(hb:o.wt≤100000000):Ret prog 30 #[v] w (fun v w'=>v=txtV (Wr.text o)∧Below w.heap.size w w'):=by
 obtain⟨vk,vc,cs,rfl,ha⟩:=hov.open;refine ret_of fun K hK=>S_write_Text_ok ?_;unfold S_write_Text;refine o_obb o ha.keys.one ha.kids.one (Own.start w) fun b w1 ho=>?_;rw[ob_v ho 0 rfl];refine c_told (vCheck_ret o _ w1 (ha.in_ ho).ov (by omega)) rfl ho fun w2 ho=>?_;rw[n_err];by_cases hc:Vl.check 1 o=0
 case neg=>
  simp only[ne_eq,hc,not_false_eq_true,decide_true,i_t];refine hK _ _ ⟨?_,ho.done⟩;simp[Wr.text,hc,txtV]
 simp only[hc,ne_eq,not_true,decide_false,i_f];rw[fa_o0,ob_k ho 0 rfl];simp only[rs];by_cases k9:o.k=9
 ·simp only[k9,decide_true,i_t];refine hK _ _ ⟨?_,ho.done⟩;simp[Wr.text,hc,k9,txtV]
 simp only[k9,decide_false,i_f];rw[ob_v ho 0 rfl];have ha2:=ha.own ho;refine c_any (S_write_parts_ok (K:=RetK fun v w'=>∃b,v=.func (.func 88) #[] #[.pointer (some ⟨b,0,none⟩)]∧Own w w' [obE b o vk vc]) ?_) ?_
 ·unfold S_write_parts;refine o_obb o ha.keys.one ha.kids.one ho fun b' w3 ho=>?_;rw[m_func];exact⟨_,rfl,b',rfl,ho.sub (.cons_cons _ (List.nil_sublist _))⟩
 ·rintro e w3 ⟨_,rfl,b',rfl,ho⟩;have hpl:=Wr.parts_len o;have hpt:=Wr.parts_tot o;refine c_ret (collectS_ret (S:=NoB) (w0:=w) (L:=[]) (parts_seq w o vk vc cs b' ha hb hc k9) parts_plain (by omega) (fun L W h=>⟨ht.own h,OwnS.keptIn h,h.size⟩) (by simpa using ho)) ?_;intro v4 w4 ho;refine c_told (pjoin_ret (Wr.parts o) v4 w4 (ho.slRow 0 rfl) (by omega)) rfl ho fun w5 ho=>?_;refine hK _ _ ⟨?_,ho.done⟩;simp[Wr.text,hc,k9,txtV]
end
end Go.Proofs.YtjloddgofmdmgaaGreatDoor

namespace Go.Proofs.YtjloddgofmdmgaaGreatDoor
section
open Eng Go.RowKit
abbrev nilS:Value:=.slice none 0 0
abbrev ob1 (k n g:Int)(s:List UInt8):Ob:=.mk k n g s [] []
section
variable {w:World}{S:Nat→Prop}{w0:World}{L:List Ent}
theorem ret_ob {K:Ending→World→Prop}{b:Nat}{o:Ob}{vk vc:Value}(ho:OwnS S w0 w (obE b o vk vc::L))(k:K (.returned (obV o vk vc)) w):RetX prog [.cell (.pointer (some ⟨b,0,none⟩)) 27] w K:=ret_v1 (rv_cell (ho.agg 0 rfl aggOb)) k
end
def obR (o:Ob)(vk vc:Value)(w:World):VWP:=fun v w'=>v=obV o vk vc∧Below w.heap.size w w'
theorem rint05_ret (n:Int)(w:World):Ret prog 75 #[.int .i64 n] w (obR (ob1 2 n 0 []) nilS nilS w):=by
 refine ret_of fun K hK=>S_foliantref05_Int_ok ?_;unfold S_foliantref05_Int;refine o_oba (Own.start w) fun b w1 ho=>?_;have hb:∀{PK:PKT} {K:VWP},DoX prog (mBuild 27 #[(0,(.int .i64 2)),(1,.int .i64 n)]) w1 PK K=K (obV (ob1 2 n 0 []) nilS nilS) w1:=do_eq (by kernel_rfl);rw[hb];refine ob_put 0 rfl rfl ho rfl fun w2 ho=>?_;exact ret_ob ho (hK _ _ ⟨rfl,ho.done⟩)
theorem rreal05_ret (n:Int)(w:World):Ret prog 76 #[.int .i64 n] w (obR (ob1 3 n 0 []) nilS nilS w):=by
 refine ret_of fun K hK=>S_foliantref05_Real_ok ?_;unfold S_foliantref05_Real;refine o_oba (Own.start w) fun b w1 ho=>?_;have hb:∀{PK:PKT} {K:VWP},DoX prog (mBuild 27 #[(0,(.int .i64 3)),(1,.int .i64 n)]) w1 PK K=K (obV (ob1 3 n 0 []) nilS nilS) w1:=do_eq (by kernel_rfl);rw[hb];refine ob_put 0 rfl rfl ho rfl fun w2 ho=>?_;exact ret_ob ho (hK _ _ ⟨rfl,ho.done⟩)
theorem rtxt05_ret (s:List UInt8)(w:World):Ret prog 77 #[.string ⟨s.toArray⟩] w (obR (ob1 4 0 0 s) nilS nilS w):=by
 refine ret_of fun K hK=>S_foliantref05_Text_ok ?_;unfold S_foliantref05_Text;refine o_oba (Own.start w) fun b w1 ho=>?_;have hb:∀{PK:PKT} {K:VWP},DoX prog (mBuild 27 #[(0,(.int .i64 4)),(3,.string ⟨s.toArray⟩)]) w1 PK K=K (obV (ob1 4 0 0 s) nilS nilS) w1:=do_eq (by kernel_rfl);rw[hb];refine ob_put 0 rfl rfl ho rfl fun w2 ho=>?_;exact ret_ob ho (hK _ _ ⟨rfl,ho.done⟩)
theorem rkey05_ret (s:List UInt8)(w:World):Ret prog 78 #[.string ⟨s.toArray⟩] w (obR (ob1 5 0 0 s) nilS nilS w):=by
 refine ret_of fun K hK=>S_foliantref05_Key_ok ?_;unfold S_foliantref05_Key;refine o_oba (Own.start w) fun b w1 ho=>?_;have hb:∀{PK:PKT} {K:VWP},DoX prog (mBuild 27 #[(0,(.int .i64 5)),(3,.string ⟨s.toArray⟩)]) w1 PK K=K (obV (ob1 5 0 0 s) nilS nilS) w1:=do_eq (by kernel_rfl);rw[hb];refine ob_put 0 rfl rfl ho rfl fun w2 ho=>?_;exact ret_ob ho (hK _ _ ⟨rfl,ho.done⟩)
theorem rref05_ret (n g:Int)(w:World):Ret prog 74 #[.int .i64 n,.int .i64 g] w (obR (ob1 8 n g []) nilS nilS w):=by
 refine ret_of fun K hK=>S_foliantref05_Ref_ok ?_;unfold S_foliantref05_Ref;refine o_oba (Own.start w) fun b w1 ho=>?_;have hb:∀{PK:PKT} {K:VWP},DoX prog (mBuild 27 #[(0,(.int .i64 8)),(1,.int .i64 n),(2,.int .i64 g)]) w1 PK K=K (obV (ob1 8 n g []) nilS nilS) w1:=do_eq (by kernel_rfl);rw[hb];refine ob_put 0 rfl rfl ho rfl fun w2 ho=>?_;exact ret_ob ho (hK _ _ ⟨rfl,ho.done⟩)
end
end Go.Proofs.YtjloddgofmdmgaaGreatDoor
