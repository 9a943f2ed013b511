/- Texts that go together: ObH ObI MkA SMake5 Plain07 SRef07 SRef04 PlR PlS Plain03 Plain03B Plain03C Plain03D Plain03E Plain04B Plain03F Plain03G Plain17 Plain17B Plain55 SOct LxA SLex LxB LxC LxD LxE LxF LxG LxH LxI SRef03 LxR SHead SRef17 HdA LxS LxT LxU LxV LxW LxX LxY LxZ LxAA LxAB LxAC SLaw04 PlT LxAD SLaw03 LxAE HdB HdC SLaw17 HdD SRef55 ScA ObJ MkB SWrite ObK ObL ObM ObN ObO MkC Plain05C MkD MkE MkF Plain05D MkG Plain19 KdA DcA SDocs SRef19 DcB DcC SSlcI SlcI DcD DcE DcF Plain19B DcG DcH SLaw07 ObP ObQ ObR STexts OcTx SSame SApart Plain07B Plain07C ObS0 ObT DcI Plain38 SLabel SRef38 SCut LbA LbB LbC LbD LbE LbF Plain38B Plain38C Plain38D Plain38E Plain35 Plain35B Plain35C Plain38F Plain38G Plain35D SPages SNumB PgA Plain16 SBit InfA SInfl InfB SCode InfC InfD IntsA. -/
import Derived.Test.YtlipjfcbjemicaaGreatDoorRows
import Derived.Lib.IndexMore
import Derived.Lib.LastIndexLaws
import Derived.Lib.SmallJoins
import Derived.Lib.Overlaps
import Derived.Laws.Externs
import Derived.Lib.Repeat
import Derived.Lib.Case
import Derived.Test.YtlipjfcbjemicaaGreatDoorMmaflihpg
import Derived.Test.YtlipjfcbjemicaaGreatDoorMkdodoemo
set_option linter.defProp false
set_option linter.unusedSimpArgs false
set_option linter.unusedVariables false
set_option maxRecDepth 20000
open Go.Proofs.Tryz (prog)
namespace Go.Proofs.YtlipjfcbjemicaaGreatDoor
section
open Eng Go.RowKit
 attribute [local congr] g_congr
def uC (u:Bool×Bool×Bool×Bool×Bool):List Value:=[.bool u.1,.bool u.2.1,.bool u.2.2.1,.bool u.2.2.2.1,.bool u.2.2.2.2]
def uV (u:Bool×Bool×Bool×Bool×Bool):Value:=.agg (uC u).toArray
def uE (b:Nat)(u:Bool×Bool×Bool×Bool×Bool):Ent:=.cells b (uC u) 225
def u0:Bool×Bool×Bool×Bool×Bool:=(false,false,false,false,false)
theorem aggU:aggN prog 225=some 5:=by kernel_rfl
theorem szU:(Tryz.prog.info? 225).map (·.size)=some 5:=by kernel_rfl
theorem uC_one (u:Bool×Bool×Bool×Bool×Bool):∀v∈uC u,v.oneCell'=true:=by
 intro v hv;simp only[uC,List.mem_cons,List.not_mem_nil,or_false] at hv;rcases hv with rfl|rfl|rfl|rfl|rfl<;>rfl
theorem nBool:notAgg prog 4=true:=by kernel_rfl
section
variable {w:World}{PK:PKT}{K:VWP}{S:Nat→Prop}{w0:World}{L:List Ent}
theorem fa_u0 {b:Nat}:DoX prog (mFA 225 (.pointer (some ⟨b,0,none⟩)) 0) w PK K=K (.pointer (some ⟨b,0,none⟩)) w:=f_addr (show fOff prog 225 0=some 0 by kernel_rfl)
theorem fa_u1 {b:Nat}:DoX prog (mFA 225 (.pointer (some ⟨b,0,none⟩)) 1) w PK K=K (.pointer (some ⟨b,0+1,none⟩)) w:=f_addr (show fOff prog 225 1=some 1 by kernel_rfl)
theorem fa_u2 {b:Nat}:DoX prog (mFA 225 (.pointer (some ⟨b,0,none⟩)) 2) w PK K=K (.pointer (some ⟨b,0+2,none⟩)) w:=f_addr (show fOff prog 225 2=some 2 by kernel_rfl)
theorem fa_u3 {b:Nat}:DoX prog (mFA 225 (.pointer (some ⟨b,0,none⟩)) 3) w PK K=K (.pointer (some ⟨b,0+3,none⟩)) w:=f_addr (show fOff prog 225 3=some 3 by kernel_rfl)
theorem fa_u4 {b:Nat}:DoX prog (mFA 225 (.pointer (some ⟨b,0,none⟩)) 4) w PK K=K (.pointer (some ⟨b,0+4,none⟩)) w:=f_addr (show fOff prog 225 4=some 4 by kernel_rfl)
theorem u_put (i:Nat){b:Nat}{u:Bool×Bool×Bool×Bool×Bool}(u':Bool×Bool×Bool×Bool×Bool)(ho:OwnS S w0 w L)(hi:L[i]?=some (uE b u))(k:∀w',OwnS S w0 w' (L.set i (uE b u'))→K undef w') :
  DoX prog (mStore 225 (.pointer (some ⟨b,0,none⟩)) (uV u')) w PK K:=o_put i ho hi (new:=uC u') szU (uC_one u') rfl k
end
def usedV (k:Int):Value:=.tuple #[uV ((Vl.used k).getD u0),.bool (Vl.used k).isSome]
theorem vused_ret (k:Int)(w:World):Ret prog 212 #[.int .i64 k] w (fun v w'=>v=usedV k∧Below w.heap.size w w'):=by
 refine ret_of fun K hK=>S_value_used_ok ?_;unfold S_value_used iN dx;refine o_new (fun b=>.pointer (some ⟨b,0,none⟩)) (uC u0) 225 (fun _=>by kernel_rfl) (Own.start w) fun b w1 ho=>?_;have fin:∀(u:Bool×Bool×Bool×Bool×Bool) (ok:Bool),Vl.used k=(if ok then some u else none)→(ok=false→u=u0)→DoX prog (mStore 225 (.pointer (some ⟨b,0,none⟩)) (uV u)) w1 (pk K) fun _ w=>
   RetX prog [.cell (.pointer (some ⟨b,0,none⟩)) 225,.val (.bool ok)] w K:=by
  intro u ok hu h0;refine u_put 0 u ho rfl fun w2 ho=>?_;refine ret_v2 (rv_cell (ho.agg 0 rfl aggU)) rv_val (hK _ _ ⟨?_,ho.done⟩);rw[usedV,hu];cases ok with
 |true=>rfl
 |false=>rw[h0 rfl];rfl
 have b0:∀{PK:PKT} {K:VWP},DoX prog (mBuild 225 #[]) w1 PK K=K (uV u0) w1:=do_eq (by kernel_rfl);have b1:∀{PK:PKT} {K:VWP},DoX prog (mBuild 225 #[(0,.bool true)]) w1 PK K=K (uV (true,false,false,false,false)) w1:=do_eq (by kernel_rfl);have b2:∀{PK:PKT} {K:VWP},DoX prog (mBuild 225 #[(2,.bool true)]) w1 PK K=K (uV (false,false,true,false,false)) w1:=do_eq (by kernel_rfl);have b3:∀{PK:PKT} {K:VWP},DoX prog (mBuild 225 #[(4,.bool true)]) w1 PK K=K (uV (false,false,false,false,true)) w1:=do_eq (by kernel_rfl);have b4:∀{PK:PKT} {K:VWP},DoX prog (mBuild 225 #[(3,.bool true),(4,.bool true)]) w1 PK K=K (uV (false,false,false,true,true)) w1:=do_eq (by kernel_rfl);have b5:∀{PK:PKT} {K:VWP},DoX prog (mBuild 225 #[(0,.bool true),(1,.bool true)]) w1 PK K=K (uV (true,true,false,false,false)) w1:=do_eq (by kernel_rfl);have b6:∀{PK:PKT} {K:VWP},DoX prog (mBuild 225 #[(2,.bool true),(3,.bool true),(4,.bool true)]) w1 PK K=K (uV (false,false,true,true,true)) w1:=do_eq (by kernel_rfl);simp only[rs];by_cases k0:k=0
 ·simp only[k0,decide_true,i_t,b0];exact fin _ true (by simp[Vl.used,k0,u0]) (by simp)
 simp only[k0,decide_false,i_f];refine join fun J hJ=>?_;by_cases k123:k=1∨k=2∨k=3
 ·have:J [.bool true] w1:=by
   refine hJ _ _ fun _=>?_;simp only[S_value_used_0,gd,i_t,b1,iN,dx];exact fin _ true (by simp[Vl.used,k0,k123]) (by simp)
  by_cases k1:k=1
  ·simp only[k1,decide_true,i_t];exact this
  by_cases k2:k=2
  ·simp only[k2,Int.reduceEq,decide_true,decide_false,i_t,i_f];exact this
  have k3:k=3:=by omega
  simp only[k3,Int.reduceEq,decide_true,decide_false,i_t,i_f];exact this
 have k1:¬k=1:=fun h=>k123 (.inl h);have k2:¬k=2:=fun h=>k123 (.inr (.inl h));have k3:¬k=3:=fun h=>k123 (.inr (.inr h));simp only[k1,k2,k3,decide_false,i_f];refine hJ _ _ fun _=>?_;clear hJ;simp only[S_value_used_0,gd,i_f,rs,iN,dx];refine join fun J hJ=>?_;by_cases k45:k=4∨k=5
 ·have:J [.bool true] w1:=by
   refine hJ _ _ fun _=>?_;simp only[S_value_used_1,gd,i_t,b2,iN,dx];exact fin _ true (by simp[Vl.used,k0,k1,k2,k3,k45]) (by simp)
  by_cases k4:k=4
  ·simp only[k4,decide_true,i_t];exact this
  have k5:k=5:=by omega
  simp only[k5,Int.reduceEq,decide_true,decide_false,i_t,i_f];exact this
 have k4:¬k=4:=fun h=>k45 (.inl h);have k5:¬k=5:=fun h=>k45 (.inr h);simp only[k4,k5,decide_false,i_f];refine hJ _ _ fun _=>?_;clear hJ;simp only[S_value_used_1,gd,i_f,rs,iN,dx];by_cases k6:k=6
 ·simp only[k6,decide_true,i_t,b3];exact fin _ true (by simp[Vl.used,k6]) (by simp)
 by_cases k7:k=7
 ·simp only[k7,Int.reduceEq,decide_true,decide_false,i_t,i_f,b4];exact fin _ true (by simp[Vl.used,k7]) (by simp)
 by_cases k8:k=8
 ·simp only[k8,Int.reduceEq,decide_true,decide_false,i_t,i_f,b5];exact fin _ true (by simp[Vl.used,k8]) (by simp)
 by_cases k9:k=9
 ·simp only[k9,Int.reduceEq,decide_true,decide_false,i_t,i_f,b6];exact fin _ true (by simp[Vl.used,k9]) (by simp)
 simp only[k6,k7,k8,k9,decide_false,i_f,b0];exact fin _ false (by simp[Vl.used,k0,k123,k45,k6,k7,k8,k9]) (by simp)
theorem used_keys {k:Int}{n g s ks cs:Bool}(h:Vl.used k=some (n,g,s,ks,cs)):ks=decide (k=7∨k=9):=by
 revert h
 unfold Vl.used
 repeat' split
 all_goals (intro h;first|(cases h;done)|skip)
 all_goals simp only[Option.some.injEq,Prod.mk.injEq] at h
 all_goals rw[←h.2.2.2.1]
 all_goals symm
 all_goals first|(rw[decide_eq_false_iff_not];omega)|(rw[decide_eq_true_iff];omega)
abbrev badE (e:Int):PanicEntry:={ v:=.iface 223 (.agg #[.int .i64 e]),recovered:=false }
theorem c_must {q r:Bool}{e:Int}{w:World}{PK:PKT}{K:VWP}(h:q=r)(hok:r=true→K (.tuple #[]) w)(hbad:r=false→PK [badE e] w):CallX prog 211 #[.bool q,.int .i64 e] w PK K:=by
 subst h;refine c_any (S_value_must_ok (K:=fun e' w'=>(q=true→e'=.returned (.tuple #[])∧w'=w)∧(q=false→e'=.panicked [badE e]∧w'=w)) ?_) ?_
 ·unfold S_value_must dx;cases q with
 |true=>
   rw[u_not,show (!true)=false from rfl,i_f];exact⟨fun _=>⟨rfl,rfl⟩,fun h=>by cases h⟩
 |false=>
   rw[u_not,show (!false)=true from rfl,i_t];have hb:∀{PK:PKT} {K:VWP},DoX prog (mBuild 223 #[(0,.int .i64 e)]) w PK K=K (.agg #[.int .i64 e]) w:=do_eq (by kernel_rfl);rw[hb,m_iface (show notIface prog 223=true by kernel_rfl),m_panic];exact⟨fun h=>(by cases h),fun _=>⟨rfl,rfl⟩⟩
 ·rintro e' w' ⟨h1,h2⟩;cases q with
 |true=>obtain⟨rfl,rfl⟩:=h1 rfl;exact hok rfl
 |false=>obtain⟨rfl,rfl⟩:=h2 rfl;exact hbad rfl
end
section
open Eng Go.RowKit
 attribute [local congr] g_congr
theorem vcheck_any (n:Nat):∀(o:Ob) (v:Value) (d:Nat) (w:World) (K:Ending→World→Prop),o.wt≤n→OV (InW w) w v o→o.wt≤4611686018427387904→1≤d→d≤1000 →
  (Vl.check d o=0→∀w',Below w.heap.size w w'→K (.returned (.tuple #[])) w')→(Vl.check d o≠0→∀w',Below w.heap.size w w'→K (.panicked [badE (Vl.check d o)]) w') →
  Calls prog 153 #[v,.int .i64 (d:Int)] w K:=by
 induction n with
|zero=>intro o v d w K h;have:=o.wt_pos;omega
|succ n ih=>
 intro o v d w K hn hov hb hd1 hd hok hbad;obtain⟨vk,vc,cs,rfl,ha⟩:=hov.open;refine S_value_check_ok ?_;unfold S_value_check iN dx gtx gfx cfx etx cx;refine o_obb o ha.keys.one ha.kids.one (Own.start w) fun b w1 ho=>?_;have out:∀(e:Int) (W:World) (L:List Ent),Own w W L→Vl.why d o=e→e≠0→(pk K) [badE e] W:=by
  intro e W L ho h1 h2;have h3:Vl.check d o=e:=by rw[why_pos (by rw[h1];exact h2),h1]
  rw[h3] at hbad;exact hbad h2 W ho.done
 rw[b_leq];refine c_must (r:=decide (d≤24)) (by rw[decide_eq_decide];omega) (fun h24=>?_) fun h24=>out 7 w1 _ ho (by rw[Vl.why,if_pos (by have:=of_decide_eq_false h24;omega)]) (by decide);have h24':¬24 < d:=by have:=of_decide_eq_true h24;omega
 rw[fa_o0,ob_k ho 0 rfl];refine c_told (vused_ret o.k w1) rfl ho fun w2 ho=>?_;simp only[usedV,ex];refine o_new (fun b=>.pointer (some ⟨b,0,none⟩)) (uC u0) 225 (fun _=>by kernel_rfl) ho fun b4 w3 ho=>?_;refine u_put 0 ((Vl.used o.k).getD u0) ho rfl fun w4 ho=>?_;have ho:Own w w4 [uE b4 ((Vl.used o.k).getD u0),obE b o vk vc]:=ho;have bad10:(Vl.usesOk o=false∨(o.k=9∧1 < d))→(pk K) [badE 10] w4:=fun h=>out 10 w4 _ ho (by rw[Vl.why,if_neg h24',if_pos h]) (by decide);have lk:∀{W:World} {L:List Ent},Own w W L→∀{PK:PKT} {K:VWP},DoX prog (mB .len #[22] 3 #[false] #[vk]) W PK K=K (.int .i64 (o.keys.length:Int)) W:=fun ho=>sl_len Tryz.underlying22 (ha.own ho).keys.1;have lc:∀{W:World} {L:List Ent},Own w W L→∀{PK:PKT} {K:VWP},DoX prog (mB .len #[23] 3 #[false] #[vc]) W PK K=K (.int .i64 (o.kids.length:Int)) W:=fun ho=>sl_len Tryz.underlying23 (ha.own ho).kids.1;cases hu:Vl.used o.k with
|none=>
  have hb10:=bad10 (.inl (by rw[Vl.usesOk,hu]));simp only[Option.isSome_none,rs,g_un];exact c_must (r:=false) rfl (fun h=>by cases h) fun _=>hb10
|some u=>
 obtain⟨un,ug,us,uks,ucs⟩:=u;rw[hu,Option.getD_some] at ho;have hUo:Vl.usesOk o=((un||decide (o.n=0))&&(ug||decide (o.g=0))&&(us||decide (o.s=[]))&&(uks||decide (o.keys=[]))&&(ucs||decide (o.kids.length=0))):=by rw[Vl.usesOk,hu]
 have l0:∀{PK:PKT} {K:VWP},DoX prog (mLoad 4 (.pointer (some ⟨b4,0,none⟩))) w4 PK K=K (.bool un) w4:=l_cell nBool (ho.cell 0 rfl 0 rfl);have l1:∀{PK:PKT} {K:VWP},DoX prog (mLoad 4 (.pointer (some ⟨b4,0+1,none⟩))) w4 PK K=K (.bool ug) w4:=l_cell nBool (ho.cell 0 rfl 1 rfl);have l2:∀{PK:PKT} {K:VWP},DoX prog (mLoad 4 (.pointer (some ⟨b4,0+2,none⟩))) w4 PK K=K (.bool us) w4:=l_cell nBool (ho.cell 0 rfl 2 rfl);have l3:∀{W:World} {L:List Ent},Own w W (uE b4 (un,ug,us,uks,ucs)::L)→∀{PK:PKT} {K:VWP},DoX prog (mLoad 4 (.pointer (some ⟨b4,0+3,none⟩))) W PK K=K (.bool uks) W:=fun ho=>l_cell nBool (ho.cell 0 rfl 3 rfl);have l4:∀{PK:PKT} {K:VWP},DoX prog (mLoad 4 (.pointer (some ⟨b4,0+4,none⟩))) w4 PK K=K (.bool ucs) w4:=l_cell nBool (ho.cell 0 rfl 4 rfl);simp +contextual only[Option.isSome_some,rs,gs,sel_sel,g_off,pick_orn,Bool.and_false,Bool.not_not,Bool.or_false,fa_u0,fa_u1,fa_u2,fa_u3,fa_u4,l0,l1,l2,l3 ho,l4,fa_o0,fa_o1,fa_o2,fa_o3,fa_o4,fa_o5,ob_k ho 1 rfl,ob_n ho 1 rfl,ob_g ho 1 rfl,ob_s ho 1 rfl,ob_keys ho 1 rfl,ob_kids ho 1 rfl,lk ho,lc ho,e_nil];refine c_must (r:=Vl.usesOk o&&!(decide (o.k=9)&&decide (1 < d))) ?_ (fun hq=>?_) fun hq=>?_
 ·rw[hUo,ilen0 o.keys,ilenN o.kids]
  congr 1
  by_cases h9:o.k=9
  ·simp only[h9,ne_eq,not_true,decide_false,Bool.or_false,decide_true,Bool.true_and];rw[Bool.eq_iff_iff];simp;omega
  ·simp only[h9,ne_eq,not_false_eq_true,decide_true,Bool.or_true,decide_false,Bool.false_and,Bool.not_false]
 rotate_left
 ·refine bad10 ?_;rw[Bool.and_eq_false_iff] at hq;rcases hq with h|h
  ·exact .inl h
  ·right;have:(decide (o.k=9)&&decide (1 < d))=true:=by simpa using h
   rw[Bool.and_eq_true] at this;exact⟨of_decide_eq_true this.1,of_decide_eq_true this.2⟩
 rw[Bool.and_eq_true] at hq;obtain⟨huo,hq9⟩:=hq;have hno:¬(Vl.usesOk o=false∨(o.k=9∧1 < d)):=by
  rintro (h|⟨h1,h2⟩)
  ·rw[huo] at h;cases h
  ·rw[decide_eq_true h1,decide_eq_true h2] at hq9;cases hq9
 rw[ob_v ho 1 rfl];refine c_told (vfits_ret o _ w4 (ha.in_ ho).ov) rfl ho fun w5 ho=>?_;refine c_must (r:=Vl.fits o) rfl (fun hfi=>?_) fun hfi=>out 2 w5 _ ho (by rw[Vl.why,if_neg h24',if_neg hno,if_pos hfi]) (by decide);have hfi':¬Vl.fits o=false:=by rw[hfi];decide
 rw[ob_v ho 1 rfl];refine c_told (vshort_ret o _ w5 (ha.in_ ho).ov) rfl ho fun w6 ho=>?_;refine c_must (r:=!decide (Vl.long o.k < o.s.length)) (short_long huo) (fun hlo=>?_) fun hlo=>out 5 w6 _ ho (by rw[Vl.why,if_neg h24',if_neg hno,if_neg hfi',if_pos (by simpa using hlo)]) (by decide);have hlo':¬Vl.long o.k < o.s.length:=by simpa using hlo
 rw[ob_kids ho 1 rfl,lc ho,b_leq];refine c_must (r:=decide (o.kids.length≤8191)) (by rw[decide_eq_decide];omega) (fun hm=>?_) fun hm=>out 6 w6 _ ho (by rw[Vl.why,if_neg h24',if_neg hno,if_neg hfi',if_neg hlo',if_pos (by have:=of_decide_eq_false hm;omega)]) (by decide);have hm':¬8191 < o.kids.length:=by have:=of_decide_eq_true hm;omega
 rw[ob_k ho 1 rfl,n_int];have huk:=used_keys hu
 -- behind the form: the kids
 have rest:∀(W:World),Vl.form o=true→Own w W [uE b4 (un,ug,us,uks,ucs),obE b o vk vc] →
   DoX prog (mLoad 23 (.pointer (some ⟨b,0+5,none⟩))) W (pk K) fun t105 w=>
   DoX prog (mB .len #[23] 3 #[false] #[t105]) w (pk K) fun t106 w=>
   LoopX [(.int .i64 0)] w (fun vs1 w N1=>∀_:Sg,S_value_check_0 (.int .i64 (d:Int)) t105 t106 (vs1.getD 0 undef) w N1 K):=by
  intro W hfo ho;have hw0:Vl.why d o=0:=by rw[Vl.why,if_neg h24',if_neg hno,if_neg hfi',if_neg hlo',if_neg hm',if_neg (by rw[hfo];decide)]
  have hch:Vl.check d o=Vl.checks (d+1) o.kids:=by rw[Vl.check_eq,if_neg (by simp[hw0])]
  rw[hch] at hok hbad;rw[ob_kids ho 1 rfl,lc ho];refine loop (fun vs w'=>∃(i:Nat),vs=[.int .i64 i]∧i≤o.kids.length∧Vl.checks (d+1) o.kids=Vl.checks (d+1) (o.kids.drop i)∧Own w w' [uE b4 (un,ug,us,uks,ucs),obE b o vk vc]) (fun vs _=>o.kids.length - n0 vs) ⟨0,rfl,by omega,rfl,ho⟩ ?_;rintro vs w6 ⟨i,rfl,hi,hT,ho⟩ _;rw[hT] at hok hbad;simp only[S_value_check_0,gd,rs,iN,dx,cx];by_cases hlt:(i:Int) < (o.kids.length:Int)
  ·have hi':i < o.kids.length:=by omega
   simp only[hlt,decide_true,i_t];rw[checks_drop _ _ _ hi'] at hok hbad hT;have hai:=ha.own ho;refine ob_ia hai.kids.1 hai.all hi' fun v hv=>?_;obtain⟨vk',vc',cs',rfl,hkid⟩:=hv.open;have ho6:=ho;refine o_oba ho fun b7 w7 ho=>?_;refine ob_put 0 hkid.keys.one hkid.kids.one ho rfl fun w8 ho=>?_;have ho:Own w w8 [obE b7 o.kids[i] vk' vc',uE b4 (un,ug,us,uks,ucs),obE b o vk vc]:=ho;rw[ob_v ho 0 rfl,wrap64_id (by omega) (by omega),show (d:Int)+1=((d+1:Nat):Int) by omega];have hkw:=kid_wt hi';refine c_any (ih o.kids[i] _ (d+1) w8 _ (by omega) (hkid.later ho6 ho).ov (by omega) (by omega) (by omega) (fun hc0 w9 hb9=>?_) (fun hc0 w9 hb9=>?_)) (fun _ _ h=>h)
   ·have ho:=ho.grow hb9;rw[if_neg (by simp[hc0])] at hT;simp only[Cont,rs];rw[wrap64_id (by omega) (by omega)];exact nextX ⟨i+1,rfl,by omega,hT,ho.tail⟩ (by simp[n0,RowKit.intOf];omega)
   ·rw[if_pos hc0] at hbad;exact hbad hc0 w9 (ho.grow hb9).done
  ·simp only[hlt,decide_false,i_f];rw[List.drop_of_length_le (by omega),Vl.checks] at hok;exact hok rfl w6 ho.done
 have bad3:∀(W:World) (L:List Ent),Own w W L→Vl.form o=false→(pk K) [badE 3] W:=fun W L ho h=>out 3 W _ ho (by rw[Vl.why,if_neg h24',if_neg hno,if_neg hfi',if_neg hlo',if_neg hm',if_pos h]) (by decide);by_cases k5:o.k=5
 ·have k79:¬(o.k=7∨o.k=9):=by omega
  have hks:uks=false:=by rw[huk,decide_eq_false k79]
  have hf:Vl.form o=Vl.name o.s:=by simp[Vl.form,k5]
  rw[show decide (o.k≠5)=false by rw[decide_eq_false_iff_not];omega,g_ff,ob_s ho 1 rfl,g_ff];refine c_eq (vkey_ret o.s w6) ?_;rw[p_f];cases hnm:Vl.name o.s with
 |false=>
   rw[g_ft,g_ft,show sel (wants (Value.bool false) true) undef=undef from rfl,g_un,g_un,g_ft,p_f];exact c_must (r:=false) rfl (fun h=>by cases h) fun _=>bad3 w6 _ ho (by rw[hf,hnm])
 |true=>
   rw[g_tt,l3 ho,hks,g_tt,u_not,show (!false)=true from rfl,show sel (wants (Value.bool true) true) (Value.bool true)=.bool true from rfl,g_tf,g_tf,g_tt,p_t,p_t];exact c_must (r:=true) rfl (fun _=>rest w6 (by rw[hf,hnm]) ho) fun h=>by cases h
 ·rw[show decide (o.k≠5)=true by rw[decide_eq_true_iff];exact k5,g_tf,g_tf,p_t,g_tt,l3 ho,g_tt,u_not];cases hks:uks with
 |false=>
   have k79:¬(o.k=7∨o.k=9):=by rw[huk,decide_eq_false_iff_not] at hks;exact hks
   rw[show (!false)=true from rfl,show sel (wants (Value.bool true) true) (Value.bool true)=.bool true from rfl,g_tf,g_tf,g_tt,p_t,p_t];rw[hks] at ho rest;exact c_must (r:=true) rfl (fun _=>rest w6 (by simp[Vl.form,k5,k79]) ho) fun h=>by cases h
 |true=>
   have k79:o.k=7∨o.k=9:=by rw[huk,decide_eq_true_iff] at hks;exact hks
   have hf:Vl.form o=Vl.rising o:=by simp[Vl.form,k5,k79]
   rw[show (!true)=false from rfl,show sel (wants (Value.bool true) true) (Value.bool false)=.bool false from rfl,g_ff,ob_v ho 1 rfl,g_ff];refine c_told (vrising_ret o _ w6 (ha.in_ ho).ov (by have:=key_len (o:=o);omega)) rfl ho fun w7 ho=>?_;rw[g_tt,p_f,p_t];rw[hks] at ho rest;exact c_must (r:=Vl.form o) hf.symm (fun hfo=>rest w7 hfo ho) fun h=>bad3 w7 _ ho h
theorem caught_plain:plainB prog 210=true:=by kernel_rfl
theorem leave_fn {rs:List RV}{K:Ending→World→Prop}{f:Nat}{args caps:Array Value}{ds:List Deferred}{u:FrameMode}(hu:u≠.run)(hp:plainB prog f=true){w:World}
  (h:CallsD prog f (args++caps) u w fun
   |.returned _,u',w'=>Leave prog rs K ds (settle u') w'
   |.panicked chain,u',w'=>Leave prog rs K ds (raised u' chain) w'
   |.outgrown,_,_=>False):Leave prog rs K ({ target:=.fn (.func f) caps,args:=args }::ds) u w:=
 ⟨hu,.func f,caps,f,args++caps,rfl,by simpa[invoke] using plain_run hp _ w,h⟩
theorem run_plain:plainB prog 152=true:=by kernel_rfl
abbrev nErr5:notAgg prog 30=true:=by kernel_rfl
theorem vCheck_ret (o:Ob)(v:Value)(w:World)(h:OV (InW w) w v o)(hb:o.wt≤4611686018427387904):Ret prog 86 #[v] w (fun v w'=>v=.int .i64 (Vl.check 1 o)∧Below w.heap.size w w'):=by
 refine ret_of fun K hK=>S_value_Check_ok ?_;obtain⟨vk,vc,cs,rfl,ha⟩:=h.open;unfold S_value_Check dx cx;refine o_obb o ha.keys.one ha.kids.one (Own.start w) fun b w1 ho=>?_;rw[m_func];refine c_any (S_value_caught_ok (K:=fun e w'=>e=.returned (.int .i64 (Vl.check 1 o))∧Below w.heap.size w w') ?_) ?_
 rotate_left
 ·rintro e w' ⟨rfl,hb'⟩;exact hK _ _ ⟨rfl,hb'⟩
 unfold S_value_caught iN dx;refine o_new (fun b=>.pointer (some ⟨b,0,none⟩)) [.int .i64 0] 30 (fun _=>by kernel_rfl) ho fun b2 w2 ho=>?_;rw[m_func];refine⟨_,rfl,?_⟩;refine c_val run_plain ?_;show CallX prog _ #[.pointer (some ⟨b,0,none⟩)] _ _ _;refine c_any (S_value_Check_1_ok (K:=fun e w'=>(Vl.check 1 o=0→e=.returned (.tuple #[])∧Below w2.heap.size w2 w')∧(Vl.check 1 o≠0→e=.panicked [badE (Vl.check 1 o)]∧Below w2.heap.size w2 w')) ?_) ?_
 ·unfold S_value_Check_1 iN dx cx;rw[ob_v ho 1 rfl];refine c_any (vcheck_any o.wt o _ 1 w2 (fun e w'=>(Vl.check 1 o=0→e=.returned (.tuple #[])∧Below w2.heap.size w2 w')∧(Vl.check 1 o≠0→e=.panicked [badE (Vl.check 1 o)]∧Below w2.heap.size w2 w')) (Nat.le_refl _) (ha.in_ ho).ov hb (by omega) (by omega)
   (fun h0 w' hb'=>⟨fun _=>⟨rfl,hb'⟩,fun h=>absurd h0 h⟩) (fun h0 w' hb'=>⟨fun h=>absurd h h0,fun _=>⟨rfl,hb'⟩⟩)) ?_
  rintro e w' ⟨h1,h2⟩;by_cases h0:Vl.check 1 o=0
  ·obtain⟨rfl,hb'⟩:=h1 h0;exact⟨fun _=>⟨rfl,hb'⟩,fun h=>absurd h0 h⟩
  ·obtain⟨rfl,hb'⟩:=h2 h0;exact⟨fun h=>absurd h h0,fun _=>⟨rfl,hb'⟩⟩
 rintro e w' ⟨h1,h2⟩;by_cases h0:Vl.check 1 o=0
 ·obtain⟨rfl,hb'⟩:=h1 h0;simp only[Cont];have ho:=ho.grow hb';refine o_store 0 ho rfl (by kernel_rfl) rfl (by simp) fun w4 ho=>?_;refine leave_fn (by simp) caught_plain (S_value_caught_1_dok ?_);simp only[S_value_caught_1,recV,recM,Eng.e_nil Tryz.underlying20,rs,dx];refine ret_cell1 nErr5 (ho.cell 0 rfl 0 rfl) (And.intro ?_ ho.done);rw[h0]
 ·obtain⟨rfl,hb'⟩:=h2 h0;simp only[Cont,S_value_caught_p0,pd];have ho:=ho.grow hb';refine leave_fn (by simp) caught_plain (S_value_caught_1_dok ?_);simp only[S_value_caught_1,recV,recM,Eng.e_some Tryz.underlying20,rs,t_hit (show notIface prog 223=true by kernel_rfl),
   x_ext (show [Value.agg #[.int .i64 (Vl.check 1 o)],Value.bool true][1]?=some (Value.bool true) from rfl),x_ext (show [Value.agg #[.int .i64 (Vl.check 1 o)],Value.bool true][0]?=some (Value.agg #[.int .i64 (Vl.check 1 o)]) from rfl),dx]
  refine o_new (fun b=>.pointer (some ⟨b,0,none⟩)) [.int .i64 0] 223 (fun _=>by kernel_rfl) ho fun b5 w5 ho=>?_;refine o_put 0 ho rfl (new:=[.int .i64 (Vl.check 1 o)]) (show (Tryz.prog.info? 223).map (·.size)=some 1 by kernel_rfl) (by simp;rfl) rfl fun w6 ho=>?_;rw[f_addr (show fOff prog 223 0=some 0 by kernel_rfl),l_cell nErr5 (ho.cell 0 rfl 0 rfl)];refine o_store 1 ho rfl (by kernel_rfl) rfl (by simp) fun w7 ho=>?_;exact ret_cell1 nErr5 (ho.cell 1 rfl 0 rfl) (And.intro rfl ho.done)
end
section
open Eng Go.RowKit
theorem isnanC_ret (x:List UInt8)(w:World):Ret prog 256 #[.string ⟨x.toArray⟩] w (fun v w'=>v=.bool false∧w=w'):=by
 refine ret_of fun K hK=>S_cmp_isNaN_string_ok ?_;unfold S_cmp_isNaN_string dx;rw[n_str];exact hK _ _ ⟨by simp,rfl⟩
theorem isnanS_ret (x:List UInt8)(w:World):Ret prog 218 #[.string ⟨x.toArray⟩] w (fun v w'=>v=.bool false∧w=w'):=by
 refine ret_of fun K hK=>S_slices_isNaN_string_ok ?_;unfold S_slices_isNaN_string dx;rw[n_str];exact hK _ _ ⟨by simp,rfl⟩
theorem cless_ret (x y:List UInt8)(w:World):Ret prog 217 #[.string ⟨x.toArray⟩,.string ⟨y.toArray⟩] w (fun v w'=>v=.bool (Vl.less x y)∧w=w'):=by
 refine ret_of fun K hK=>S_cmp_Less_string_ok ?_;unfold S_cmp_Less_string dx gtx gfx ctx etx efx cx;refine c_eq (isnanC_ret x w) ?_;simp only[rs,s_lss];exact hK _ _ ⟨rfl,rfl⟩
theorem shr1 {a:Int}(h0:0≤a)(h1:a≤4611686018427387904):Int.fdiv (IntKind.wrap .u64 a) (2 ^ (min (1:Int).toNat IntKind.u64.bits))=a / 2:=by
 rw[wrapu64_id h0 (by omega)];show Int.fdiv a 2=a / 2;rw[Int.fdiv_eq_ediv_of_nonneg _ (by omega)]
theorem bsearch_ret (va:Value)(l:List (List UInt8))(x:List UInt8)(w:World)(ha:Sl w va 1 l.length (strsV l))(hr:Vl.Rise l)(hl:l.length≤1099511627776) :
  Ret prog 154 #[va,.string ⟨x.toArray⟩] w (fun v w'=>v=.tuple #[.int .i64 (Vl.place l x:Nat),.bool (Vl.hit l x)]∧w=w'):=by
 refine ret_of fun K hK=>S_slices_BinarySearch_string_string_ok ?_;unfold S_slices_BinarySearch_string_string iN dx;rw[sl_len Tryz.underlying22 ha];refine loop (fun vs w'=>∃(i j:Nat),vs=[.int .i64 i,.int .i64 j]∧i≤j∧j≤l.length∧(∀m (h:m < l.length),m < i→Vl.less l[m] x=true)∧(∀m (h:m < l.length),j≤m→Vl.less l[m] x=false)∧w=w') (fun vs _=>n1 vs - n0 vs)
  ⟨0,l.length,rfl,by omega,by omega,fun m _ h=>by omega,fun m h1 h2=>by omega,rfl⟩ ?_
 rintro vs w2 ⟨i,j,rfl,hij,hj,hlo,hhi,rfl⟩ _;simp only[S_slices_BinarySearch_string_string_0,gd,rs,iN,dx,gtx,gfx,ctx,cfx,etx,efx,cx];by_cases hlt:(i:Int) < (j:Int)
 ·simp only[hlt,decide_true,i_t];rw[wrap64_id (by omega) (by omega),c_int (show (Tryz.prog.underlying 3).isSome=true by kernel_rfl) Tryz.underlying84,b_shr (by omega),shr1 (by omega) (by omega),
   c_int (show (Tryz.prog.underlying 84).isSome=true by kernel_rfl) Tryz.underlying3,wrap64_id (by omega) (by omega)]
  obtain⟨h,hh⟩:∃h:Nat,((i:Int)+(j:Int)) / 2=(h:Int):=⟨(i+j) / 2,by omega⟩;rw[hh];have h1:i≤h:=by omega
  have h2:h < j:=by omega
  have h3:h < l.length:=by omega
  refine sl_ia1 (.string ⟨(l[h]).toArray⟩) Tryz.underlying22 (by kernel_rfl) ha (by omega) (by rw[Int.toNat_natCast];exact strsV_get h3) fun q hq=>?_;rw[l_cell nStrI hq];refine c_eq (cless_ret l[h] x w) ?_;cases hc:Vl.less l[h] x with
 |true=>
   simp only[rs];rw[wrap64_id (by omega) (by omega)];refine nextX ⟨h+1,j,rfl,by omega,by omega,fun m hm hmi=>?_,hhi,rfl⟩ (by simp[n0,n1,RowKit.intOf];omega);rcases Nat.lt_or_ge m h with h4|h4
   ·exact Vl.less_trans (Vl.rise_get hr h4 h3) hc
   ·have:m=h:=by omega
    subst this;exact hc
 |false=>
   simp only[rs];refine nextX ⟨i,h,rfl,by omega,by omega,hlo,fun m hm hmi=>?_,rfl⟩ (by simp[n0,n1,RowKit.intOf];omega);rcases Nat.lt_or_ge h m with h4|h4
   ·cases hm2:Vl.less l[m] x with
   |false=>rfl
   |true=>have:=Vl.less_trans (Vl.rise_get hr h4 hm) hm2;rw[hc] at this;cases this
   ·have:m=h:=by omega
    subst this;exact hc
 ·have he:i=j:=by omega
  subst he;simp only[hlt,decide_false,i_f];have hp:Vl.place l x=i:=Vl.place_at hj hlo (fun h=>hhi i h (Nat.le_refl _));by_cases hn:(i:Int) < (l.length:Int)
  ·have hi':i < l.length:=by omega
   simp only[hn,decide_true,rs];refine sl_ia1 (.string ⟨(l[i]).toArray⟩) Tryz.underlying22 (by kernel_rfl) ha (by omega) (by rw[Int.toNat_natCast];exact strsV_get hi') fun q hq=>?_;rw[l_cell nStrI hq];simp only[rs];by_cases hx:l[i]=x
   ·simp only[hx,decide_true,rs,g_un];refine hK _ _ ⟨?_,rfl⟩;rw[hp];unfold Vl.hit;rw[hp,List.getElem?_eq_getElem hi',hx];simp
   ·simp only[hx,decide_false,rs];refine sl_ia1 (.string ⟨(l[i]).toArray⟩) Tryz.underlying22 (by kernel_rfl) ha (by omega) (by rw[Int.toNat_natCast];exact strsV_get hi') fun q hq=>?_;rw[l_cell nStrI hq];refine c_eq (isnanS_ret l[i] w) ?_;simp only[rs];refine hK _ _ ⟨?_,rfl⟩;rw[hp];unfold Vl.hit;rw[hp,List.getElem?_eq_getElem hi'];simp[hx]
  ·simp only[hn,decide_false,rs,g_un];refine hK _ _ ⟨?_,rfl⟩;rw[hp];unfold Vl.hit;rw[hp,List.getElem?_eq_none (by omega)];simp
end
section
open Eng
def S_foliantref05_Get_0(t1 t2 t4 t5 t18 t19 t20 w)(N1:JT)(K:KT):=
 dx (mBin .lss 3 t20 t19) w K fun t21 w=>IfX t21 (dx (mIA 22 t18 t20) w K fun t23 w=>dx (mLoad 9 t23) w K fun t24 w=>dx (mEq .eql 9 (.tmp 25) (.tmp 26) t24 t1) w K fun t27 w=>IfX t27 (dx (mFA 25 t2 5) w K fun t29 w=>dx (mLoad 23 t29) w K fun t30 w=>dx (mB .len #[23] 3 #[false] #[t30]) w K fun t31 w=>dx (mBin .geq 3 t20 t31) w K fun t32 w=>IfX t32 (dx (mBuild 25 #[]) w K fun t33 w=>dx (mStore 25 t4 t33) w K fun _ w=>RetX prog [.cell t4 25,.val (.bool false)] w K) (dx (mFA 25 t2 5) w K fun t34 w=>dx (mLoad 23 t34) w K fun t35 w=>dx (mIA 23 t35 t20) w K fun t37 w=>dx (mLoad 25 t37) w K fun t38 w=>dx (mStore 25 t4 t38) w K fun _ w=>RetX prog [.cell t4 25,.val (.bool true)] w K)) (dx (mBin .add 3 t20 (iN 1)) w K fun t39 w=>N1 [t5,t39] w)) (dx (mBuild 25 #[]) w K fun t40 w=>dx (mStore 25 t4 t40) w K fun _ w=>RetX prog [.cell t4 25,.val (.bool false)] w K)
def S_foliantref05_Get(t0 t1 w)(K:KT):=
 dx (mBox 25 t0) w K fun t2 w=>dx (mAlloc 25) w K fun t4 w=>dx (mFA 25 t2 0) w K fun t8 w=>dx (mLoad 3 t8) w K fun t9 w=>dx (mEq .neq 3 (.tmp 9) (.const (iN 7)) t9 (iN 7)) w K fun t10 w=>gtx t10 (mFA 25 t2 0) w K fun t12 w=>gtx t10 (mLoad 3 t12) w K fun t13 w=>gtx t10 (mEq .neq 3 (.tmp 13) (.const (iN 9)) t13 (iN 9)) w K fun t14 w=>dx (mPick t10 t14 (.bool false)) w K fun t15 w=>IfX t15 (dx (mBuild 25 #[]) w K fun t16 w=>dx (mStore 25 t4 t16) w K fun _ w=>RetX prog [.cell t4 25,.val (.bool false)] w K) (dx (mFA 25 t2 4) w K fun t17 w=>dx (mLoad 22 t17) w K fun t18 w=>dx (mB .len #[22] 3 #[false] #[t18]) w K fun t19 w=>LoopX [(.bool false),(iN 0)] w (fun vs1 w N1=>∀_:Sg,S_foliantref05_Get_0 t1 t2 t4 (vs1.getD 0 undef) t18 t19 (vs1.getD 1 undef) w N1 K))
theorem S_foliantref05_Get_eq (t0 t1:Value)(w:World)(K:Ending→World→Prop):wpX prog 41 [] [(4,[5,20])] none (bodyOf Tryz.f33) (topQ prog [.cell 4 25,.tmp 5] K) (startX [t0,t1]) [] w=S_foliantref05_Get t0 t1 w K:=by kernel_rfl
theorem S_foliantref05_Get_ok {t0 t1:Value}{w:World}{K:Ending→World→Prop}(h:S_foliantref05_Get t0 t1 w K):Calls prog 33 #[t0,t1] w K:=
 calls_of_wpX Tryz.func33 rfl rfl rfl rfl (Eq.mpr (S_foliantref05_Get_eq t0 t1 w K) h)
end
section
open Go
theorem Ob.len_wts:∀os:List Ob,os.length≤Ob.wts os
|[]=>by simp
|o::os=>by
  have:=Ob.len_wts os;have:1≤o.wt:=by cases o;rw[Ob.wt];omega
  rw[Ob.wts,List.length_cons];omega
namespace Wr
end Wr
end
end Go.Proofs.YtlipjfcbjemicaaGreatDoor

namespace Go.Proofs.YtlipjfcbjemicaaGreatDoor
section
open Eng
def S_foliantref01_White(t0 w)(K:KT):=
 dx (mEq .eql 5 (.tmp 3) (.const (.int .u8 0)) t0 (.int .u8 0)) w K fun t4 w=>efx t4 t0 w fun t6 w=>gfx t4 (mEq .eql 5 (.tmp 6) (.const (.int .u8 9)) t6 (.int .u8 9)) w K fun t7 w=>dx (mPick t4 (.bool true) t7) w K fun t8 w=>efx t8 t0 w fun t10 w=>gfx t8 (mEq .eql 5 (.tmp 10) (.const (.int .u8 10)) t10 (.int .u8 10)) w K fun t11 w=>dx (mPick t8 (.bool true) t11) w K fun t12 w=>efx t12 t0 w fun t14 w=>gfx t12 (mEq .eql 5 (.tmp 14) (.const (.int .u8 12)) t14 (.int .u8 12)) w K fun t15 w=>dx (mPick t12 (.bool true) t15) w K fun t16 w=>efx t16 t0 w fun t18 w=>gfx t16 (mEq .eql 5 (.tmp 18) (.const (.int .u8 13)) t18 (.int .u8 13)) w K fun t19 w=>dx (mPick t16 (.bool true) t19) w K fun t20 w=>efx t20 t0 w fun t22 w=>gfx t20 (mEq .eql 5 (.tmp 22) (.const (.int .u8 32)) t22 (.int .u8 32)) w K fun t23 w=>dx (mPick t20 (.bool true) t23) w K fun t24 w=>K (.returned t24) w
theorem S_foliantref01_White_ok{t0 w K}(h:S_foliantref01_White t0 w K):Calls prog 123 #[t0] w K:=cw Tryz.func123 rfl rfl (by kernel_rfl) h
end
section
open Eng Go.RowKit
theorem rwhite_ret (c:UInt8)(w:World):Ret prog 123 #[.int .u8 c.toNat] w (fun v w'=>v=.bool (Oc.white c)∧w=w'):=by
 refine ret_of fun K hK=>S_foliantref01_White_ok ?_;unfold S_foliantref01_White dx gfx efx;have e0:=u8d c 0 0 rfl;have e1:=u8d c 9 9 rfl;have e2:=u8d c 10 10 rfl;have e3:=u8d c 12 12 rfl;have e4:=u8d c 13 13 rfl;have e5:=u8d c 32 32 rfl;by_cases h0:c=0
 ·simp only[rs,e0,decide_eq_true h0,g_un];exact hK _ _ ⟨by rw[h0];rfl,rfl⟩
 simp only[rs,e0,decide_eq_false h0,g_un];by_cases h1:c=9
 ·simp only[rs,e1,decide_eq_true h1,g_un];exact hK _ _ ⟨by rw[h1];rfl,rfl⟩
 simp only[rs,e1,decide_eq_false h1,g_un];by_cases h2:c=10
 ·simp only[rs,e2,decide_eq_true h2,g_un];exact hK _ _ ⟨by rw[h2];rfl,rfl⟩
 simp only[rs,e2,decide_eq_false h2,g_un];by_cases h3:c=12
 ·simp only[rs,e3,decide_eq_true h3,g_un];exact hK _ _ ⟨by rw[h3];rfl,rfl⟩
 simp only[rs,e3,decide_eq_false h3,g_un];by_cases h4:c=13
 ·simp only[rs,e4,decide_eq_true h4,g_un];exact hK _ _ ⟨by rw[h4];rfl,rfl⟩
 simp only[rs,e4,decide_eq_false h4,g_un];by_cases h5:c=32
 ·simp only[rs,e5,decide_eq_true h5,g_un];exact hK _ _ ⟨by rw[h5];rfl,rfl⟩
 simp only[rs,e5,decide_eq_false h5,g_un];exact hK _ _ ⟨by simp[Oc.white,Oc.whites,h0,h1,h2,h3,h4,h5],rfl⟩
end
end Go.Proofs.YtlipjfcbjemicaaGreatDoor

namespace Go.Proofs.YtlipjfcbjemicaaGreatDoor
section
open Go
namespace Lx
open Oc
def eol (c:UInt8):Bool:=decide (c=13)||decide (c=10)
def skipF:Bool→List UInt8→Nat
|_,[]=>0
|true,c::t=>1+skipF (!eol c) t
|false,c::t=>if c=37 then 1+skipF true t else if white c then 1+skipF false t else 0
def skip (s:List UInt8)(k:Nat):Nat:=k+skipF false (s.drop k)
def lineF:List UInt8→Nat
|[]=>0
|c::t=>if c=10 then 1 else if c=13 then (if t.head?=some 10 then 2 else 1) else 1+lineF t
def digit (c:UInt8):Int:=
 if 48≤c.toNat∧c.toNat≤57 then (c.toNat:Int) - 48
 else if 65≤c.toNat∧c.toNat≤70 then (c.toNat:Int) - 65+10
 else if 97≤c.toNat∧c.toNat≤102 then (c.toNat:Int) - 97+10
 else -1
def byte (a b:Int):UInt8:=UInt8.ofNat (16*a+b).toNat
end Lx
end
section
open Go
namespace Lx
open Oc
structure Tok where
 k:Int
 a:Int
 t:Int
 n:Int
 s:List UInt8
 deriving DecidableEq
def none_:Tok:=⟨0,0,0,0,[]⟩
def refused (e:Int):Tok×Int:=(none_,e)
def told (k a t:Int)(x:List UInt8)(most:Int):Tok×Int:=if most < (x.length:Int) then refused 5 else (⟨k,a,t,0,x⟩,0)
def runF:List UInt8→Nat
|[]=>0
|c::t=>if regular c then 1+runF t else 0
def run (s:List UInt8)(i:Nat):Nat:=i+runF (s.drop i)
def cut (s:List UInt8)(i j:Nat):List UInt8:=(s.drop i).take (j - i)
def nameF:List UInt8→Option (List UInt8)
|[]=>some []
|c::t=>
  if c=35 then match t with
  |a::b::t=>if digit a < 0∨digit b < 0∨16*digit a+digit b=0 then none else (nameF t).map (byte (digit a) (digit b)::·)
  |_=>none
  else (nameF t).map (c::·)
def name (s:List UInt8)(at_:Nat):Tok×Int:=
 match nameF (cut s (at_+1) (run s (at_+1))) with
|none=>refused 3
|some x=>told 4 at_ (run s (at_+1)) x 127
def oct (c:UInt8):Bool:=decide (48≤c.toNat)&&decide (c.toNat≤55)
def octF:Nat→Nat→List UInt8→Nat×Nat
|0,n,_=>(n,0)
|_+1,n,[]=>(n,0)
|m+1,n,c::t=>if oct c then ((octF m (8*n+(c.toNat - 48)) t).1,(octF m (8*n+(c.toNat - 48)) t).2+1) else (n,0)
def escL (c:UInt8):Option UInt8:=if c=110 then some 10 else if c=114 then some 13 else if c=116 then some 9 else if c=98 then some 8 else if c=102 then some 12 else none
def escF:List UInt8→List UInt8×Nat
|[]=>([],0)
|c::t=>match escL c with
 |some b=>([b],1)
 |none=>if eol c then ([],lineF (c::t)) else if 0 < (octF 3 0 (c::t)).2 then ([UInt8.ofNat (octF 3 0 (c::t)).1],(octF 3 0 (c::t)).2) else ([c],1)
def textG:Nat→Nat→List UInt8→Option (List UInt8×Nat)
|_,_,[]=>none
|k+1,o,_::t=>(textG k o t).map fun r=>(r.1,r.2+1)
|0,o,c::t=>
  if eol c then (textG (lineF (c::t) - 1) o t).map fun r=>(10::r.1,r.2+1)
  else if c=92 then if t=[] then none else (textG (escF t).2 o t).map fun r=>((escF t).1++r.1,r.2+1)
  else if c=40 then (textG 0 (o+1) t).map fun r=>(c::r.1,r.2+1)
  else if c=41 then if o≤1 then some ([],1) else (textG 0 (o - 1) t).map fun r=>(c::r.1,r.2+1)
  else (textG 0 o t).map fun r=>(c::r.1,r.2+1)
def text (s:List UInt8)(at_:Nat):Tok×Int:=
 match textG 0 1 (s.drop (at_+1)) with
|none=>refused 4
|some r=>told 3 at_ (at_+1+r.2:Nat) r.1 32767
def hexF:Int→List UInt8→(List UInt8×Nat) ⊕ Int
|_,[]=>.inr 4
|h,c::t=>
  if c=62 then .inl (if 0≤h then [byte h 0] else [],1)
  else if white c then match hexF h t with|.inl r=>.inl (r.1,r.2+1)|.inr e=>.inr e
  else if digit c < 0 then .inr 3
  else if h < 0 then match hexF (digit c) t with|.inl r=>.inl (r.1,r.2+1)|.inr e=>.inr e
  else match hexF (-1) t with|.inl r=>.inl (byte h (digit c)::r.1,r.2+1)|.inr e=>.inr e
def hex (s:List UInt8)(at_:Nat):Tok×Int:=
 match hexF (-1) (s.drop (at_+1)) with
|.inr e=>refused e
|.inl r=>told 3 at_ (at_+1+r.2:Nat) r.1 32767
def sgn (c:UInt8):Bool:=decide (c=43)||decide (c=45)
def dig (c:UInt8):Bool:=decide (48≤c.toNat)&&decide (c.toNat≤57)
def unsign:List UInt8→List UInt8
|[]=>[]
|c::t=>if sgn c then t else c::t
def intForm (t:List UInt8):Bool:=!(unsign t).isEmpty&&(unsign t).all dig
def val (n:Nat)(l:List UInt8):Nat:=l.foldl (fun n c=>10*n+(c.toNat - 48)) n
def whole (t:List UInt8):Int×Int:=
 if 2147483647 < val 0 (unsign t) then (0,2) else (if t.head?=some 45 then -(val 0 (unsign t):Int) else (val 0 (unsign t):Int),0)
def wordT (t:List UInt8)(a b:Int):Tok×Int:=
 if intForm t then (if (whole t).2≠0 then refused (whole t).2 else (⟨1,a,b,(whole t).1,[]⟩,0))
 else if t.contains 46∧(Fx.read t).2=0 then (⟨2,a,b,(Fx.read t).1,[]⟩,0)
 else if t.contains 46∧(Fx.read t).2=2 then refused 2
 else told 5 a b t 127
def word (s:List UInt8)(at_:Nat):Tok×Int:=wordT (cut s at_ (run s at_)) at_ (run s at_)
def mark (s:List UInt8)(at_ n:Nat):Tok×Int:=(⟨6,at_,(at_+n:Nat),0,cut s at_ (at_+n)⟩,0)
def token (s:List UInt8)(a:Nat):Tok×Int:=
 match s.drop a with
|[]=>(⟨0,a,a,0,[]⟩,0)
|c::t=>
  if c=91∨c=93∨c=123∨c=125 then mark s a 1
  else if c=60 then (if t.head?=some c then mark s a 2 else hex s a)
  else if c=62 then (if t.head?=some c then mark s a 2 else refused 3)
  else if c=47 then name s a
  else if c=40 then text s a
  else if c=41 then refused 3
  else word s a
def next (s:List UInt8)(at_:Int):Tok×Int:=if at_ < 0∨(s.length:Int) < at_ then refused 1 else token s (skip s at_.toNat)
end Lx
end
end Go.Proofs.YtlipjfcbjemicaaGreatDoor









namespace Go.Proofs.YtlipjfcbjemicaaGreatDoor
section
open Eng
def S_octet_Digit(t0 w)(K:KT):=
 dx (mBin .geq 5 t0 (.int .u8 48)) w K fun t5 w=>etx t5 t0 w fun t7 w=>gtx t5 (mBin .leq 5 t7 (.int .u8 57)) w K fun t8 w=>dx (mPick t5 t8 (.bool false)) w K fun t9 w=>IfX t9 (dx (mBin .sub 5 t0 (.int .u8 48)) w K fun t11 w=>dx (mConv 5 3 t11) w K fun t12 w=>K (.returned t12) w) (dx (mBin .geq 5 t0 (.int .u8 65)) w K fun t15 w=>etx t15 t0 w fun t17 w=>gtx t15 (mBin .leq 5 t17 (.int .u8 70)) w K fun t18 w=>dx (mPick t15 t18 (.bool false)) w K fun t19 w=>IfX t19 (dx (mBin .sub 5 t0 (.int .u8 65)) w K fun t21 w=>dx (mConv 5 3 t21) w K fun t22 w=>dx (mBin .add 3 t22 (iN 10)) w K fun t23 w=>K (.returned t23) w) (dx (mBin .geq 5 t0 (.int .u8 97)) w K fun t26 w=>etx t26 t0 w fun t28 w=>gtx t26 (mBin .leq 5 t28 (.int .u8 102)) w K fun t29 w=>dx (mPick t26 t29 (.bool false)) w K fun t30 w=>IfX t30 (dx (mBin .sub 5 t0 (.int .u8 97)) w K fun t32 w=>dx (mConv 5 3 t32) w K fun t33 w=>dx (mBin .add 3 t33 (iN 10)) w K fun t34 w=>K (.returned t34) w) (K (.returned (iN (-1))) w)))
theorem S_octet_Digit_ok{t0 w K}(h:S_octet_Digit t0 w K):Calls prog 176 #[t0] w K:=cw Tryz.func176 rfl rfl (by kernel_rfl) h
end
section
open Eng Go.RowKit
 attribute [local congr] g_congr in
theorem digit_ret (c:UInt8)(w:World):Ret prog 176 #[.int .u8 c.toNat] w (fun v w'=>v=.int .i64 (Lx.digit c)∧w=w'):=by
  refine ret_of fun K hK=>S_octet_Digit_ok ?_;unfold S_octet_Digit iN dx gtx etx;have h256:=c.toNat_lt;have conv:∀{n:Int} {PK K},0≤n→n≤255→DoX prog (mConv 5 3 (.int .u8 n)) w PK K=K (.int .i64 n) w:=by
   intro n PK K h0 h1;rw[c_int (show (Tryz.prog.underlying 5).isSome=true by kernel_rfl) Tryz.underlying3,wrap64_id (by omega) (by omega)]
  simp +contextual only[rs,gs];by_cases h1:48≤c.toNat∧c.toNat≤57
  ·have hb:(decide ((48:Int)≤(c.toNat:Int))&&decide ((c.toNat:Int)≤57))=true:=by simp;omega
   simp only[hb,i_t];rw[wrap8_id (by omega) (by omega),conv (by omega) (by omega)];exact hK _ _ ⟨by rw[Lx.digit,if_pos h1],rfl⟩
  have hb:(decide ((48:Int)≤(c.toNat:Int))&&decide ((c.toNat:Int)≤57))=false:=by
   rw[Bool.and_eq_false_iff,decide_eq_false_iff_not,decide_eq_false_iff_not];omega
  simp only[hb,i_f];by_cases h2:65≤c.toNat∧c.toNat≤70
  ·have hb:(decide ((65:Int)≤(c.toNat:Int))&&decide ((c.toNat:Int)≤70))=true:=by simp;omega
   simp only[hb,i_t];rw[wrap8_id (by omega) (by omega),conv (by omega) (by omega),b_add,wrap64_id (by omega) (by omega)];exact hK _ _ ⟨by rw[Lx.digit,if_neg h1,if_pos h2],rfl⟩
  have hb:(decide ((65:Int)≤(c.toNat:Int))&&decide ((c.toNat:Int)≤70))=false:=by
   rw[Bool.and_eq_false_iff,decide_eq_false_iff_not,decide_eq_false_iff_not];omega
  simp only[hb,i_f];by_cases h3:97≤c.toNat∧c.toNat≤102
  ·have hb:(decide ((97:Int)≤(c.toNat:Int))&&decide ((c.toNat:Int)≤102))=true:=by simp;omega
   simp only[hb,i_t];rw[wrap8_id (by omega) (by omega),conv (by omega) (by omega),b_add,wrap64_id (by omega) (by omega)];exact hK _ _ ⟨by rw[Lx.digit,if_neg h1,if_neg h2,if_pos h3],rfl⟩
  have hb:(decide ((97:Int)≤(c.toNat:Int))&&decide ((c.toNat:Int)≤102))=false:=by
   rw[Bool.and_eq_false_iff,decide_eq_false_iff_not,decide_eq_false_iff_not];omega
  simp only[hb,i_f];exact hK _ _ ⟨by rw[Lx.digit,if_neg h1,if_neg h2,if_neg h3],rfl⟩
end
end Go.Proofs.YtlipjfcbjemicaaGreatDoor

namespace Go.Proofs.YtlipjfcbjemicaaGreatDoor
section
open Eng Go.RowKit
def tokC (x:Lx.Tok):List Value:=[.int .i64 x.k,.int .i64 x.a,.int .i64 x.t,.int .i64 x.n,.string ⟨x.s.toArray⟩]
section
variable {w:World}{PK:PKT}{K:VWP}{S:Nat→Prop}{w0:World}{L:List Ent}
end
end
section
open Eng Go.RowKit
theorem c_64 {w:World}{PK:PKT}{K:VWP}{n:Int}(h0:0≤n)(h1:n≤255):DoX prog (mConv 5 3 (.int .u8 n)) w PK K=K (.int .i64 n) w:=by
 rw[c_int (show (Tryz.prog.underlying 5).isSome=true by kernel_rfl) Tryz.underlying3,wrap64_id (by omega) (by omega)]
end
end Go.Proofs.YtlipjfcbjemicaaGreatDoor



namespace Go.Proofs.YtlipjfcbjemicaaGreatDoor
section
open Eng Go.RowKit
def n3 (vs:List Value):Nat:=(RowKit.intOf (vs.getD 3 undef)).toNat
end
end Go.Proofs.YtlipjfcbjemicaaGreatDoor


namespace Go.Proofs.YtlipjfcbjemicaaGreatDoor
section
open Eng
def S_foliantref01_Digit(t0 w)(K:KT):=
 dx (mBin .geq 5 t0 (.int .u8 48)) w K fun t4 w=>etx t4 t0 w fun t6 w=>gtx t4 (mBin .leq 5 t6 (.int .u8 57)) w K fun t7 w=>dx (mPick t4 t7 (.bool false)) w K fun t8 w=>IfX t8 (dx (mConv 5 3 t0) w K fun t10 w=>dx (mBin .sub 3 t10 (iN 48)) w K fun t11 w=>K (.returned t11) w) (dx (mBin .geq 5 t0 (.int .u8 65)) w K fun t13 w=>etx t13 t0 w fun t15 w=>gtx t13 (mBin .leq 5 t15 (.int .u8 70)) w K fun t16 w=>dx (mPick t13 t16 (.bool false)) w K fun t17 w=>IfX t17 (dx (mConv 5 3 t0) w K fun t19 w=>dx (mBin .sub 3 t19 (iN 65)) w K fun t20 w=>dx (mBin .add 3 t20 (iN 10)) w K fun t21 w=>K (.returned t21) w) (dx (mBin .geq 5 t0 (.int .u8 97)) w K fun t23 w=>etx t23 t0 w fun t25 w=>gtx t23 (mBin .leq 5 t25 (.int .u8 102)) w K fun t26 w=>dx (mPick t23 t26 (.bool false)) w K fun t27 w=>IfX t27 (dx (mConv 5 3 t0) w K fun t29 w=>dx (mBin .sub 3 t29 (iN 97)) w K fun t30 w=>dx (mBin .add 3 t30 (iN 10)) w K fun t31 w=>K (.returned t31) w) (K (.returned (iN (-1))) w)))
theorem S_foliantref01_Digit_ok{t0 w K}(h:S_foliantref01_Digit t0 w K):Calls prog 124 #[t0] w K:=cw Tryz.func124 rfl rfl (by kernel_rfl) h
end
section
open Eng Go.RowKit
 attribute [local congr] g_congr in
theorem rdigit_ret (c:UInt8)(w:World):Ret prog 124 #[.int .u8 c.toNat] w (fun v w'=>v=.int .i64 (Lx.digit c)∧w=w'):=by
  refine ret_of fun K hK=>S_foliantref01_Digit_ok ?_;unfold S_foliantref01_Digit iN dx gtx etx;have h256:=c.toNat_lt;simp +contextual only[rs,gs];by_cases h1:48≤c.toNat∧c.toNat≤57
  ·have hb:(decide ((48:Int)≤(c.toNat:Int))&&decide ((c.toNat:Int)≤57))=true:=by simp;omega
   simp only[hb,i_t];rw[c_64 (by omega) (by omega),b_sub,wrap64_id (by omega) (by omega)];exact hK _ _ ⟨by rw[Lx.digit,if_pos h1],rfl⟩
  have hb:(decide ((48:Int)≤(c.toNat:Int))&&decide ((c.toNat:Int)≤57))=false:=by
   rw[Bool.and_eq_false_iff,decide_eq_false_iff_not,decide_eq_false_iff_not];omega
  simp only[hb,i_f];by_cases h2:65≤c.toNat∧c.toNat≤70
  ·have hb:(decide ((65:Int)≤(c.toNat:Int))&&decide ((c.toNat:Int)≤70))=true:=by simp;omega
   simp only[hb,i_t];rw[c_64 (by omega) (by omega),b_sub,wrap64_id (by omega) (by omega),b_add,wrap64_id (by omega) (by omega)];exact hK _ _ ⟨by rw[Lx.digit,if_neg h1,if_pos h2],rfl⟩
  have hb:(decide ((65:Int)≤(c.toNat:Int))&&decide ((c.toNat:Int)≤70))=false:=by
   rw[Bool.and_eq_false_iff,decide_eq_false_iff_not,decide_eq_false_iff_not];omega
  simp only[hb,i_f];by_cases h3:97≤c.toNat∧c.toNat≤102
  ·have hb:(decide ((97:Int)≤(c.toNat:Int))&&decide ((c.toNat:Int)≤102))=true:=by simp;omega
   simp only[hb,i_t];rw[c_64 (by omega) (by omega),b_sub,wrap64_id (by omega) (by omega),b_add,wrap64_id (by omega) (by omega)];exact hK _ _ ⟨by rw[Lx.digit,if_neg h1,if_neg h2,if_pos h3],rfl⟩
  have hb:(decide ((97:Int)≤(c.toNat:Int))&&decide ((c.toNat:Int)≤102))=false:=by
   rw[Bool.and_eq_false_iff,decide_eq_false_iff_not,decide_eq_false_iff_not];omega
  simp only[hb,i_f];exact hK _ _ ⟨by rw[Lx.digit,if_neg h1,if_neg h2,if_neg h3],rfl⟩
end
end Go.Proofs.YtlipjfcbjemicaaGreatDoor










namespace Go.Proofs.YtlipjfcbjemicaaGreatDoor
section
open Eng Go.RowKit
theorem draw {w:World}{F:World→Prop}(h:F w.drew):DrawX w F:=⟨h⟩
end
end Go.Proofs.YtlipjfcbjemicaaGreatDoor


namespace Go.Proofs.YtlipjfcbjemicaaGreatDoor
section
open Eng Go.RowKit
theorem flat_get:∀(l:List Lx.Tok) (k j:Nat) (hk:k < l.length),j < 5→(l.flatMap tokC)[k*5+j]?=(tokC l[k])[j]?
|x::l,0,j,_,hj=>by
  rw[List.flatMap_cons,List.getElem?_append_left (by simpa[tokC] using hj)];simp
|x::l,k+1,j,hk,hj=>by
  have h5:(tokC x).length=5:=rfl;rw[List.flatMap_cons,List.getElem?_append_right (by rw[h5];omega),h5,show (k+1)*5+j - 5=k*5+j by omega];rw[flat_get l k j (by simpa using hk) hj];simp
end
end Go.Proofs.YtlipjfcbjemicaaGreatDoor


namespace Go.Proofs.YtlipjfcbjemicaaGreatDoor
section
open Eng Go.RowKit
theorem smp1:Lx.next [55,46] 0=(⟨2,0,2,70000,[]⟩,0):=by decide +kernel
end
end Go.Proofs.YtlipjfcbjemicaaGreatDoor








namespace Go.Proofs.YtlipjfcbjemicaaGreatDoor
section
open Eng Go.RowKit
theorem kid_at {A:Nat→Prop}{wb:World}{o:Ob}{vk vc:Value}{cs:List Value}(h:ObAt A wb o vk vc cs){i:Nat}(hi:i < o.kids.length) :
  ∃v p,OV A wb v o.kids[i]∧∀W,Kept A wb W→(mIA 23 vc (.int .i64 (i:Int))).run prog W=.ok (.value (.pointer (some p))) W∧(mLoad 25 (.pointer (some p))).run prog W=.ok (.value v) W:=by
 obtain⟨b,off,cap,rfl,_⟩:=sl_open h.kids.1 (by omega);obtain⟨a,hl,hov,hget⟩:=OVs.get _ _ i hi h.all;refine⟨.agg a.toArray,⟨b,off+i*6,none⟩,hov,fun W hk=>⟨?_,?_⟩⟩
 ·have:=run_ia (P:=prog) (T:=23) (b:=b) (off:=off) (cap:=cap) (n:=o.kids.length) (k:=.i64) (i:=(i:Int)) (w:=W) Tryz.underlying23 szOb (by omega) (by omega);rw[Int.toNat_natCast] at this;exact this
 ·obtain⟨b',off',cap',he,hc⟩:=sl_open (h.kept hk).kids.1 (by omega);cases he;refine run_load_at (v:=.agg a.toArray) (AtV.agg aggOb hl fun j v hj=>?_);rw[Nat.add_assoc];exact hc _ _ (hget j v hj)
theorem key_at {A:Nat→Prop}{wb:World}{o:Ob}{vk vc:Value}{cs:List Value}(h:ObAt A wb o vk vc cs){i:Nat}(hi:i < o.keys.length) :
  ∃p,∀W,Kept A wb W→(mIA 22 vk (.int .i64 (i:Int))).run prog W=.ok (.value (.pointer (some p))) W∧(mLoad 9 (.pointer (some p))).run prog W=.ok (.value (.string ⟨o.keys[i].toArray⟩)) W:=by
 obtain⟨b,off,cap,rfl,_⟩:=sl_open h.keys.1 (by omega);refine⟨⟨b,off+i,none⟩,fun W hk=>⟨?_,?_⟩⟩
 ·have:=run_ia (P:=prog) (T:=22) (b:=b) (off:=off) (cap:=cap) (n:=o.keys.length) (k:=.i64) (i:=(i:Int)) (w:=W) Tryz.underlying22 (show _=some 1 by kernel_rfl) (by omega) (by omega);rw[Int.toNat_natCast,Nat.mul_one] at this;exact this
 ·obtain⟨b',off',cap',he,hc⟩:=sl_open (h.kept hk).keys.1 (by omega);cases he;exact run_load_cell nStr5 (hc i _ (strsV_get hi))
section
variable {w:World}{PK:PKT}{K:VWP}{S:Nat→Prop}{w0:World}{L:List Ent}
end
end
section
open Eng Go.RowKit
theorem Eng.Mem.le.trans {M N O:Mem}(h:M.le N)(k:N.le O):M.le O:=Mem.le_trans h k
theorem strsV_one5 {l:List (List UInt8)}:∀x∈strsV l,x.oneCell'=true:=by
 intro x hx;obtain⟨y,_,rfl⟩:=List.mem_map.1 hx;rfl
theorem urow_one {w:World}{T:TypeId}{sz:Nat}{v:Value}{n:Nat}{xs:List Value}(h:(Ent.urow T sz v n xs).is w):v.oneCell'=true:=by
 rcases (show w.ownsRow 0 T sz v n xs from h).2 with ⟨rfl,_⟩|⟨g,cap,cur,rfl,_⟩<;>rfl
theorem ovs_one {A:Nat→Prop}{w:World}:∀{os:List Ob} {cs:List Value},OVs A w cs os→∀x∈cs,x.oneCell'=true
|[],cs,h=>by rw[OVs] at h;subst h;intro x hx;cases hx
|o::os,cs,h=>by
  rw[OVs] at h;obtain⟨a,rest,rfl,hl,h1,h2⟩:=h;intro x hx;rcases List.mem_append.1 hx with hx|hx
  ·obtain⟨vk,vc,cs',he,hk⟩:=h1.open;have e:a.toArray=(obC o vk vc).toArray:=by injection he
   have e:a=obC o vk vc:=by simpa using congrArg Array.toList e
   subst e;exact obC_one o hk.keys.one hk.kids.one x hx
  ·exact ovs_one h2 x hx
theorem ovs_app {A:Nat→Prop}{w:World}:∀{os ps:List Ob} {cs ds:List Value},OVs A w cs os→OVs A w ds ps→OVs A w (cs++ds) (os++ps)
|[],ps,cs,ds,h,k=>by rw[OVs] at h;subst h;simpa using k
|o::os,ps,cs,ds,h,k=>by
  rw[OVs] at h;obtain⟨a,rest,rfl,hl,h1,h2⟩:=h;rw[List.cons_append,OVs];exact⟨a,rest++ds,by simp,hl,h1,ovs_app h2 k⟩
theorem ovs_1 {A:Nat→Prop}{w:World}{o:Ob}{vk vc:Value}(h:OV A w (obV o vk vc) o):OVs A w (obC o vk vc) [o]:=by
 rw[OVs];exact⟨obC o vk vc,[],by simp,rfl,h,OVs.nil⟩
theorem ObAt.le {M N:Mem}{o:Ob}{vk vc:Value}{cs:List Value}(hl:M.le N)(h:ObAt M.A M.w o vk vc cs):ObAt N.A N.w o vk vc cs:=⟨h.keys.le hl,h.kids.le hl,h.all.le hl⟩
theorem obAt_mk {M:Mem}{k n g:Int}{s:List UInt8}{keys:List (List UInt8)}{kids:List Ob}{vk vc:Value}{cs:List Value}(h1:SlA M.A M.w vk 1 keys.length (strsV keys))(h2:SlA M.A M.w vc 6 kids.length cs)(h3:OVs M.A M.w cs kids):ObAt M.A M.w (.mk k n g s keys kids) vk vc cs:=⟨h1,h2,h3⟩
theorem ob0_ov (M:Mem):OV M.A M.w (obV Vl.ob0 (.slice none 0 0) (.slice none 0 0)) Vl.ob0:=(obAt_mk (M:=M) (keys:=[]) (kids:=[]) (SlA.nil _ _ _ _) (SlA.nil _ _ _ _) OVs.nil).ov
theorem clone1_ret (o:Ob){vk vc:Value}(hk:vk.oneCell'=true)(hc:vc.oneCell'=true)(w:World):Ret prog 164 #[obV o vk vc] w (fun v w'=>v=obV o vk vc∧Below w.heap.size w w'):=by
 refine ret_of fun K hK=>S_value_Clone_1_ok ?_;unfold S_value_Clone_1 dx;refine o_obb o hk hc (Own.start w) fun b w1 ho=>?_;refine o_oba ho fun b2 w2 ho=>?_;rw[ob_v ho 1 rfl];refine ob_put 0 hk hc ho rfl fun w3 ho=>?_;exact ret_v1 (rv_cell (ho.agg 0 rfl aggOb)) (hK _ _ ⟨rfl,ho.done⟩)
theorem clone1_plain:plainB prog 164=true:=by kernel_rfl
abbrev cloneF:Value:=.func (.func 164) #[] #[]
theorem changed_ret (n:Nat):∀(o:Ob) (v:Value) (M:Mem) (w:World),o.wt≤n→o.wt≤100000000000→M.has w→OV M.A M.w v o→RetM prog 163 #[v,cloneF] M w (fun v' N=>OV N.A N.w v' o):=by
 induction n with
|zero=>intro o v M w h;have:=o.wt_pos;omega
|succ n ih=>
 intro o v M w hn hw hM hv;obtain⟨vk,vc,cs,rfl,ha⟩:=hv.open;have hww:Ob.wts o.kids≤100000000000:=by cases o;rw[Ob.wt] at hw;simp only[Ob.kids];omega
 have hkt:Pl.tot o.keys≤100000000000:=by cases o;rw[Ob.wt] at hw;simp only[Ob.keys];omega
 have hlk:=Ob.len_wts o.kids;have hkl:=Pl.length_tot o.keys;refine retM_of hM fun K hK=>S_value_changed_ok ?_;unfold S_value_changed iN dx cx;refine o_obb o ha.keys.one ha.kids.one (OwnS.memS hM) fun b w1 ho=>?_;refine o_oba ho fun b4 w2 ho=>?_;rw[ob_v ho 1 rfl];refine c_val clone1_plain (c_below ho (R:=fun v=>v=obV o vk vc) (clone1_ret o ha.keys.one ha.kids.one w2) ?_);rintro _ w3 rfl ho;refine ob_put 1 ha.keys.one ha.kids.one ho rfl fun w4 ho=>?_;rw[fa_o4,ob_keys ho 1 rfl];refine c_ret (sclone_s_ret vk _ _ w4 (ha.keys.now (ho.hasM 2 rfl)) strsV_one5 (by omega)) fun vk' w5 hnew=>?_;have ho:=ho.join hnew;have ho:OwnS M.A w w5 [.urow 9 1 vk' o.keys.length (strsV o.keys),obE b4 ob0 (.slice none 0 0) (.slice none 0 0),obE b o vk vc,.mem M]:=ho;have hk1:vk'.oneCell'=true:=urow_one (ho.at_ 0 rfl);rw[fa_o4];refine o_store 2 ho rfl (by kernel_rfl) hk1 (show 0+4 < 6 by omega) fun w6 ho=>?_;have ho:OwnS M.A w w6 [.urow 9 1 vk' o.keys.length (strsV o.keys),obE b4 ob0 (.slice none 0 0) (.slice none 0 0),obE b o vk' vc,.mem M]:=ho;obtain⟨N,hMN,hkeys,ho⟩:=ho.freezeU 2 rfl;have ho:OwnS M.A w w6 [obE b4 ob0 (.slice none 0 0) (.slice none 0 0),obE b o vk' vc,.mem N]:=ho;refine join fun J hJ=>?_;have fin:∀(W:World) (N':Mem) (vc':Value) (cs':List Value),OwnS M.A w W [obE b4 ob0 (.slice none 0 0) (.slice none 0 0),obE b o vk' vc',.mem N']→N.le N'→vc'.oneCell'=true→SlA N'.A N'.w vc' 6 o.kids.length cs'→OVs N'.A N'.w cs' o.kids→J [] W:=by
  intro W N' vc' cs' ho hle hc1 h1 h2;refine hJ _ _ fun _=>?_;unfold S_value_changed_1 dx;rw[ob_v ho 1 rfl];refine ob_put 0 hk1 hc1 ho rfl fun w7 ho=>?_;refine ret_v1 (rv_cell (ho.agg 0 rfl aggOb)) (hK _ _ N' _ 2 ho rfl (hMN.trans hle) ?_);exact ObAt.ov (⟨hkeys.le hle,h1,h2⟩:ObAt N'.A N'.w o vk' vc' cs')
 have hav:=ha.le hMN;rw[fa_o5,ob_kids ho 1 rfl];obtain⟨a,cap,rfl,hnil⟩:∃a cap,vc=.slice a o.kids.length cap∧(a=none→o.kids.length=0):=by
  obtain⟨⟨_,a,cap,e,h1,_⟩,_⟩:=ha.kids;exact⟨a,cap,e,h1⟩
 rw[n_nilS Tryz.underlying23];cases a with
|none=>
  simp only[Option.isNone_none,Bool.not_true,i_f];exact fin _ N _ _ ho N.le_refl rfl hav.kids hav.all
|some p=>
  simp only[Option.isNone_some,Bool.not_false,i_t];rw[fa_o5,ob_kids ho 1 rfl,sl_len_any Tryz.underlying23];refine o_makeN (sz:=6) (bytes:=88) Tryz.underlying23 (by kernel_rfl) (by omega) (by omega) ho fun g w7 zs hzs ho=>?_;have ho:=ho.toU 6 o.kids.length o.kids.length hzs (Nat.le_refl _) (by omega);rw[List.take_of_length_le (by omega)] at ho;rw[fa_o5,ob_kids ho 2 rfl,sl_len_any Tryz.underlying23];refine loop (fun vs W=>∃(i:Nat) (N':Mem) (cs' zs':List Value),vs=[.int .i64 i]∧i≤o.kids.length∧N.le N'∧OVs N'.A N'.w cs' (o.kids.take i)∧cs'.length=i*6 ∧
    OwnS M.A w W [.urow 25 6 (.slice (some ⟨g,0,none⟩) o.kids.length o.kids.length) o.kids.length (cs'++zs'),obE b4 ob0 (.slice none 0 0) (.slice none 0 0),obE b o vk' (.slice (some p) o.kids.length cap),.mem N']) (fun vs _=>o.kids.length - n0 vs)
   ⟨0,N,[],zs,rfl,by omega,N.le_refl,OVs.nil,rfl,ho⟩ ?_
  clear ho;rintro vs w8 ⟨i,N',cs',zs',rfl,hi,hle,hcs',hl',ho⟩ _;simp only[S_value_changed_0,gd,rs,iN,dx,cx];have hrl:=(show w8.ownsRow 0 25 6 _ _ (cs'++zs') from ho.at_ 0 rfl).1;rw[List.length_append,hl'] at hrl;by_cases hlt:(i:Int) < (o.kids.length:Int)
  ·have hi':i < o.kids.length:=by omega
   simp only[hlt,decide_true,i_t];obtain⟨x,q,hx,hrx⟩:=kid_at (hav.le hle) hi';obtain⟨r1,r2⟩:=hrx w8 (ho.hasM 3 rfl);refine do_eq r1 |>.mpr (do_eq r2 |>.mpr ?_);obtain⟨xk,xc,xcs,rfl,hxa⟩:=hx.open;refine o_oba ho fun b7 w9 ho=>?_;refine ob_put 0 hxa.keys.one hxa.kids.one ho rfl fun w10 ho=>?_;rw[ob_v ho 0 rfl];have hkw:=kid_wt hi';refine c_mem ho 4 rfl (ih _ _ N' w10 (by omega) (by omega) (ho.hasM 4 rfl) hx) fun y N2 w11 hle2 hy ho=>?_;obtain⟨yk,yc,ycs,rfl,hya⟩:=hy.open;have ho:OwnS M.A w w11 [.urow 25 6 (.slice (some ⟨g,0,none⟩) o.kids.length o.kids.length) o.kids.length (cs'++zs'),obE b4 ob0 (.slice none 0 0) (.slice none 0 0),obE b o vk' (.slice (some p) o.kids.length cap),.mem N2]:=ho.tail;refine do_eq (run_ia Tryz.underlying23 szOb (by omega) (by omega)) |>.mpr ?_;rw[Int.toNat_natCast,Nat.zero_add];refine o_storeU 0 ho rfl (u:=obV o.kids[i] yk yc) (new:=obC o.kids[i] yk yc) rfl szOb (obC_one _ hya.keys.one hya.kids.one) (by show i*6+6≤_;omega) fun w12 ho=>?_;rw[wrap64_id (by omega) (by omega)];refine nextX ⟨i+1,N2,cs'++obC o.kids[i] yk yc,zs'.drop 6,rfl,by omega,hle.trans hle2,?_,?_,?_⟩ (by simp[n0,RowKit.intOf];omega)
   ·rw[List.take_succ_eq_append_getElem hi'];exact ovs_app (hcs'.le hle2) (ovs_1 hy)
   ·rw[List.length_append,hl'];show i*6+6=_;omega
   ·have e:(cs'++zs').take (i*6)++obC o.kids[i] yk yc++(cs'++zs').drop (i*6+(obC o.kids[i] yk yc).length)=cs'++obC o.kids[i] yk yc++zs'.drop 6:=by
     rw[List.take_left' hl',List.drop_append,List.drop_eq_nil_of_le (by rw[hl'];omega),List.nil_append,hl']
     congr 2
     show i*6+6 - i*6=6;omega
    rw[e] at ho;exact ho
  ·have hi':i=o.kids.length:=by omega
   subst hi';simp only[hlt,decide_false,i_f];have hz:zs'=[]:=List.eq_nil_of_length_eq_zero (by omega);subst hz;rw[List.append_nil,List.take_of_length_le (Nat.le_refl _)] at *;rw[fa_o5];refine o_store 2 ho rfl (by kernel_rfl) rfl (show 0+5 < 6 by omega) fun w9 ho=>?_;obtain⟨N2,hle2,hrow,ho⟩:=OwnS.freezeU (L:=[obE b4 ob0 (.slice none 0 0) (.slice none 0 0),obE b o vk' (.slice (some ⟨g,0,none⟩) o.kids.length o.kids.length),.mem N']) ho 2 rfl;exact fin _ N2 _ _ ho (hle.trans hle2) rfl hrow (hcs'.le hle2)
theorem clone_ret (o:Ob)(v:Value)(M:Mem)(w:World)(hw:o.wt≤100000000000)(hM:M.has w)(hv:OV M.A M.w v o):RetM prog 95 #[v] M w (fun v' N=>OV N.A N.w v' o):=by
 obtain⟨vk,vc,cs,rfl,ha⟩:=hv.open;refine retM_of hM fun K hK=>S_value_Clone_ok ?_;unfold S_value_Clone dx cx;refine o_obb o ha.keys.one ha.kids.one (OwnS.memS hM) fun b w1 ho=>?_;refine o_oba ho fun b4 w2 ho=>?_;rw[ob_v ho 1 rfl];refine c_mem ho 2 rfl (changed_ret o.wt o _ M w2 (Nat.le_refl _) hw (ho.hasM 2 rfl) hv) fun y N w3 hle hy ho=>?_;obtain⟨yk,yc,ycs,rfl,hya⟩:=hy.open;refine ob_put 0 hya.keys.one hya.kids.one ho rfl fun w4 ho=>?_;exact ret_v1 (rv_cell (ho.agg 0 rfl aggOb)) (hK _ _ N _ 2 ho rfl hle hy)
end
end Go.Proofs.YtlipjfcbjemicaaGreatDoor



namespace Go.Proofs.YtlipjfcbjemicaaGreatDoor
section
open Eng Go.RowKit
theorem n_err {xo yo:Operand}{a b:Int}{w:World}{PK:PKT}{K:VWP}:DoX prog (mEq .neq 30 xo yo (.int .i64 a) (.int .i64 b)) w PK K=K (.bool (decide (a≠b))) w:=n_int
end
end Go.Proofs.YtlipjfcbjemicaaGreatDoor

namespace Go.Proofs.YtlipjfcbjemicaaGreatDoor
section
open Eng Go.RowKit
abbrev nilS:Value:=.slice none 0 0
abbrev ob1 (k n g:Int)(s:List UInt8):Ob:=.mk k n g s [] []
section
variable {w:World}{S:Nat→Prop}{w0:World}{L:List Ent}
theorem ret_ob {K:Ending→World→Prop}{b:Nat}{o:Ob}{vk vc:Value}(ho:OwnS S w0 w (obE b o vk vc::L))(k:K (.returned (obV o vk vc)) w):RetX prog [.cell (.pointer (some ⟨b,0,none⟩)) 25] w K:=ret_v1 (rv_cell (ho.agg 0 rfl aggOb)) k
end
def obR (o:Ob)(vk vc:Value)(w:World):VWP:=fun v w'=>v=obV o vk vc∧Below w.heap.size w w'
theorem rkey05_ret (s:List UInt8)(w:World):Ret prog 51 #[.string ⟨s.toArray⟩] w (obR (ob1 5 0 0 s) nilS nilS w):=by
 refine ret_of fun K hK=>S_foliantref05_Key_ok ?_;unfold S_foliantref05_Key iN dx;refine o_oba (Own.start w) fun b w1 ho=>?_;have hb:∀{PK:PKT} {K:VWP},DoX prog (mBuild 25 #[(0,(.int .i64 5)),(3,.string ⟨s.toArray⟩)]) w1 PK K=K (obV (ob1 5 0 0 s) nilS nilS) w1:=do_eq (by kernel_rfl);rw[hb];refine ob_put 0 rfl rfl ho rfl fun w2 ho=>?_;exact ret_ob ho (hK _ _ ⟨rfl,ho.done⟩)
theorem rarr05_ret (a:Option Addr)(l c:Nat)(os:List Ob)(w:World):Ret prog 50 #[.slice a l c] w (obR ((.mk 6 0 0 [] [] os)) nilS (.slice a l c) w):=by
 refine ret_of fun K hK=>S_foliantref05_Array_ok ?_;unfold S_foliantref05_Array iN dx;refine o_oba (Own.start w) fun b w1 ho=>?_;have hb:∀{PK:PKT} {K:VWP},DoX prog (mBuild 25 #[(0,(.int .i64 6)),(5,.slice a l c)]) w1 PK K=K (obV ((.mk 6 0 0 [] [] os)) nilS (.slice a l c)) w1:=do_eq (by kernel_rfl);rw[hb];refine ob_put 0 rfl rfl ho rfl fun w2 ho=>?_;exact ret_ob ho (hK _ _ ⟨rfl,ho.done⟩)
end
section
open Eng Go.RowKit
def getV (v:Value)(b:Bool):Value:=.tuple #[v,.bool b]
def errV (v:Value)(e:Int):Value:=.tuple #[v,.int .i64 e]
section
variable {w:World}{S:Nat→Prop}{w0:World}{L:List Ent}
theorem ret_ob2 {K:Ending→World→Prop}{b:Nat}{o:Ob}{vk vc x:Value}(i:Nat)(ho:OwnS S w0 w L)(hi:L[i]?=some (obE b o vk vc))(k:K (.returned (.tuple #[obV o vk vc,x])) w):RetX prog [.cell (.pointer (some ⟨b,0,none⟩)) 25,.val x] w K:=
 ret_v2 (rv_cell (ho.agg i hi aggOb)) rv_val k
theorem m_ob0 {PK:PKT}{K:VWP}:DoX prog (mBuild 25 #[]) w PK K=K (obV Vl.ob0 nilS nilS) w:=do_eq (by kernel_rfl)
end
theorem vname_ret (s:List UInt8)(w:World):Ret prog 69 #[.string ⟨s.toArray⟩] w (obR (ob1 5 0 0 s) nilS nilS w):=by
 refine ret_of fun K hK=>S_value_Name_ok ?_;unfold S_value_Name iN dx;refine o_oba (Own.start w) fun b w1 ho=>?_;have hb:∀{PK:PKT} {K:VWP},DoX prog (mBuild 25 #[(0,(.int .i64 5)),(3,.string ⟨s.toArray⟩)]) w1 PK K=K (obV (ob1 5 0 0 s) nilS nilS) w1:=do_eq (by kernel_rfl);rw[hb];refine ob_put 0 rfl rfl ho rfl fun w2 ho=>?_;exact ret_ob ho (hK _ _ ⟨rfl,ho.done⟩)
theorem keyed_ret (o:Ob){vk vc:Value}(hk:vk.oneCell'=true)(hc:vc.oneCell'=true)(w:World):Ret prog 138 #[obV o vk vc] w (fun v w'=>v=.bool (Vl.keyed o)∧Below w.heap.size w w'):=by
 refine ret_of fun K hK=>S_value_keyed_ok ?_;unfold S_value_keyed iN dx gfx;refine o_obb o hk hc (Own.start w) fun b w1 ho=>?_;rw[fa_o0,ob_k ho 0 rfl];unfold Vl.keyed at hK;by_cases h7:o.k=7
 ·simp only[rs,h7,decide_true,g_un];exact hK _ _ ⟨by simp[h7],ho.done⟩
 ·simp only[rs,h7,decide_false,fa_o0,ob_k ho 0 rfl];exact hK _ _ ⟨by simp[h7],ho.done⟩
theorem vget_ret (o:Ob)(v:Value)(key:List UInt8)(M:Mem)(w:World)(hw:o.wt≤100000000000)(hM:M.has w)(hv:OV M.A M.w v o) :
  RetM prog 146 #[v,.string ⟨key.toArray⟩] M w (fun r N=>∃v',r=getV v' (Vl.get o key).isSome∧OV N.A N.w v' ((Vl.get o key).getD Vl.ob0)):=by
 obtain⟨vk,vc,cs,rfl,ha⟩:=hv.open;have hww:Ob.wts o.kids≤100000000000:=by cases o;rw[Ob.wt] at hw;simp only[Ob.kids];omega
 have hkt:Pl.tot o.keys≤100000000000:=by cases o;rw[Ob.wt] at hw;simp only[Ob.keys];omega
 have hkl:=Pl.length_tot o.keys;have hlk:=Ob.len_wts o.kids;refine retM_of hM fun K hK=>S_value_Get_ok ?_;unfold S_value_Get iN dx gfx efx cx;refine o_obb o ha.keys.one ha.kids.one (OwnS.memS hM) fun b w1 ho=>?_;refine o_oba ho fun b4 w2 ho=>?_;rw[ob_v ho 1 rfl];refine c_below ho (R:=fun v=>v=.bool (Vl.keyed o)) (keyed_ret o ha.keys.one ha.kids.one w2) ?_;rintro _ w3 rfl ho;have no:∀{W:World},OwnS M.A w W [obE b4 ob0 nilS nilS,obE b o vk vc,.mem M]→Vl.get o key=none→DoX prog (mBuild 25 #[]) W (pk K) (fun t W=>DoX prog (mStore 25 (.pointer (some ⟨b4,0,none⟩)) t) W (pk K) fun _ W=>RetX prog [.cell (.pointer (some ⟨b4,0,none⟩)) 25,.val (.bool false)] W K):=by
  intro W ho hg;rw[m_ob0];refine ob_put 0 rfl rfl ho rfl fun w4 ho=>?_;refine ret_ob2 0 ho rfl (hK _ _ M _ 2 ho rfl M.le_refl ⟨obV Vl.ob0 nilS nilS,?_,?_⟩)
  ·rw[hg];rfl
  ·rw[hg];exact ob0_ov M
 cases hkd:Vl.keyed o with
|false=>
  simp only[rs,Bool.not_false];exact no ho (by unfold Vl.get;rw[hkd];rfl)
|true=>
  simp only[rs,Bool.not_true];rw[fa_o4,ob_keys ho 1 rfl];refine c_eq (sindex_ret vk o.keys key w3 (ha.keys.now (ho.hasM 2 rfl)) (by omega)) ?_;by_cases hi:o.keys.idxOf key < o.keys.length
  ·rw[if_pos hi];have h0:¬((o.keys.idxOf key:Int) < 0):=by omega
   simp only[rs,h0,decide_false,fa_o5,ob_kids ho 1 rfl];rw[sl_len Tryz.underlying23 (ha.kids.now (ho.hasM 2 rfl))];simp only[rs];by_cases hc:(o.kids.length:Int)≤(o.keys.idxOf key:Int)
   ·simp only[hc,decide_true,rs];refine no ho ?_;unfold Vl.get;rw[hkd,if_pos rfl,if_pos hi,List.getElem?_eq_none (by omega)]
   ·simp only[hc,decide_false,rs,fa_o5,ob_kids ho 1 rfl];have hi':o.keys.idxOf key < o.kids.length:=by omega
    have hg:Vl.get o key=some o.kids[o.keys.idxOf key]:=by
     unfold Vl.get;rw[hkd,if_pos rfl,if_pos hi,List.getElem?_eq_getElem hi']
    obtain⟨x,q,hx,hrx⟩:=kid_at ha hi';obtain⟨r1,r2⟩:=hrx w3 (ho.hasM 2 rfl);refine do_eq r1 |>.mpr (do_eq r2 |>.mpr ?_);have hkw:=kid_wt hi';refine c_mem ho 2 rfl (clone_ret _ x M w3 (by omega) (ho.hasM 2 rfl) hx) fun y N w4 hle hy ho=>?_;obtain⟨yk,yc,ycs,rfl,hya⟩:=hy.open;refine ob_put 0 hya.keys.one hya.kids.one ho rfl fun w5 ho=>?_;refine ret_ob2 0 ho rfl (hK _ _ N _ 2 ho rfl hle ⟨obV o.kids[o.keys.idxOf key] yk yc,?_,?_⟩)
    ·rw[hg];rfl
    ·rw[hg];exact hy
  ·rw[if_neg hi];have h0:((-1:Int) < 0):=by omega
   simp only[rs,h0,decide_true,g_un];refine no ho ?_;unfold Vl.get;rw[hkd,if_pos rfl,if_neg hi]
theorem rget_ret (o:Ob)(v:Value)(key:List UInt8)(M:Mem)(w:World)(hw:o.wt≤100000000000)(hM:M.has w)(hv:OV M.A M.w v o) :
  RetM prog 33 #[v,.string ⟨key.toArray⟩] M w (fun r N=>∃v',r=getV v' (Vl.get o key).isSome∧OV N.A N.w v' ((Vl.get o key).getD Vl.ob0)):=by
 obtain⟨vk,vc,cs,rfl,ha⟩:=hv.open;have hww:Ob.wts o.kids≤100000000000:=by cases o;rw[Ob.wt] at hw;simp only[Ob.kids];omega
 have hkt:Pl.tot o.keys≤100000000000:=by cases o;rw[Ob.wt] at hw;simp only[Ob.keys];omega
 have hkl:=Pl.length_tot o.keys;have hlk:=Ob.len_wts o.kids;refine retM_of hM fun K hK=>S_foliantref05_Get_ok ?_;unfold S_foliantref05_Get iN dx gtx;refine o_obb o ha.keys.one ha.kids.one (OwnS.memS hM) fun b w1 ho=>?_;refine o_oba ho fun b4 w2 ho=>?_;have no:∀{W:World},OwnS M.A w W [obE b4 ob0 nilS nilS,obE b o vk vc,.mem M]→Vl.get o key=none→DoX prog (mBuild 25 #[]) W (pk K) (fun t W=>DoX prog (mStore 25 (.pointer (some ⟨b4,0,none⟩)) t) W (pk K) fun _ W=>RetX prog [.cell (.pointer (some ⟨b4,0,none⟩)) 25,.val (.bool false)] W K):=by
  intro W ho hg;rw[m_ob0];refine ob_put 0 rfl rfl ho rfl fun w4 ho=>?_;refine ret_ob2 0 ho rfl (hK _ _ M _ 2 ho rfl M.le_refl ⟨obV Vl.ob0 nilS nilS,?_,?_⟩)
  ·rw[hg];rfl
  ·rw[hg];exact ob0_ov M
 rw[fa_o0,ob_k ho 1 rfl];have main:Vl.keyed o=true→DoX prog (mFA 25 (.pointer (some ⟨b,0,none⟩)) 4) w2 (pk K) (fun t17 w=>
   DoX prog (mLoad 22 t17) w (pk K) fun t18 w=>
   DoX prog (mB .len #[22] 3 #[false] #[t18]) w (pk K) fun t19 w=>
   LoopX [(.bool false),(.int .i64 0)] w (fun vs1 w N1=>∀_:Sg,S_foliantref05_Get_0 (.string ⟨key.toArray⟩) (.pointer (some ⟨b,0,none⟩)) (.pointer (some ⟨b4,0,none⟩)) (vs1.getD 0 undef) t18 t19 (vs1.getD 1 undef) w N1 K)):=by
  intro hkd;rw[fa_o4,ob_keys ho 1 rfl,sl_len Tryz.underlying22 (ha.keys.now (ho.hasM 2 rfl))];refine loop (fun vs W=>∃i:Nat,vs=[.bool false,.int .i64 i]∧i≤o.keys.length∧key ∉ o.keys.take i∧OwnS M.A w W [obE b4 ob0 nilS nilS,obE b o vk vc,.mem M]) (fun vs _=>o.keys.length - n1 vs) ⟨0,rfl,by omega,by simp,ho⟩ ?_;clear ho;rintro vs w3 ⟨i,rfl,hi,hm,ho⟩ _;simp only[S_foliantref05_Get_0,gd,rs,iN,dx];by_cases hlt:(i:Int) < (o.keys.length:Int)
  ·have hi':i < o.keys.length:=by omega
   simp only[hlt,decide_true,i_t];obtain⟨q,hrk⟩:=key_at ha hi';obtain⟨r1,r2⟩:=hrk w3 (ho.hasM 2 rfl);refine do_eq r1 |>.mpr (do_eq r2 |>.mpr ?_);simp only[rs];by_cases he:o.keys[i]=key
   ·have hix:o.keys.idxOf key=i:=idx_at hi' hm he;simp only[he,decide_true,i_t,fa_o5,ob_kids ho 1 rfl];rw[sl_len Tryz.underlying23 (ha.kids.now (ho.hasM 2 rfl))];simp only[rs];by_cases hc:(o.kids.length:Int)≤(i:Int)
    ·simp only[hc,decide_true,i_t];refine no ho ?_;unfold Vl.get;rw[hkd,if_pos rfl,hix,if_pos hi',List.getElem?_eq_none (by omega)]
    ·simp only[hc,decide_false,i_f,fa_o5,ob_kids ho 1 rfl];have hc':i < o.kids.length:=by omega
     have hg:Vl.get o key=some o.kids[i]:=by
      unfold Vl.get;rw[hkd,if_pos rfl,hix,if_pos hi',List.getElem?_eq_getElem hc']
     obtain⟨x,q,hx,hrx⟩:=kid_at ha hc';obtain⟨r1,r2⟩:=hrx w3 (ho.hasM 2 rfl);refine do_eq r1 |>.mpr (do_eq r2 |>.mpr ?_);obtain⟨yk,yc,ycs,rfl,hya⟩:=hx.open;refine ob_put 0 hya.keys.one hya.kids.one ho rfl fun w5 ho=>?_;refine ret_ob2 0 ho rfl (hK _ _ M _ 2 ho rfl M.le_refl ⟨obV o.kids[i] yk yc,?_,?_⟩)
     ·rw[hg];rfl
     ·rw[hg];exact hx
   ·simp only[he,decide_false,i_f];rw[wrap64_id (by omega) (by omega)];refine nextX ⟨i+1,rfl,by omega,?_,ho⟩ (by simp[n1,RowKit.intOf];omega);rw[List.take_add_one,List.getElem?_eq_getElem hi'];simp only[Option.toList,List.mem_append,List.mem_singleton,not_or];exact⟨hm,fun e=>he e.symm⟩
  ·simp only[hlt,decide_false,i_f];refine no ho ?_;rw[List.take_of_length_le (by omega)] at hm;unfold Vl.get;rw[hkd,if_pos rfl,if_neg (by rw[List.idxOf_lt_length_iff];exact hm)]
 by_cases h7:o.k=7
 ·simp only[rs,h7,ne_eq,not_true,decide_false,g_un];exact main (by simp[Vl.keyed,h7])
 ·simp only[rs,h7,ne_eq,not_false_eq_true,decide_true,fa_o0,ob_k ho 1 rfl];by_cases h9:o.k=9
  ·simp only[h9,not_true,decide_false,rs];exact main (by simp[Vl.keyed,h9])
  ·simp only[h9,not_false_eq_true,decide_true,rs];exact no ho (by simp[Vl.get,Vl.keyed,h7,h9])
theorem sound_ret (o:Ob)(v:Value)(M:Mem)(w:World)(hw:o.wt≤100000000000)(hM:M.has w)(hv:OV M.A M.w v o) :
  RetM prog 139 #[v] M w (fun r N=>∃v',r=errV v' (Vl.right o).2∧OV N.A N.w v' (Vl.right o).1):=by
 obtain⟨vk,vc,cs,rfl,ha⟩:=hv.open;refine retM_of hM fun K hK=>S_value_sound_ok ?_;unfold S_value_sound iN dx cx;refine o_obb o ha.keys.one ha.kids.one (OwnS.memS hM) fun b w1 ho=>?_;refine o_oba ho fun b4 w2 ho=>?_;rw[ob_v ho 1 rfl];refine c_below ho (R:=fun v=>v=.int .i64 (Vl.check 1 o)) (vCheck_ret o _ w2 (OV.inw (ho.hasM 2 rfl) hv) (by omega)) ?_;rintro _ w3 rfl ho;simp only[n_err];by_cases hc:Vl.check 1 o=0
 ·simp only[hc,ne_eq,not_true,decide_false,i_f];rw[ob_v ho 1 rfl];refine ob_put 0 ha.keys.one ha.kids.one ho rfl fun w4 ho=>?_;refine ret_ob2 0 ho rfl (hK _ _ M _ 2 ho rfl M.le_refl ⟨obV o vk vc,?_,?_⟩)
  ·simp[Vl.right,hc,errV]
  ·simpa[Vl.right,hc] using hv
 ·simp only[hc,ne_eq,not_false_eq_true,decide_true,i_t];rw[m_ob0];refine ob_put 0 rfl rfl ho rfl fun w4 ho=>?_;refine ret_ob2 0 ho rfl (hK _ _ M _ 2 ho rfl M.le_refl ⟨obV Vl.ob0 nilS nilS,?_,?_⟩)
  ·simp[Vl.right,hc,errV]
  ·simpa[Vl.right,hc] using ob0_ov M
end
section
open Go
namespace Vl
theorem tot_split (l:List (List UInt8))(i:Nat):Pl.tot (l.take i)+Pl.tot (l.drop i)=Pl.tot l:=by
 rw[←Pl.tot_append,List.take_append_drop]
theorem wts_app:∀a b:List Ob,Ob.wts (a++b)=Ob.wts a+Ob.wts b
|[],b=>by rw[List.nil_append,Ob.wts];omega
|o::a,b=>by rw[List.cons_append,Ob.wts,Ob.wts,wts_app a b];omega
theorem wts_split (l:List Ob)(i:Nat):Ob.wts (l.take i)+Ob.wts (l.drop i)=Ob.wts l:=by
 rw[←wts_app,List.take_append_drop]
theorem drop_tot (l:List (List UInt8))(i j:Nat)(h:i≤j):Pl.tot (l.drop j)≤Pl.tot (l.drop i):=by
 have:=tot_split (l.drop i) (j - i);rw[List.drop_drop,show i+(j - i)=j by omega] at this;omega
theorem drop_wts (l:List Ob)(i j:Nat)(h:i≤j):Ob.wts (l.drop j)≤Ob.wts (l.drop i):=by
 have:=wts_split (l.drop i) (j - i);rw[List.drop_drop,show i+(j - i)=j by omega] at this;omega
theorem wt_eq (o:Ob):o.wt=6+o.s.length+Pl.tot o.keys+Ob.wts o.kids:=by cases o;rw[Ob.wt];rfl
theorem put_wt (o:Ob)(key:List UInt8)(v:Ob):(put o key v).wt≤o.wt+(key.length+1)+v.wt:=by
 rw[wt_eq (put o key v),wt_eq o];rw[show (put o key v).s=o.s from rfl,show (put o key v).keys=o.keys.take (place o.keys key)++key::o.keys.drop (place o.keys key+if hit o.keys key then 1 else 0) from rfl,
  show (put o key v).kids=o.kids.take (place o.keys key)++v::o.kids.drop (place o.keys key+if hit o.keys key then 1 else 0) from rfl]
 rw[Pl.tot_append,wts_app];have h1:=tot_split o.keys (place o.keys key);have h2:=drop_tot o.keys (place o.keys key) (place o.keys key+if hit o.keys key then 1 else 0) (by omega);have h3:=wts_split o.kids (place o.keys key);have h4:=drop_wts o.kids (place o.keys key) (place o.keys key+if hit o.keys key then 1 else 0) (by omega);have h5:∀l,Pl.tot (key::l)=key.length+1+Pl.tot l:=fun l=>by simp[Pl.tot]
 rw[h5,Ob.wts];omega
theorem dropK_wt (key:List UInt8):∀(ks:List (List UInt8)) (cs:List Ob),Pl.tot (dropK key ks cs).1≤Pl.tot ks∧Ob.wts (dropK key ks cs).2≤Ob.wts cs
|[],cs=>by simp[dropK,Pl.tot,Ob.wts]
|k::ks,[]=>by simp[dropK,Pl.tot,Ob.wts]
|k::ks,c::cs=>by
  have h5:∀a l,Pl.tot (a::l)=a.length+1+Pl.tot l:=fun a l=>by simp[Pl.tot]
  obtain⟨h1,h2⟩:=dropK_wt key ks cs;rw[dropK];split
  ·rw[h5,Ob.wts];exact⟨by omega,by omega⟩
  ·rw[h5,h5,Ob.wts,Ob.wts];exact⟨by omega,by omega⟩
theorem without_wt (o:Ob)(key:List UInt8):(without o key).wt≤o.wt:=by
 rw[wt_eq (without o key),wt_eq o];have:=dropK_wt key o.keys o.kids;rw[show (without o key).s=o.s from rfl,show (without o key).keys=(dropK key o.keys o.kids).1 from rfl,show (without o key).kids=(dropK key o.keys o.kids).2 from rfl];omega
end Vl
end
section
open Eng Go.RowKit
theorem OwnS.sep {S:Nat→Prop}{w0 w:World}{L:List Ent}(ho:OwnS S w0 w L)(i j:Nat)(hij:i≠j){e f:Ent}(hi:L[i]?=some e)(hj:L[j]?=some f):∀k,e.blk k→¬f.blk k:=by
 obtain⟨hil,rfl⟩:=List.getElem?_eq_some_iff.1 hi;obtain⟨hjl,rfl⟩:=List.getElem?_eq_some_iff.1 hj;have hp:=List.pairwise_iff_getElem.1 ho.apart;intro k hk hk';rcases Nat.lt_or_ge i j with h|h
 ·exact hp i j hil hjl h k hk hk'
 ·exact hp j i hjl hil (by omega) k hk' hk
section
variable {w:World}{S:Nat→Prop}{w0:World}{L:List Ent}{PK:PKT}{K:VWP}
theorem o_obs1 (o:Ob){vk vc:Value}(hk:vk.oneCell'=true)(hc:vc.oneCell'=true)(ho:OwnS S w0 w L)(k:∀b w',OwnS S w0 w' (obE b o vk vc::L)→K (.slice (some ⟨b,0,none⟩) 1 1) w'):DoX prog (mBuildS 23 1 #[(0,obV o vk vc)]) w PK K:=by
 cases vk<;>first|(cases hk;done)|skip
 all_goals cases vc<;>first|(cases hc;done)|exact o_new (fun b=>.slice (some ⟨b,0,none⟩) 1 1) (obC o _ _) 25 (fun _=>by kernel_rfl) ho k
theorem o_strb1 (s:List UInt8)(ho:OwnS S w0 w L)(k:∀b w',OwnS S w0 w' (.cells b [.string ⟨s.toArray⟩] 9::L)→K (.slice (some ⟨b,0,none⟩) 1 1) w'):DoX prog (mBuildS 22 1 #[(0,.string ⟨s.toArray⟩)]) w PK K:=
 o_new (fun b=>.slice (some ⟨b,0,none⟩) 1 1) [.string ⟨s.toArray⟩] 9 (fun _=>by kernel_rfl) ho k
end
theorem strsV_take (l:List (List UInt8))(i:Nat):(strsV l).take (i*1)=strsV (l.take i):=by rw[Nat.mul_one];simp[strsV]
theorem strsV_drop (l:List (List UInt8))(i:Nat):(strsV l).drop (i*1)=strsV (l.drop i):=by rw[Nat.mul_one];simp[strsV]
theorem strsV_app (a b:List (List UInt8)):strsV (a++b)=strsV a++strsV b:=by simp[strsV]
theorem ovs_take {A:Nat→Prop}{w:World}:∀{os:List Ob} {cs:List Value} (i:Nat),OVs A w cs os→OVs A w (cs.take (i*6)) (os.take i)
|_,_,0,_=>by rw[Nat.zero_mul,List.take_zero,List.take_zero];exact OVs.nil
|[],cs,i+1,h=>by rw[OVs] at h;subst h;rw[List.take_nil,List.take_nil];exact OVs.nil
|o::os,cs,i+1,h=>by
  rw[OVs] at h;obtain⟨a,rest,rfl,hl,h1,h2⟩:=h;have e:(a++rest).take ((i+1)*6)=a++rest.take (i*6):=by
   rw[List.take_append,List.take_of_length_le (by omega)]
   congr 2
   omega
  rw[e,List.take_succ_cons,OVs];exact⟨a,_,rfl,hl,h1,ovs_take i h2⟩
theorem ovs_drop {A:Nat→Prop}{w:World}:∀{os:List Ob} {cs:List Value} (i:Nat),OVs A w cs os→OVs A w (cs.drop (i*6)) (os.drop i)
|_,_,0,h=>by rw[Nat.zero_mul,List.drop_zero,List.drop_zero];exact h
|[],cs,i+1,h=>by rw[OVs] at h;subst h;rw[List.drop_nil,List.drop_nil];exact OVs.nil
|o::os,cs,i+1,h=>by
  rw[OVs] at h;obtain⟨a,rest,rfl,hl,h1,h2⟩:=h;have e:(a++rest).drop ((i+1)*6)=rest.drop (i*6):=by
   rw[List.drop_append,List.drop_eq_nil_of_le (by omega),List.nil_append]
   congr 1
   omega
  rw[e,List.drop_succ_cons];exact ovs_drop i h2
theorem with_ret (o x:Ob)(v u:Value)(key:List UInt8)(M:Mem)(w:World)(hw:o.wt≤10000000000)(hM:M.has w)(hv:OV M.A M.w v o)(hu:OV M.A M.w u x)(hr:Vl.Rise o.keys)(hlen:o.keys.length=o.kids.length) :
  RetM prog 140 #[v,.string ⟨key.toArray⟩,u] M w (fun r N=>OV N.A N.w r (Vl.put o key x)):=by
 obtain⟨vk,vc,cs,rfl,ha⟩:=hv.open;obtain⟨xk,xc,xcs,rfl,hx⟩:=hu.open;have hww:Ob.wts o.kids≤10000000000:=by cases o;rw[Ob.wt] at hw;simp only[Ob.kids];omega
 have hkt:Pl.tot o.keys≤10000000000:=by cases o;rw[Ob.wt] at hw;simp only[Ob.keys];omega
 have hkl:=Pl.length_tot o.keys;have hlk:=Ob.len_wts o.kids;refine retM_of hM fun K hK=>S_value_with_ok ?_;unfold S_value_with dx cx;refine o_obb o ha.keys.one ha.kids.one (OwnS.memS hM) fun b3 w1 ho=>?_;refine o_obb x hx.keys.one hx.kids.one ho fun b5 w2 ho=>?_;refine o_oba ho fun b6 w3 ho=>?_;rw[fa_o4,ob_keys ho 2 rfl];refine c_eq (bsearch_ret vk o.keys key w3 (ha.keys.now (ho.hasM 3 rfl)) hr (by omega)) ?_;simp only[ex];rw[fa_o4,ob_keys ho 2 rfl];refine c_ret (sclone_s_ret vk _ _ w3 (ha.keys.now (ho.hasM 3 rfl)) strsV_one5 (by omega)) fun vk1 w4 hnew=>?_;have ho:=ho.join hnew;have ho:OwnS M.A w w4 [.urow 9 1 vk1 o.keys.length (strsV o.keys),obE b6 ob0 nilS nilS,obE b5 x xk xc,obE b3 o vk vc,.mem M]:=ho;rw[fa_o4];refine o_store 3 ho rfl (by kernel_rfl) (urow_one (ho.at_ 0 rfl)) (show 0+4 < 6 by omega) fun w5 ho=>?_;have ho:OwnS M.A w w5 [.urow 9 1 vk1 o.keys.length (strsV o.keys),obE b6 ob0 nilS nilS,obE b5 x xk xc,obE b3 o vk1 vc,.mem M]:=ho;rw[fa_o5,ob_kids ho 3 rfl];refine c_ret (sclone_o_ret vc _ _ w5 (ha.kids.now (ho.hasM 4 rfl)) (ovs_one ha.all) (by omega)) fun vc1 w6 hnew=>?_;have ho:=ho.join hnew;have ho:OwnS M.A w w6 [.urow 25 6 vc1 o.kids.length cs,.urow 9 1 vk1 o.keys.length (strsV o.keys),obE b6 ob0 nilS nilS,obE b5 x xk xc,obE b3 o vk1 vc,.mem M]:=ho;rw[fa_o5];refine o_store 4 ho rfl (by kernel_rfl) (urow_one (ho.at_ 0 rfl)) (show 0+5 < 6 by omega) fun w7 ho=>?_;have ho:OwnS M.A w w7 [.urow 25 6 vc1 o.kids.length cs,.urow 9 1 vk1 o.keys.length (strsV o.keys),obE b6 ob0 nilS nilS,obE b5 x xk xc,obE b3 o vk1 vc1,.mem M]:=ho;have hple:=Vl.place_le o.keys key;refine join fun J hJ=>?_;have fin:∀(W:World) (kv cv:Value) (ks:List (List UInt8)) (os:List Ob) (ds:List Value),OwnS M.A w W [.urow 25 6 cv os.length ds,.urow 9 1 kv ks.length (strsV ks),obE b6 ob0 nilS nilS,obE b5 x xk xc,obE b3 o kv cv,.mem M] →
   OVs M.A M.w ds os→Vl.put o key x=.mk o.k o.n o.g o.s ks os→J [] W:=by
  intro W kv cv ks os ds ho hall hput;refine hJ _ _ fun _=>?_;unfold S_value_with_0 dx;have hk1:=urow_one (ho.at_ 1 rfl);have hc1:=urow_one (ho.at_ 0 rfl);obtain⟨N,hle,hrow,ho⟩:=OwnS.freezeU (L:=[.urow 9 1 kv ks.length (strsV ks),obE b6 ob0 nilS nilS,obE b5 x xk xc,obE b3 o kv cv,.mem M]) ho 4 rfl;obtain⟨N2,hle2,hrow2,ho⟩:=OwnS.freezeU (L:=[obE b6 ob0 nilS nilS,obE b5 x xk xc,obE b3 o kv cv,.mem N]) ho 3 rfl;have ho:OwnS M.A w W [obE b6 ob0 nilS nilS,obE b5 x xk xc,obE b3 o kv cv,.mem N2]:=ho;rw[ob_v ho 2 rfl];refine ob_put 0 hk1 hc1 ho rfl fun w8 ho=>?_;refine ret_v1 (rv_cell (ho.agg 0 rfl aggOb)) (hK _ _ N2 _ 3 ho rfl (hle.trans hle2) ?_);rw[hput];exact ObAt.ov (o:=.mk o.k o.n o.g o.s ks os) ⟨hrow2,hrow.le hle2,hall.le (hle.trans hle2)⟩
 cases hh:Vl.hit o.keys key with
|true=>
  simp only[i_t];have hi:o.keys[Vl.place o.keys key]?=some key:=of_decide_eq_true hh;have hlt:Vl.place o.keys key < o.keys.length:=(List.getElem?_eq_some_iff.1 hi).1;have hg:o.keys[Vl.place o.keys key]=key:=(List.getElem?_eq_some_iff.1 hi).2;rw[fa_o5,ob_kids ho 4 rfl,ob_v ho 3 rfl];obtain⟨g,cap,rfl⟩:=urow_open (ho.at_ 0 rfl) (by omega);refine do_eq (run_ia Tryz.underlying23 szOb (by omega) (by omega)) |>.mpr ?_;rw[Int.toNat_natCast,Nat.zero_add];have hcl:cs.length=o.kids.length*6:=ha.kids.1.1;refine o_storeU 0 ho rfl (u:=obV x xk xc) (new:=obC x xk xc) rfl szOb (obC_one _ hx.keys.one hx.kids.one) (by show _+6≤_;omega) fun w8 ho=>?_;have e1:o.keys.take (Vl.place o.keys key)++key::o.keys.drop (Vl.place o.keys key+1)=o.keys:=by
   conv=>rhs;rw[←List.take_append_drop (Vl.place o.keys key) o.keys,List.drop_eq_getElem_cons hlt,hg]
  refine fin w8 vk1 (.slice (some ⟨g,0,none⟩) o.kids.length cap) o.keys (o.kids.take (Vl.place o.keys key)++x::o.kids.drop (Vl.place o.keys key+1)) (cs.take (Vl.place o.keys key*6)++obC x xk xc++cs.drop (Vl.place o.keys key*6+6)) ?_ ?_ ?_
  ·have el:(o.kids.take (Vl.place o.keys key)++x::o.kids.drop (Vl.place o.keys key+1)).length=o.kids.length:=by simp;omega
   rw[el];exact ho
  ·have:=ovs_app (ovs_take (Vl.place o.keys key) ha.all) (ovs_app (ovs_1 hu) (ovs_drop (Vl.place o.keys key+1) ha.all));rw[show (Vl.place o.keys key+1)*6=Vl.place o.keys key*6+6 by omega,←List.append_assoc] at this;exact this
  ·unfold Vl.put;rw[hh];simp only[if_true];rw[e1]
|false=>
  simp only[i_f];rw[fa_o4,ob_keys ho 4 rfl];refine o_strb1 key ho fun nb w8 ho=>?_;refine c_turn 2 ho rfl (sinsert_s_ret vk1 o.keys.length (strsV o.keys) (Vl.place o.keys key) nb [.string ⟨key.toArray⟩] w8 (ho.at_ 2 rfl) (ho.at_ 0 rfl) rfl (fun h=>(OwnS.sep ho 2 0 (by omega) rfl rfl) nb h rfl) strsV_one5 (by simp[Value.oneCell']) hple (by omega)) ?_;rintro kv e' w9 rfl ho;have ho:OwnS M.A w w9 [.cells nb [.string ⟨key.toArray⟩] 9,.urow 25 6 vc1 o.kids.length cs,.urow 9 1 kv (o.keys.length+1) ((strsV o.keys).take (Vl.place o.keys key*1)++[.string ⟨key.toArray⟩]++(strsV o.keys).drop (Vl.place o.keys key*1)),obE b6 ob0 nilS nilS,obE b5 x xk xc,obE b3 o vk1 vc1,.mem M]:=ho;rw[strsV_take,strsV_drop] at ho;have ho:=ho.tail;rw[fa_o4];refine o_store 4 ho rfl (by kernel_rfl) (urow_one (ho.at_ 1 rfl)) (show 0+4 < 6 by omega) fun w10 ho=>?_;have ho:OwnS M.A w w10 [.urow 25 6 vc1 o.kids.length cs,.urow 9 1 kv (o.keys.length+1) (strsV (o.keys.take (Vl.place o.keys key))++[.string ⟨key.toArray⟩]++strsV (o.keys.drop (Vl.place o.keys key))),obE b6 ob0 nilS nilS,obE b5 x xk xc,obE b3 o kv vc1,.mem M]:=ho;rw[fa_o5,ob_kids ho 4 rfl,ob_v ho 3 rfl];refine o_obs1 x hx.keys.one hx.kids.one ho fun nb2 w11 ho=>?_;refine c_turn 1 ho rfl (sinsert_o_ret vc1 o.kids.length cs (Vl.place o.keys key) nb2 (obC x xk xc) w11 (ho.at_ 1 rfl) (ho.at_ 0 rfl) rfl (fun h=>(OwnS.sep ho 1 0 (by omega) rfl rfl) nb2 h rfl) (ovs_one ha.all) (obC_one _ hx.keys.one hx.kids.one) (by omega) (by omega)) ?_;rintro cv e' w12 rfl ho;have ho:OwnS M.A w w12 [.cells nb2 (obC x xk xc) 25,.urow 25 6 cv (o.kids.length+1) (cs.take (Vl.place o.keys key*6)++obC x xk xc++cs.drop (Vl.place o.keys key*6)),.urow 9 1 kv (o.keys.length+1) (strsV (o.keys.take (Vl.place o.keys key))++[.string ⟨key.toArray⟩]++strsV (o.keys.drop (Vl.place o.keys key))),obE b6 ob0 nilS nilS,obE b5 x xk xc,obE b3 o kv vc1,.mem M]:=ho;have ho:=ho.tail;rw[fa_o5];refine o_store 4 ho rfl (by kernel_rfl) (urow_one (ho.at_ 0 rfl)) (show 0+5 < 6 by omega) fun w13 ho=>?_;refine fin w13 kv cv (o.keys.take (Vl.place o.keys key)++key::o.keys.drop (Vl.place o.keys key)) (o.kids.take (Vl.place o.keys key)++x::o.kids.drop (Vl.place o.keys key)) (cs.take (Vl.place o.keys key*6)++obC x xk xc++cs.drop (Vl.place o.keys key*6)) ?_ ?_ ?_
  ·have el:(o.kids.take (Vl.place o.keys key)++x::o.kids.drop (Vl.place o.keys key)).length=o.kids.length+1:=by simp;omega
   have el2:(o.keys.take (Vl.place o.keys key)++key::o.keys.drop (Vl.place o.keys key)).length=o.keys.length+1:=by simp;omega
   have es:strsV (o.keys.take (Vl.place o.keys key)++key::o.keys.drop (Vl.place o.keys key))=strsV (o.keys.take (Vl.place o.keys key))++[.string ⟨key.toArray⟩]++strsV (o.keys.drop (Vl.place o.keys key)):=by
    rw[strsV_app];simp[strsV,strV]
   rw[el,el2,es];exact ho
  ·have:=ovs_app (ovs_take (Vl.place o.keys key) ha.all) (ovs_app (ovs_1 hu) (ovs_drop (Vl.place o.keys key) ha.all));rw[←List.append_assoc] at this;exact this
  ·unfold Vl.put;rw[hh];simp
end
section
open Eng Go.RowKit
theorem Sl.upto {w:World}{a:Option Addr}{n cap sz i:Nat}{cs:List Value}(h:Sl w (.slice a n cap) sz n cs)(hi:i≤n):Sl w (.slice (subA a 0 cap sz) i cap) sz i (cs.take (i*sz)):=by
 obtain⟨hl,a',cap',e,h1,h2⟩:=h
 injection e with e1 _ e3
 subst e1;subst e3;refine⟨by rw[List.length_take,hl,Nat.min_eq_left (Nat.mul_le_mul_right _ hi)],subA a 0 cap sz,cap,rfl,?_,?_⟩
 ·intro hn;cases a with
 |none=>have:=h1 rfl;omega
 |some p=>unfold subA at hn;split at hn<;>simp at hn
 ·intro p hp;cases a with
 |none=>unfold subA at hp;split at hp<;>simp at hp
 |some q=>
   have hq:q=p:=by
    unfold subA at hp;split at hp
    ·exact Option.some.inj hp
    ·have:=Option.some.inj hp;rw[←this];simp[Addr.add]
   subst hq;refine⟨fun h=>(h2 q rfl).1 (by omega),fun j u hj=>(h2 q rfl).2 j u ?_⟩;rw[List.getElem?_take] at hj;split at hj<;>first|exact hj|cases hj
theorem Sl.from {w:World}{a:Option Addr}{n cap sz i:Nat}{cs:List Value}(h:Sl w (.slice a n cap) sz n cs)(hi:i≤n)(hc:n≤cap):Sl w (.slice (subA a i cap sz) (n - i) (cap - i)) sz (n - i) (cs.drop (i*sz)):=by
 obtain⟨hl,a',cap',e,h1,h2⟩:=h
 injection e with e1 _ e3
 subst e1;subst e3;refine⟨by rw[List.length_drop,hl,←Nat.mul_sub_right_distrib],subA a i cap sz,cap - i,rfl,?_,?_⟩
 ·intro hn;cases a with
 |none=>have:=h1 rfl;omega
 |some p=>unfold subA at hn;split at hn<;>simp at hn
 ·intro p hp;cases a with
 |none=>unfold subA at hp;split at hp<;>simp at hp
 |some q=>
   by_cases hci:cap=i
   ·have hn:n - i=0:=by omega
    refine⟨fun h=>by omega,fun j u hj=>?_⟩;have:(cs.drop (i*sz)).length=0:=by rw[List.length_drop,hl,←Nat.mul_sub_right_distrib,hn,Nat.zero_mul]
    have:=(List.getElem?_eq_some_iff.1 hj).1;omega
   ·unfold subA at hp;rw[if_neg hci,Option.map_some] at hp
    injection hp with hp
    have hsz:0 < n - i→q.spot=none:=fun h=>(h2 q rfl).1 (by omega);refine⟨fun h=>?_,fun j u hj=>?_⟩
    ·have hs:=hsz h;rw[←hp];obtain⟨b,off,spot⟩:=q;simp only at hs;subst hs;rw[add_none]
    ·rw[List.getElem?_drop] at hj;have hc2:=(h2 q rfl).2 (i*sz+j) u hj;have hjl:=(List.getElem?_eq_some_iff.1 hj).1;have hs:q.spot=none:=(h2 q rfl).1 (by
      rcases Nat.eq_zero_or_pos n with h0|h0
      ·rw[hl,h0,Nat.zero_mul] at hjl;omega
      ·exact h0)
     rw[←hp];obtain⟨b,off,spot⟩:=q;simp only at hs;subst hs;rw[add_none,Nat.add_assoc];exact hc2
theorem SlA.form {A:Nat→Prop}{w:World}{v:Value}{sz n:Nat}{cs:List Value}(h:SlA A w v sz n cs):∃a cap,v=.slice a n cap∧n≤cap:=by
 obtain⟨⟨_,a,cap,rfl,_⟩,_,h3⟩:=h;exact⟨a,cap,rfl,h3 a n cap rfl⟩
theorem vwithout_ret (o:Ob)(v:Value)(i:Nat)(M:Mem)(w:World)(hw:o.wt≤10000000000)(hM:M.has w)(hv:OV M.A M.w v o)(hi:i < o.keys.length)(hlen:o.keys.length=o.kids.length) :
  RetM prog 155 #[v,.int .i64 (i:Int)] M w (fun r N=>OV N.A N.w r (.mk o.k o.n o.g o.s (o.keys.take i++o.keys.drop (i+1)) (o.kids.take i++o.kids.drop (i+1)))):=by
 obtain⟨vk,vc,cs,rfl,ha⟩:=hv.open;have hww:Ob.wts o.kids≤10000000000:=by cases o;rw[Ob.wt] at hw;simp only[Ob.kids];omega
 have hkt:Pl.tot o.keys≤10000000000:=by cases o;rw[Ob.wt] at hw;simp only[Ob.keys];omega
 have hkl:=Pl.length_tot o.keys;have hlk:=Ob.len_wts o.kids;refine retM_of hM fun K hK=>S_value_without_ok ?_;unfold S_value_without iN dx cx;refine o_obb o ha.keys.one ha.kids.one (OwnS.memS hM) fun b2 w1 ho=>?_;refine o_oba ho fun b4 w2 ho=>?_;rw[fa_o4,ob_keys ho 1 rfl];refine c_ret (sclone_s_ret vk _ _ w2 (ha.keys.now (ho.hasM 2 rfl)) strsV_one5 (by omega)) fun vk1 w3 hnew=>?_;have ho:=ho.join hnew;have ho:OwnS M.A w w3 [.urow 9 1 vk1 o.keys.length (strsV o.keys),obE b4 ob0 nilS nilS,obE b2 o vk vc,.mem M]:=ho;simp only[rs];rw[wrap64_id (by omega) (by omega),show (i:Int)+1=((i+1:Nat):Int) by omega];refine c_turn 0 ho rfl (sdelete_s_ret vk1 o.keys.length (strsV o.keys) i w3 (ho.at_ 0 rfl) strsV_one5 hi (by omega)) ?_;rintro kv e' w4 rfl ho;have ho:OwnS M.A w w4 [.urow 9 1 kv (o.keys.length - 1) ((strsV o.keys).take (i*1)++(strsV o.keys).drop ((i+1)*1)),obE b4 ob0 nilS nilS,obE b2 o vk vc,.mem M]:=ho;rw[strsV_take,strsV_drop] at ho;rw[fa_o4];have hk1:=urow_one (ho.at_ 0 rfl);refine o_store 2 ho rfl (by kernel_rfl) hk1 (show 0+4 < 6 by omega) fun w5 ho=>?_;have ho:OwnS M.A w w5 [.urow 9 1 kv (o.keys.length - 1) (strsV (o.keys.take i)++strsV (o.keys.drop (i+1))),obE b4 ob0 nilS nilS,obE b2 o kv vc,.mem M]:=ho;rw[fa_o5,ob_kids ho 2 rfl];refine c_ret (sclone_o_ret vc _ _ w5 (ha.kids.now (ho.hasM 3 rfl)) (ovs_one ha.all) (by omega)) fun vc1 w6 hnew=>?_;have ho:=ho.join hnew;have ho:OwnS M.A w w6 [.urow 25 6 vc1 o.kids.length cs,.urow 9 1 kv (o.keys.length - 1) (strsV (o.keys.take i)++strsV (o.keys.drop (i+1))),obE b4 ob0 nilS nilS,obE b2 o kv vc,.mem M]:=ho;refine c_turn 0 ho rfl (sdelete_o_ret vc1 o.kids.length cs i w6 (ho.at_ 0 rfl) (ovs_one ha.all) (by omega) (by omega)) ?_;rintro cv e' w7 rfl ho;have ho:OwnS M.A w w7 [.urow 25 6 cv (o.kids.length - 1) (cs.take (i*6)++cs.drop ((i+1)*6)),.urow 9 1 kv (o.keys.length - 1) (strsV (o.keys.take i)++strsV (o.keys.drop (i+1))),obE b4 ob0 nilS nilS,obE b2 o kv vc,.mem M]:=ho;have hc1:=urow_one (ho.at_ 0 rfl);rw[fa_o5];refine o_store 3 ho rfl (by kernel_rfl) hc1 (show 0+5 < 6 by omega) fun w8 ho=>?_;have ho:OwnS M.A w w8 [.urow 25 6 cv (o.kids.length - 1) (cs.take (i*6)++cs.drop ((i+1)*6)),.urow 9 1 kv (o.keys.length - 1) (strsV (o.keys.take i)++strsV (o.keys.drop (i+1))),obE b4 ob0 nilS nilS,obE b2 o kv cv,.mem M]:=ho;obtain⟨N,hle,hrow,ho⟩:=OwnS.freezeU (L:=[.urow 9 1 kv (o.keys.length - 1) (strsV (o.keys.take i)++strsV (o.keys.drop (i+1))),obE b4 ob0 nilS nilS,obE b2 o kv cv,.mem M]) ho 3 rfl;obtain⟨N2,hle2,hrow2,ho⟩:=OwnS.freezeU (L:=[obE b4 ob0 nilS nilS,obE b2 o kv cv,.mem N]) ho 2 rfl;have ho:OwnS M.A w w8 [obE b4 ob0 nilS nilS,obE b2 o kv cv,.mem N2]:=ho;rw[ob_v ho 1 rfl];refine ob_put 0 hk1 hc1 ho rfl fun w9 ho=>?_;refine ret_v1 (rv_cell (ho.agg 0 rfl aggOb)) (hK _ _ N2 _ 2 ho rfl (hle.trans hle2) ?_);have el1:(o.keys.take i++o.keys.drop (i+1)).length=o.keys.length - 1:=by simp;omega
 have el2:(o.kids.take i++o.kids.drop (i+1)).length=o.kids.length - 1:=by simp;omega
 refine ObAt.ov (o:=.mk o.k o.n o.g o.s (o.keys.take i++o.keys.drop (i+1)) (o.kids.take i++o.kids.drop (i+1))) (vk:=kv) (vc:=cv) (cs:=cs.take (i*6)++cs.drop ((i+1)*6)) ⟨?_,?_,?_⟩
 ·show SlA N2.A N2.w kv 1 (o.keys.take i++o.keys.drop (i+1)).length (strsV (o.keys.take i++o.keys.drop (i+1)));rw[el1,strsV_app];exact hrow2
 ·show SlA N2.A N2.w cv 6 (o.kids.take i++o.kids.drop (i+1)).length _;rw[el2];exact hrow.le hle2
 ·exact (ovs_app (ovs_take i ha.all) (ovs_drop (i+1) ha.all)).le (hle.trans hle2)
def Vl.drop (o:Ob)(key:List UInt8):Ob:=if Vl.keyed o=true∧Vl.check 1 o=0 then Vl.without o key else o
theorem vdrop_ret (o:Ob)(v:Value)(key:List UInt8)(M:Mem)(w:World)(hw:o.wt≤10000000000)(hM:M.has w)(hv:OV M.A M.w v o) :
  RetM prog 88 #[v,.string ⟨key.toArray⟩] M w (fun r N=>OV N.A N.w r (Vl.drop o key)):=by
 obtain⟨vk,vc,cs,rfl,ha⟩:=hv.open;have hkt:Pl.tot o.keys≤10000000000:=by cases o;rw[Ob.wt] at hw;simp only[Ob.keys];omega
 have hkl:=Pl.length_tot o.keys;refine retM_of hM fun K hK=>S_value_Drop_ok ?_;unfold S_value_Drop iN dx gtx ctx cx;refine o_obb o ha.keys.one ha.kids.one (OwnS.memS hM) fun b2 w1 ho=>?_;refine o_oba ho fun b4 w2 ho=>?_;refine join fun J hJ=>?_;have fin:∀(W:World) (N:Mem) (p:Ob) (kv cv:Value),OwnS M.A w W [obE b4 ob0 nilS nilS,obE b2 p kv cv,.mem N]→M.le N→OV N.A N.w (obV p kv cv) p→p=Vl.drop o key→p.wt≤10000000000→J [] W:=by
  intro W N p kv cv ho hle hp he hpw;refine hJ _ _ fun _=>?_;unfold S_value_Drop_0 dx cx;rw[ob_v ho 1 rfl];refine c_mem ho 2 rfl (clone_ret p _ N W (by omega) (ho.hasM 2 rfl) hp) fun y N2 w4 hle2 hy ho=>?_;obtain⟨yk,yc,ycs,rfl,hya⟩:=hy.open;refine ob_put 0 hya.keys.one hya.kids.one ho rfl fun w5 ho=>?_;exact ret_v1 (rv_cell (ho.agg 0 rfl aggOb)) (hK _ _ N2 _ 2 ho rfl (hle.trans hle2) (he▸hy))
 rw[ob_v ho 1 rfl];refine c_below ho (R:=fun v=>v=.bool (Vl.keyed o)) (keyed_ret o ha.keys.one ha.kids.one w2) ?_;rintro _ w3 rfl ho;cases hkd:Vl.keyed o with
|false=>
  simp only[rs,g_un];exact fin w3 M o vk vc ho M.le_refl hv (by unfold Vl.drop;rw[if_neg (by simp[hkd])]) hw
|true=>
  simp only[rs];rw[ob_v ho 1 rfl];refine c_below ho (R:=fun v=>v=.int .i64 (Vl.check 1 o)) (vCheck_ret o _ w3 (OV.inw (ho.hasM 2 rfl) hv) (by omega)) ?_;rintro _ w4 rfl ho;simp only[rs];by_cases hc:Vl.check 1 o=0
  ·simp only[hc,decide_true,rs];obtain⟨hr,hlen⟩:=Vl.valid_keys hc hkd;rw[fa_o4,ob_keys ho 1 rfl];refine c_eq (bsearch_ret vk o.keys key w4 (ha.keys.now (ho.hasM 2 rfl)) hr (by omega)) ?_;simp only[ex];have hdr:=Vl.dropK_rise hc hkd key;have hdd:Vl.drop o key=Vl.without o key:=by unfold Vl.drop;rw[if_pos ⟨hkd,hc⟩]
   cases hh:Vl.hit o.keys key with
  |true=>
    simp only[i_t];rw[hh,if_pos rfl] at hdr;have hi:o.keys[Vl.place o.keys key]?=some key:=of_decide_eq_true hh;have hlt:Vl.place o.keys key < o.keys.length:=(List.getElem?_eq_some_iff.1 hi).1;rw[ob_v ho 1 rfl];refine c_mem ho 2 rfl (vwithout_ret o _ _ M w4 hw (ho.hasM 2 rfl) hv hlt hlen) fun y N w5 hle hy ho=>?_;rw[←hdr] at hy;obtain⟨yk,yc,ycs,rfl,hya⟩:=hy.open;refine ob_put 1 hya.keys.one hya.kids.one ho rfl fun w6 ho=>?_;exact fin w6 N _ yk yc ho hle hy hdd.symm (Nat.le_trans (Vl.without_wt o key) hw)
  |false=>
    simp only[i_f];rw[hh] at hdr;exact fin w4 M o vk vc ho M.le_refl hv (by rw[hdd,hdr];rfl) hw
  ·simp only[hc,decide_false,rs];exact fin w4 M o vk vc ho M.le_refl hv (by unfold Vl.drop;rw[if_neg (by simp[hc])]) hw
theorem vset_ret (o x:Ob)(v u:Value)(key:List UInt8)(M:Mem)(w:World)(hw:o.wt≤10000000000)(hwx:x.wt≤10000000000)(hwk:key.length≤10000000000)(hM:M.has w)(hv:OV M.A M.w v o)(hu:OV M.A M.w u x) :
  RetM prog 70 #[v,.string ⟨key.toArray⟩,u] M w (fun r N=>∃v',r=errV v' (Vl.set o key x).2∧OV N.A N.w v' (Vl.set o key x).1):=by
 obtain⟨vk,vc,cs,rfl,ha⟩:=hv.open;obtain⟨xk,xc,xcs,rfl,hx⟩:=hu.open;refine retM_of hM fun K hK=>S_value_Set_ok ?_;unfold S_value_Set iN dx cx;refine o_obb o ha.keys.one ha.kids.one (OwnS.memS hM) fun b3 w1 ho=>?_;refine o_obb x hx.keys.one hx.kids.one ho fun b5 w2 ho=>?_;refine o_oba ho fun b6 w3 ho=>?_;rw[ob_v ho 2 rfl];refine c_below ho (R:=fun v=>v=.bool (Vl.keyed o)) (keyed_ret o ha.keys.one ha.kids.one w3) ?_;rintro _ w4 rfl ho;cases hkd:Vl.keyed o with
|false=>
  simp only[rs,Bool.not_false];rw[m_ob0];refine ob_put 0 rfl rfl ho rfl fun w5 ho=>?_;refine ret_ob2 0 ho rfl (hK _ _ M _ 3 ho rfl M.le_refl ⟨obV Vl.ob0 nilS nilS,?_,?_⟩)
  ·simp[Vl.set,hkd,errV]
  ·simpa[Vl.set,hkd] using ob0_ov M
|true=>
  simp only[rs,Bool.not_true];rw[ob_v ho 2 rfl];refine c_below ho (R:=fun v=>v=.int .i64 (Vl.check 1 o)) (vCheck_ret o _ w4 (OV.inw (ho.hasM 3 rfl) hv) (by omega)) ?_;rintro _ w5 rfl ho;simp only[n_err];by_cases hc:Vl.check 1 o=0
  ·simp only[hc,ne_eq,not_true,decide_false,i_f];rw[fa_o0,ob_k ho 1 rfl];simp only[rs];by_cases h0:x.k=0
   ·simp only[h0,decide_true,i_t];rw[ob_v ho 2 rfl];refine c_mem ho 3 rfl (vdrop_ret o _ key M w5 hw (ho.hasM 3 rfl) hv) fun y N w6 hle hy ho=>?_;obtain⟨yk,yc,ycs,rfl,hya⟩:=hy.open;refine ob_put 0 hya.keys.one hya.kids.one ho rfl fun w7 ho=>?_;have e:Vl.set o key x=(Vl.drop o key,0):=by simp[Vl.set,hkd,hc,h0,Vl.drop]
    refine ret_ob2 0 ho rfl (hK _ _ N _ 3 ho rfl hle ⟨obV (Vl.drop o key) yk yc,?_,?_⟩)
    ·rw[e];rfl
    ·rw[e];exact hy
   ·simp only[h0,decide_false,i_f];rw[ob_v ho 2 rfl,ob_v ho 1 rfl];obtain⟨hr,hlen⟩:=Vl.valid_keys hc hkd;have hpw:=Vl.put_wt o key x;refine c_mem ho 3 rfl (with_ret o x _ _ key M w5 hw (ho.hasM 3 rfl) hv hu hr hlen) fun y N w6 hle hy ho=>?_;refine c_mem ho 3 rfl (clone_ret _ _ N w6 (by omega) (ho.hasM 3 rfl) hy) fun z N2 w7 hle2 hz ho=>?_;refine c_mem ho 3 rfl (sound_ret _ _ N2 w7 (by omega) (ho.hasM 3 rfl) hz) ?_;rintro _ N3 w8 hle3 ⟨t,rfl,ht⟩ ho;obtain⟨tk,tc,tcs,rfl,hta⟩:=ht.open;simp only[errV,ex];refine ob_put 0 hta.keys.one hta.kids.one ho rfl fun w9 ho=>?_;have e:Vl.set o key x=Vl.right (Vl.put o key x):=by simp[Vl.set,hkd,hc,h0]
    refine ret_ob2 0 ho rfl (hK _ _ N3 _ 3 ho rfl (hle.trans (hle2.trans hle3)) ⟨obV (Vl.right (Vl.put o key x)).1 tk tc,?_,?_⟩)
    ·rw[e];rfl
    ·rw[e];exact ht
  ·simp only[hc,ne_eq,not_false_eq_true,decide_true,i_t];rw[m_ob0];refine ob_put 0 rfl rfl ho rfl fun w6 ho=>?_;refine ret_ob2 0 ho rfl (hK _ _ M _ 3 ho rfl M.le_refl ⟨obV Vl.ob0 nilS nilS,?_,?_⟩)
   ·simp[Vl.set,hkd,hc,errV]
   ·simpa[Vl.set,hkd,hc] using ob0_ov M
end
end Go.Proofs.YtlipjfcbjemicaaGreatDoor


namespace Go.Proofs.YtlipjfcbjemicaaGreatDoor
section
open Eng Go.RowKit
theorem varr_ret (os:List Ob)(v:Value)(cs:List Value)(M:Mem)(w:World)(hw:Ob.wts os≤10000000000)(hM:M.has w)(hs:SlA M.A M.w v 6 os.length cs)(hall:OVs M.A M.w cs os) :
  RetM prog 141 #[v] M w (fun r N=>OV N.A N.w r (.mk 6 0 0 [] [] os)):=by
 obtain⟨a,cap,rfl,_⟩:=hs.form;refine retM_of hM fun K hK=>S_value_Array_ok ?_;unfold S_value_Array iN dx cx;refine o_oba (OwnS.memS hM) fun b w1 ho=>?_;have hb:∀{PK:PKT} {K:VWP},DoX prog (mBuild 25 #[(0,(.int .i64 6)),(5,.slice a os.length cap)]) w1 PK K=K (obV (.mk 6 0 0 [] [] os) nilS (.slice a os.length cap)) w1:=do_eq (by kernel_rfl);rw[hb];refine c_mem ho 1 rfl (clone_ret (.mk 6 0 0 [] [] os) _ M w1 (by rw[Ob.wt];simp[Pl.tot];omega) (ho.hasM 1 rfl) (ObAt.ov (o:=.mk 6 0 0 [] [] os) (vk:=nilS) (cs:=cs) ⟨SlA.nil _ _ _ _,hs,hall⟩)) fun y N w2 hle hy ho=>?_;obtain⟨yk,yc,ycs,rfl,hya⟩:=hy.open;refine ob_put 0 hya.keys.one hya.kids.one ho rfl fun w3 ho=>?_;exact ret_v1 (rv_cell (ho.agg 0 rfl aggOb)) (hK _ _ N _ 1 ho rfl hle hy)
end
end Go.Proofs.YtlipjfcbjemicaaGreatDoor


namespace Go.Proofs.YtlipjfcbjemicaaGreatDoor
section
open Eng Go.RowKit
theorem obV_inj {o p:Ob}{vk vc xk xc:Value}(h:obV o vk vc=obV p xk xc):vk=xk∧vc=xc:=by
 have:(obC o vk vc).toArray=(obC p xk xc).toArray:=by injection h
 have:obC o vk vc=obC p xk xc:=by simpa using congrArg Array.toList this
 simp only[obC,List.cons.injEq,and_true] at this;exact⟨this.2.2.2.2.1,this.2.2.2.2.2⟩
theorem OV.slices {A:Nat→Prop}{w:World}{o:Ob}{vk vc:Value}(h:OV A w (obV o vk vc) o):∃cs,ObAt A w o vk vc cs:=by
 obtain⟨xk,xc,cs,e,ha⟩:=h.open;obtain⟨rfl,rfl⟩:=obV_inj e;exact⟨cs,ha⟩
theorem OV.oneK {A:Nat→Prop}{w:World}{o:Ob}{vk vc:Value}(h:OV A w (obV o vk vc) o):vk.oneCell'=true:=by obtain⟨cs,ha⟩:=h.slices;exact ha.keys.one
theorem OV.oneC {A:Nat→Prop}{w:World}{o:Ob}{vk vc:Value}(h:OV A w (obV o vk vc) o):vc.oneCell'=true:=by obtain⟨cs,ha⟩:=h.slices;exact ha.kids.one
section
variable {w:World}{PK:PKT}{K:VWP}{S:Nat→Prop}{w0:World}{L:List Ent}
end
end
end Go.Proofs.YtlipjfcbjemicaaGreatDoor


namespace Go.Proofs.YtlipjfcbjemicaaGreatDoor
section
open Eng Go.RowKit
theorem RetM.told {f:Nat}{args:Array Value}{M:Mem}{w:World}{x:Value}(h:RetM prog f args M w (fun v _=>v=x)):Ret prog f args w (fun v w'=>v=x∧Below w.heap.size w w'):=
 Ret.mono h fun v w' ⟨N,g,r⟩=>⟨r,g.below⟩
theorem getD_ov {M:Mem}{v:Value}{x:Option Ob}(h:OV M.A M.w v (x.getD Vl.ob0)):∃vk vc,v=obV (x.getD Vl.ob0) vk vc∧OV M.A M.w (obV (x.getD Vl.ob0) vk vc) (x.getD Vl.ob0):=by
 obtain⟨vk,vc,cs,rfl,ha⟩:=h.open;exact⟨vk,vc,rfl,h⟩
end
end Go.Proofs.YtlipjfcbjemicaaGreatDoor




namespace Go.Proofs.YtlipjfcbjemicaaGreatDoor
section
open Eng Go.RowKit
theorem Vl.got_wt {o v:Ob}{k:List UInt8}(h:Vl.get o k=some v):v.wt≤o.wt:=by
 unfold Vl.get at h;split at h
 ·split at h
  ·rename_i h1 h2
   obtain⟨hl,rfl⟩:=List.getElem?_eq_some_iff.1 h;have:=kid_wt hl;omega
  ·cases h
 ·cases h
section
variable {w:World}{S:Nat→Prop}{w0:World}{L:List Ent}
end
end
end Go.Proofs.YtlipjfcbjemicaaGreatDoor


namespace Go.Proofs.YtlipjfcbjemicaaGreatDoor
section
open Eng Go.RowKit
namespace Eng
def Ent.two (e f:Ent):Ent:=⟨fun k=>e.blk k∨f.blk k,fun w=>e.is w∧f.is w∧∀k,e.blk k→¬f.blk k,
 fun h k=>⟨e.keep h.1 fun b hb=>k b (.inl hb),f.keep h.2.1 fun b hb=>k b (.inr hb),h.2.2⟩,fun h k hk=>hk.elim (e.lt h.1 k) (f.lt h.2.1 k)⟩
section
variable {S:Nat→Prop}{w w0:World}{L:List Ent}
theorem OwnS.split {e f:Ent}(ho:OwnS S w0 w (.two e f::L)):OwnS S w0 w (e::f::L):=by
 obtain⟨⟨he,hf,hd⟩,hb⟩:=ho.all (.two e f) (by simp);obtain⟨a1,a2⟩:=List.pairwise_cons.1 ho.apart;refine⟨ho.grew,fun x hx=>?_,List.pairwise_cons.2 ⟨fun x hx k hk=>?_,List.pairwise_cons.2 ⟨fun x hx k hk=>a1 x hx k (.inr hk),a2⟩⟩⟩
 ·rcases List.mem_cons.1 hx with rfl|hx
  ·exact⟨he,fun k hk=>hb k (.inl hk)⟩
  rcases List.mem_cons.1 hx with rfl|hx
  ·exact⟨hf,fun k hk=>hb k (.inr hk)⟩
  ·exact ho.all x (List.mem_cons_of_mem _ hx)
 ·rcases List.mem_cons.1 hx with rfl|hx
  ·exact hd k hk
  ·exact a1 x hx k (.inl hk)
end
end Eng
section
variable {P:Program}{S:World→Prop}{K:Value→Prop}
theorem hd_do {m:Sem Next}(v:Value)(h:∀w,S w→m.run P w=.ok (.value v) w)(k:K v):HDo P S m K:=⟨v,h,k⟩
theorem hd_pure {m:Sem Next}(v:Value)(h:∀w,m.run P w=.ok (.value v) w)(k:K v):HDo P S m K:=⟨v,fun w _=>h w,k⟩
end
section
variable {w:World}{PK:PKT}{K:VWP}{S:Nat→Prop}{w0:World}{L:List Ent}
theorem sl_one1 {b:Nat}{cs:List Value}{T:TypeId}{sz:Nat}(h:w.heap[b]?=some (.cells cs.toArray T (0,0)))(hsz:0 < sz)(hl:cs.length=sz):Sl w (.slice (some ⟨b,0,none⟩) 1 1) sz 1 cs:=
 ⟨by omega,some ⟨b,0,none⟩,1,rfl,fun h=>(by cases h),fun p hp=>by cases hp;exact⟨fun _=>rfl,fun j u hj=>by rw[Nat.zero_add];exact cells_cell (T:=T) h hj⟩⟩
end
end
end Go.Proofs.YtlipjfcbjemicaaGreatDoor




namespace Go.Proofs.YtlipjfcbjemicaaGreatDoor
section
open Eng Go.RowKit Go.ChangeShapes Go.WideShapes Go.ChangeAt
set_option maxRecDepth 100000
section
variable {H:Type}{enc:TypeId×Value→H}{W:World}{sp:Nat→Bool}{held:Bool}
theorem row_obj {b0:Nat}{v:Value}{d:DataW H}{ps:List MemPlace}(hval:Value.okWide prog W .any b0 25 v)(hd:DataW.Trod enc prog W 0 sp held 25 v d ps):∃o:Ob,OV (InW W) W v o∧o.wt≤Rows.uptoBulk d:=by
 obtain⟨cs,rfl,_⟩:=okWide_struct Tryz.underlying25 hval;obtain⟨fuel,hf⟩:=hd;obtain⟨o,h1,h2,_⟩:=open_obj fuel _ _ hf;exact⟨o,by simpa[Value.cells] using h1,h2⟩
end
end
section
open Eng
def S_foliantref05_Texts_0(t0 t1 t12 t13 w)(N1:JT)(K:KT):=
 dx (mBin .lss 3 t13 t12) w K fun t14 w=>IfX t14 (QuietX w (fun C2=>QDo prog C2 (mIA 22 t0 t13) fun t18=>QDo prog C2 (mLoad 9 t18) fun t19=>QDo prog C2 (mIA 22 t1 t13) fun t22=>QDo prog C2 (mLoad 9 t22) fun t23=>QDo prog C2 (mEq .neq 9 (.tmp 19) (.tmp 23) t19 t23) fun t24=>
 ∀w,C2 w →
 IfX t24 (K (.returned (.bool false)) w) (dx (mBin .add 3 t13 (iN 1)) w K fun t25 w=>N1 [t25] w))) (K (.returned (.bool true)) w)
def S_foliantref05_Texts(t0 t1 w)(K:KT):=
 dx (mB .len #[22] 3 #[false] #[t0]) w K fun t7 w=>dx (mB .len #[22] 3 #[false] #[t1]) w K fun t9 w=>dx (mEq .neq 3 (.tmp 7) (.tmp 9) t7 t9) w K fun t10 w=>IfX t10 (K (.returned (.bool false)) w) (dx (mB .len #[22] 3 #[false] #[t0]) w K fun t12 w=>LoopX [(iN 0)] w (fun vs1 w N1=>∀_:Sg,S_foliantref05_Texts_0 t0 t1 t12 (vs1.getD 0 undef) w N1 K))
theorem S_foliantref05_Texts_eq (t0 t1:Value)(w:World)(K:Ending→World→Prop):wpX prog 26 [] [(4,[13])] none (bodyOf Tryz.f45) (topQ prog [.tmp 4] K) (startX [t0,t1]) [] w=S_foliantref05_Texts t0 t1 w K:=by kernel_rfl
theorem S_foliantref05_Texts_ok {t0 t1:Value}{w:World}{K:Ending→World→Prop}(h:S_foliantref05_Texts t0 t1 w K):Calls prog 45 #[t0,t1] w K:=
 calls_of_wpX Tryz.func45 rfl rfl rfl rfl (Eq.mpr (S_foliantref05_Texts_eq t0 t1 w K) h)
end
section
open Eng Go.RowKit
theorem nStrT:notAgg prog 9=true:=by kernel_rfl
theorem rtexts_ret (va vb:Value)(la lb:List (List UInt8))(w:World)(ha:Sl w va 1 la.length (strsV la))(hb:Sl w vb 1 lb.length (strsV lb))(hl:la.length≤1099511627776) :
  Ret prog 45 #[va,vb] w (fun r w'=>r=.bool (decide (la=lb))∧Below w.heap.size w w'):=by
 refine ret_of fun K hK=>S_foliantref05_Texts_ok ?_;unfold S_foliantref05_Texts iN dx;rw[sl_len Tryz.underlying22 ha,sl_len Tryz.underlying22 hb];simp only[rs];by_cases hlen:(la.length:Int)≠(lb.length:Int)
 ·simp only[decide_eq_true hlen,i_t];have hne:la≠lb:=fun e=>hlen (by rw[e]);exact hK _ _ ⟨by rw[decide_eq_false hne],(Own.start w).done⟩
 have hle:la.length=lb.length:=by omega
 simp only[decide_eq_false hlen,i_f,sl_len Tryz.underlying22 ha];refine loop (fun vs w'=>∃(i:Nat),vs=[.int .i64 i]∧i≤la.length∧la.take i=lb.take i∧Own w w' []) (fun vs _=>la.length - n0 vs) ⟨0,rfl,by omega,by simp,Own.start w⟩ ?_;rintro vs w2 ⟨i,rfl,hi,he,ho⟩ _;simp only[S_foliantref05_Texts_0,gd,rs,iN,dx];by_cases hlt:(i:Int) < (la.length:Int)
 ·have h1:i < la.length:=by omega
  have h2:i < lb.length:=by omega
  simp only[hlt,decide_true,rs];obtain⟨ba,oa,ca,rfl,hca⟩:=sl_open ha (by omega);obtain⟨bb,ob,cb,rfl,hcb⟩:=sl_open hb (by omega);refine quiet (q_do _ (fun _=>run_ia Tryz.underlying22 (show _=some 1 by kernel_rfl) (by omega) (by omega)) ?_);refine q_at (.string ⟨(la[i]).toArray⟩) (fun wc hw=>run_load_cell nStrT ((ho.grow hw).old ?_)) ?_
  ·rw[Int.toNat_natCast,Nat.mul_one];exact hca i _ (strsV_get h1)
  refine q_do _ (fun _=>run_ia Tryz.underlying22 (show _=some 1 by kernel_rfl) (by omega) (by omega)) ?_;refine q_at (.string ⟨(lb[i]).toArray⟩) (fun wc hw=>run_load_cell nStrT ((ho.grow hw).old ?_)) ?_
  ·rw[Int.toNat_natCast,Nat.mul_one];exact hcb i _ (strsV_get h2)
  refine q_sne ?_;intro w3 hw;have ho:=ho.grow hw;by_cases hq:la[i]=lb[i]
  ·simp only[hq,ne_eq,not_true,decide_false,i_f,rs];rw[wrap64_id (by omega) (by omega)];refine nextX ⟨i+1,rfl,by omega,?_,ho⟩ (by simp[n0,RowKit.intOf];omega);rw[List.take_succ_eq_append_getElem h1,List.take_succ_eq_append_getElem h2,he,hq]
  ·simp only[hq,ne_eq,not_false_eq_true,decide_true,i_t];have hne:la≠lb:=fun e=>hq (by subst e;rfl);exact hK _ _ ⟨by rw[decide_eq_false hne],ho.done⟩
 ·simp only[hlt,decide_false,rs,g_un];have hab:la=lb:=by
   rw[List.take_of_length_le (by omega),List.take_of_length_le (by omega)] at he;exact he
  exact hK _ _ ⟨by rw[decide_eq_true hab],ho.done⟩
end
end Go.Proofs.YtlipjfcbjemicaaGreatDoor







namespace Go.Proofs.YtlipjfcbjemicaaGreatDoor
section
open Go
structure Lx where
 off:Int
 sty:List UInt8
 pre:List UInt8
 first:Int
 deriving DecidableEq
namespace Lb
end Lb
end
end Go.Proofs.YtlipjfcbjemicaaGreatDoor



namespace Go.Proofs.YtlipjfcbjemicaaGreatDoor
section
open Eng Go.RowKit
theorem ret_calls {f:Nat}{args:Array Value}{w:World}{v:Value}(h:Calls prog f args w fun e w'=>e=.returned v∧Below w.heap.size w w'):Ret prog f args w (fun v' w'=>v'=v∧Below w.heap.size w w'):=
 Calls.mono h fun e w' ⟨he,hb⟩=>⟨v,he,rfl,hb⟩
theorem repeat_ret (s:List UInt8)(c:Nat)(w:World)(hl:s.length*c≤100000000)(hc:c≤100000000):Ret prog 189 #[.string ⟨s.toArray⟩,.int .i64 c] w (fun v w'=>v=.string ⟨(Lib.repeatL s c).toArray⟩∧Below w.heap.size w w'):=by
 have:=Tryz.strings_Repeat ⟨s.toArray⟩ c w (by omega) (by show s.toArray.size*c≤_;simp;omega);exact ret_calls (by simpa using this)
theorem repeatL_snoc (s:List UInt8):∀c,Lib.repeatL s (c+1)=Lib.repeatL s c++s
|0=>by simp[Lib.repeatL]
|c+1=>by
  have h1:Lib.repeatL s (c+1+1)=s++Lib.repeatL s (c+1):=rfl;have h2:Lib.repeatL s (c+1)=s++Lib.repeatL s c:=rfl;rw[h1,repeatL_snoc s c,←List.append_assoc,←h2,repeatL_snoc s c]
end
end Go.Proofs.YtlipjfcbjemicaaGreatDoor








namespace Go.Proofs.YtlipjfcbjemicaaGreatDoor
section
open Go
namespace Vl
theorem dropK_out (key:List UInt8):∀(ks:List (List UInt8)) (cs:List Ob),key ∉ (dropK key ks cs).1
|[],_=>by simp[dropK]
|_::_,[]=>by simp[dropK]
|a::ks,c::cs=>by
  rw[dropK];split
  ·exact dropK_out key ks cs
  ·rename_i h
   simp only[List.mem_cons,not_or];exact⟨fun e=>h e.symm,dropK_out key ks cs⟩
theorem dropK_lens (key:List UInt8):∀(ks:List (List UInt8)) (cs:List Ob),(dropK key ks cs).1.length=(dropK key ks cs).2.length
|[],_=>by simp[dropK]
|_::_,[]=>by simp[dropK]
|a::ks,c::cs=>by
  rw[dropK];split
  ·exact dropK_lens key ks cs
  ·simp[dropK_lens key ks cs]
theorem dropK_sub1 (key:List UInt8):∀(ks:List (List UInt8)) (cs:List Ob),(dropK key ks cs).1.Sublist ks
|[],_=>by simp[dropK]
|_::_,[]=>by simp[dropK]
|a::ks,c::cs=>by
  rw[dropK];split
  ·exact (dropK_sub1 key ks cs).trans (List.sublist_cons_self _ _)
  ·exact (dropK_sub1 key ks cs).cons_cons _
theorem dropK_sub2 (key:List UInt8):∀(ks:List (List UInt8)) (cs:List Ob),(dropK key ks cs).2.Sublist cs
|[],_=>by simp[dropK]
|_::_,[]=>by simp[dropK]
|a::ks,c::cs=>by
  rw[dropK];split
  ·exact (dropK_sub2 key ks cs).trans (List.sublist_cons_self _ _)
  ·exact (dropK_sub2 key ks cs).cons_cons _
theorem get_without (o:Ob)(key:List UInt8):get (without o key) key=none:=by
 unfold get;split
 ·rw[if_neg];rw[List.idxOf_lt_length_iff];exact dropK_out key o.keys o.kids
 ·rfl
theorem checks_iff {d:Nat}:∀{os:List Ob},checks d os=0↔∀o∈os,check d o=0
|[]=>by simp[checks]
|o::os=>by
  rw[checks];split
  ·rename_i h
   constructor
   ·intro e;exact absurd e h
   ·intro e;exact absurd (e o List.mem_cons_self) h
  ·rename_i h
   have h:=Classical.not_not.1 h;rw[checks_iff];simp[h]
theorem gd_at (l:List (List UInt8)){i:Nat}(h:i < l.length):l.getD i []=l[i]:=by rw[List.getD_eq_getElem?_getD,List.getElem?_eq_getElem h];rfl
theorem rising_iff {o:Ob}:rising o=true↔o.keys.length=o.kids.length∧Rise o.keys∧(∀k∈o.keys,name k=true∧(o.k=9→k≠lenK))∧∀c∈o.kids,c.k≠0:=by
 unfold rising;simp only[Bool.and_eq_true,decide_eq_true_eq,List.all_eq_true,List.mem_range];constructor
 ·rintro⟨hl,h⟩;have hat:∀i (hi:i < o.keys.length),name o.keys[i]=true∧(i=0∨less (o.keys.getD (i - 1) []) o.keys[i]=true)∧(o.k=9→o.keys[i]≠lenK)∧(o.kids[i]'(by omega)).k≠0:=by
   intro i hi;have:=h i hi;unfold keyAt at this;rw[gd_at _ hi,List.getD_eq_getElem?_getD (l:=o.kids),List.getElem?_eq_getElem (by omega:i < o.kids.length)] at this;simp only[Bool.and_eq_true,Bool.or_eq_true,decide_eq_true_eq,Option.getD_some,Bool.not_eq_true',Bool.and_eq_false_iff,decide_eq_false_iff_not] at this;obtain⟨⟨⟨a,b⟩,c⟩,e⟩:=this;exact⟨a,b,fun h9 hk=>c.elim (fun x=>x h9) (fun x=>x hk),e⟩
  refine⟨hl,?_,?_,?_⟩
  ·refine List.pairwise_iff_getElem.2 fun i j hi hj hij=>?_;have step:∀i (hi:i+1 < o.keys.length),less o.keys[i] o.keys[i+1]=true:=by
    intro i hi;have:=(hat (i+1) hi).2.1;rcases this with h0|h0
    ·omega
    ·rwa [Nat.add_sub_cancel,gd_at _ (by omega:i < o.keys.length)] at h0
   have:∀d,∀j (hj:j < o.keys.length),j=i+1+d→less o.keys[i] o.keys[j]=true:=by
    intro d
    induction d with
   |zero=>intro j hj he;subst he;exact step i hj
   |succ d ih=>
     intro j hj he;subst he;exact less_trans (ih (i+1+d) (by omega) rfl) (step (i+1+d) hj)
   exact this (j - (i+1)) j hj (by omega)
  ·intro k hk;obtain⟨i,hi,rfl⟩:=List.getElem_of_mem hk;exact⟨(hat i hi).1,(hat i hi).2.2.1⟩
  ·intro c hc;obtain⟨i,hi,rfl⟩:=List.getElem_of_mem hc;exact (hat i (by omega)).2.2.2
 ·rintro⟨hl,hr,hk,hc⟩;refine⟨hl,fun i hi=>?_⟩;unfold keyAt;rw[gd_at _ hi,List.getD_eq_getElem?_getD (l:=o.kids),List.getElem?_eq_getElem (by omega:i < o.kids.length)];simp only[Bool.and_eq_true,Bool.or_eq_true,decide_eq_true_eq,Option.getD_some,Bool.not_eq_true',Bool.and_eq_false_iff,decide_eq_false_iff_not];refine⟨⟨⟨(hk _ (List.getElem_mem hi)).1,?_⟩,?_⟩,hc _ (List.getElem_mem _)⟩
  ·rcases Nat.eq_zero_or_pos i with h0|h0
   ·exact .inl h0
   ·refine .inr ?_;rw[gd_at _ (by omega:i - 1 < o.keys.length)];exact rise_get hr (by omega) hi
  ·by_cases h9:o.k=9
   ·exact .inr ((hk _ (List.getElem_mem hi)).2 h9)
   ·exact .inl h9
theorem check_iff {d:Nat}{o:Ob}:check d o=0↔(d≤24∧usesOk o=true∧(o.k=9→d≤1)∧fits o=true∧o.s.length≤long o.k∧o.kids.length≤8191∧form o=true)∧∀c∈o.kids,check (d+1) c=0:=by
 rw[check_eq];have hw:why d o=0↔(d≤24∧usesOk o=true∧(o.k=9→d≤1)∧fits o=true∧o.s.length≤long o.k∧o.kids.length≤8191∧form o=true):=by
  unfold why;split
  ·simp;omega
  rename_i h1
  split
  ·rename_i h2
   simp only[show (10:Int)≠0 by decide,false_iff,not_and];rintro - a b;rcases h2 with h2|h2
   ·rw[h2] at a;cases a
   ·have:=b h2.1;omega
  rename_i h2
  simp only[not_or,Bool.not_eq_false,not_and,Nat.not_lt] at h2;split
  ·rename_i h3;simp[h3]
  rename_i h3
  split
  ·rename_i h4;simp;intros;omega
  rename_i h4
  split
  ·rename_i h5;simp;intros;omega
  rename_i h5
  split
  ·rename_i h6;simp[h6]
  rename_i h6
  simp only[Bool.not_eq_false] at h3 h6;exact⟨fun _=>⟨by omega,h2.1,h2.2,h3,by omega,by omega,h6⟩,fun _=>rfl⟩
 split
 ·rename_i h
  constructor
  ·intro e;exact absurd e h
  ·intro e;exact absurd (hw.2 e.1) h
 ·rename_i h
  have h:=Classical.not_not.1 h;rw[checks_iff];exact⟨fun e=>⟨hw.1 h,e⟩,fun e=>e.2⟩
theorem without_check {d:Nat}{o:Ob}{key:List UInt8}(h:check d o=0)(hk:keyed o=true):check d (without o key)=0:=by
 obtain⟨⟨a1,a2,a3,a4,a5,a6,a7⟩,hc⟩:=check_iff.1 h;have s1:=dropK_sub1 key o.keys o.kids;have s2:=dropK_sub2 key o.keys o.kids;have h79:o.k=7∨o.k=9:=by simpa[keyed] using hk
 have ek:(without o key).k=o.k:=rfl;have eks:(without o key).keys=(dropK key o.keys o.kids).1:=rfl;have ecs:(without o key).kids=(dropK key o.keys o.kids).2:=rfl;refine check_iff.2 ⟨⟨a1,?_,a3,a4,a5,?_,?_⟩,fun c hc'=>hc c (s2.subset hc')⟩
 ·unfold usesOk at a2 ⊢;rw[ek];rcases h79 with h7|h9
  ·rw[h7] at a2 ⊢;simpa[used,show (without o key).n=o.n from rfl,show (without o key).g=o.g from rfl,show (without o key).s=o.s from rfl] using a2
  ·rw[h9] at a2 ⊢;simpa[used,show (without o key).n=o.n from rfl,show (without o key).g=o.g from rfl,show (without o key).s=o.s from rfl] using a2
 ·rw[ecs];exact Nat.le_trans s2.length_le a6
 ·unfold form at a7 ⊢;rw[ek];simp only[Bool.and_eq_true] at a7 ⊢;refine⟨a7.1,?_⟩;rw[decide_eq_true h79] at a7 ⊢;have hr:rising o=true:=by simpa using a7.2
  obtain⟨r1,r2,r3,r4⟩:=rising_iff.1 hr;have:rising (without o key)=true:=by
   refine rising_iff.2 ⟨?_,?_,?_,?_⟩
   ·rw[eks,ecs];exact dropK_lens key _ _
   ·rw[eks];exact List.Pairwise.sublist s1 r2
   ·rw[eks];exact fun k hk=>r3 k (s1.subset hk)
   ·rw[ecs];exact fun c hc=>r4 c (s2.subset hc)
  simp[this]
end Vl
namespace Dk
end Dk
end
end Go.Proofs.YtlipjfcbjemicaaGreatDoor








namespace Go.Proofs.YtlipjfcbjemicaaGreatDoor
section
open Eng Go.RowKit
theorem m_max64 {P:Program}{w:World}{PK:PKT}{K:VWP}{T1 T2 U:TypeId}{cb:Array Bool}{k k':IntKind}{a b:Int}:DoX P (mB .max #[T1,T2] U cb #[.int k a,.int k' b]) w PK K=K (.int k (max a b)) w:=by
 refine do_eq ?_;have e:(if a < b then b else a)=max a b:=by split<;>omega
 simp[mB,builtin,Builtin.max_,Builtin.max2,e]
section
variable {w:World}{PK:PKT}{K:VWP}{S:Nat→Prop}{w0:World}{L:List Ent}
theorem m_nilP {b off:Nat}:DoX prog (mNil (.pointer (some ⟨b,off,none⟩))) w PK K=K (.pointer (some ⟨b,off,none⟩)) w:=do_eq rfl
end
end
section
open Go
namespace Fl
def bit (s:List UInt8)(p:Nat):Nat:=(s.getD (p / 8) 0).toNat / 2 ^ (p % 8) % 2
theorem bit_lt (s:List UInt8)(p:Nat):bit s p < 2:=Nat.mod_lt _ (by decide)
def num (s:List UInt8)(p:Nat):Nat→Nat
|0=>0
|n+1=>num s p n+bit s (p+n)*2 ^ n
theorem num_lt (s:List UInt8)(p:Nat):∀n,num s p n < 2 ^ n
|0=>by rw[num];decide
|n+1=>by
  have h1:=num_lt s p n;have h2:=bit_lt s (p+n);rw[num,Nat.pow_succ];rcases (by omega:bit s (p+n)=0∨bit s (p+n)=1) with h|h<;>rw[h]<;>omega
def numE (s:List UInt8)(at_ n:Nat):Nat×Nat×Int:=if at_+n≤8*s.length then (num s at_ n,at_+n,0) else (0,0,4)
def longest (lens:List Nat):Nat:=lens.foldl max 0
def placeG (n:Nat):Nat→List Nat→Nat→Nat
|_,[],_=>0
|i,l::ls,k=>if l=n then (match k with|0=>i|k+1=>placeG n (i+1) ls k) else placeG n (i+1) ls k
def place (lens:List Nat)(n k:Nat):Nat:=placeG n 0 lens k
def sumTo (lens:List Nat):Nat→Nat
|0=>0
|l+1=>sumTo lens l+lens.count (l+1)*2 ^ (15 - (l+1))
def usedTo (lens:List Nat):Nat→Nat
|0=>0
|l+1=>usedTo lens l+lens.count (l+1)
def check (lens:List Nat):Int:=if sumTo lens 15=32768∨usedTo lens 15=0∨(usedTo lens 15=1∧lens.count 1=1) then 0 else 13
def first (lens:List Nat):Nat→Nat
|0=>0
|1=>0
|l+2=>2*(first lens (l+1)+lens.count (l+1))
theorem sumTo_le {lens:List Nat}:∀l,sumTo lens l≤l*(lens.length*32768)
|0=>by simp[sumTo]
|l+1=>by
  have h1:=sumTo_le (lens:=lens) l;have h2:lens.count (l+1)*2 ^ (15 - (l+1))≤lens.length*32768:=Nat.mul_le_mul List.count_le_length (by
   have:2 ^ (15 - (l+1))≤2 ^ 15:=Nat.pow_le_pow_right (by decide) (by omega);simpa using this)
  rw[sumTo,Nat.succ_mul];omega
theorem usedTo_le {lens:List Nat}:∀l,usedTo lens l≤l*lens.length
|0=>by simp[usedTo]
|l+1=>by
  have h1:=usedTo_le (lens:=lens) l;have h2:lens.count (l+1)≤lens.length:=List.count_le_length;rw[usedTo,Nat.succ_mul];omega
theorem first_le {lens:List Nat}:∀l,first lens l≤4 ^ l*lens.length
|0=>by simp[first]
|1=>by simp[first]
|l+2=>by
  have h1:=first_le (lens:=lens) (l+1);have h2:lens.count (l+1)≤lens.length:=List.count_le_length;have h3:4 ^ (l+2)*lens.length=4*(4 ^ (l+1)*lens.length):=by rw[Nat.pow_succ 4 (l+1),Nat.mul_comm (4 ^ (l+1)) 4,Nat.mul_assoc]
  have h4:1*lens.length≤4 ^ (l+1)*lens.length:=Nat.mul_le_mul_right _ (Nat.one_le_pow _ _ (by decide));rw[first,h3];omega
end Fl
end
section
open Eng
def S_bit_From(t0 w)(K:KT):=
 dx (mBuild 317 #[(1,t0)]) w K fun t4 w=>dx (mBox 317 t4) w K fun t5 w=>K (.returned t5) w
theorem S_bit_From_ok{t0 w K}(h:S_bit_From t0 w K):Calls prog 273 #[t0] w K:=cw Tryz.func273 rfl rfl (by kernel_rfl) h
def S_bit_side_other(t0 t1 w)(K:KT):=
 dx (mNil t0) w K fun t6 w=>dx (mFA 315 t6 0) w K fun t7 w=>dx (mLoad 3 t7) w K fun t8 w=>dx (mEq .neq 3 (.tmp 8) (.const (iN 0)) t8 (iN 0)) w K fun t9 w=>etx t9 t0 w fun t11 w=>gtx t9 (mNil t11) w K fun t12 w=>gtx t9 (mFA 315 t12 0) w K fun t13 w=>gtx t9 (mLoad 3 t13) w K fun t14 w=>etx t9 t1 w fun t15 w=>gtx t9 (mEq .neq 3 (.tmp 14) (.tmp 15) t14 t15) w K fun t16 w=>dx (mPick t9 t16 (.bool false)) w K fun t17 w=>K (.returned t17) w
theorem S_bit_side_other_ok{t0 t1 w K}(h:S_bit_side_other t0 t1 w K):Calls prog 340 #[t0,t1] w K:=cw Tryz.func340 rfl rfl (by kernel_rfl) h
def S_bit_side_place(t0 t1 w)(K:KT):=
 dx (mEq .eql 3 (.tmp 5) (.const (iN 1)) t1 (iN 1)) w K fun t6 w=>IfX t6 (dx (mNil t0) w K fun t8 w=>dx (mFA 315 t8 1) w K fun t9 w=>dx (mLoad 3 t9) w K fun t10 w=>K (.returned t10) w) (dx (mNil t0) w K fun t12 w=>dx (mFA 315 t12 1) w K fun t13 w=>dx (mLoad 3 t13) w K fun t14 w=>dx (mBin .sub 3 (iN 7) t14) w K fun t15 w=>K (.returned t15) w)
theorem S_bit_side_place_ok{t0 t1 w K}(h:S_bit_side_place t0 t1 w K):Calls prog 349 #[t0,t1] w K:=cw Tryz.func349 rfl rfl (by kernel_rfl) h
def S_bit_Reader_one_0(t5 w)(K:KT):=
 K (.returned t5) w
def S_bit_Reader_one(t0 t1 w)(K:KT):=
 QuietX w (fun C1=>QDo prog C1 (mNil t0) fun t7=>QDo prog C1 (mFA 317 t7 1) fun t8=>QDo prog C1 (mLoad 9 t8) fun t9=>QDo prog C1 (mNil t0) fun t11=>QDo prog C1 (mFA 317 t11 2) fun t12=>QDo prog C1 (mLoad 3 t12) fun t13=>QDo prog C1 (mIx 9 t9 t13) fun t14=>QDo prog C1 (mConv 5 3 t14) fun t15=>QDo prog C1 (mNil t0) fun t17=>QDo prog C1 (mFA 317 t17 0) fun t18=>QCall prog C1 349 #[t18,t1] fun t20=>QDo prog C1 (mBin .shr 3 t15 t20) fun t21=>QDo prog C1 (mBin .and 3 t21 (iN 1)) fun t22=>
 ∀w,C1 w →
 JoinX (fun J2=>dx (mNil t0) w K fun t24 w=>dx (mFA 317 t24 0) w K fun t25 w=>dx (mFA 315 t25 1) w K fun t26 w=>dx (mLoad 3 t26) w K fun t27 w=>dx (mBin .add 3 t27 (iN 1)) w K fun t28 w=>dx (mNil t0) w K fun t29 w=>dx (mFA 317 t29 0) w K fun t30 w=>dx (mFA 315 t30 1) w K fun t31 w=>dx (mStore 3 t31 t28) w K fun _ w=>dx (mNil t0) w K fun t33 w=>dx (mFA 317 t33 0) w K fun t34 w=>dx (mFA 315 t34 1) w K fun t35 w=>dx (mLoad 3 t35) w K fun t36 w=>dx (mEq .eql 3 (.tmp 36) (.const (iN 8)) t36 (iN 8)) w K fun t37 w=>IfX t37 (dx (mNil t0) w K fun t39 w=>dx (mFA 317 t39 0) w K fun t40 w=>dx (mFA 315 t40 1) w K fun t41 w=>dx (mStore 3 t41 (iN 0)) w K fun _ w=>dx (mNil t0) w K fun t43 w=>dx (mFA 317 t43 2) w K fun t44 w=>dx (mLoad 3 t44) w K fun t45 w=>dx (mBin .add 3 t45 (iN 1)) w K fun t46 w=>dx (mNil t0) w K fun t47 w=>dx (mFA 317 t47 2) w K fun t48 w=>dx (mStore 3 t48 t46) w K fun _ w=>J2 [] w) (J2 [] w)) (fun vs2 w=>∀_:Sg,S_bit_Reader_one_0 t22 w K))
theorem S_bit_Reader_one_eq (t0 t1:Value)(w:World)(K:Ending→World→Prop):wpX prog 50 [(6,[])] [] none (bodyOf Tryz.f355) (topQ prog [.tmp 4] K) (startX [t0,t1]) [] w=S_bit_Reader_one t0 t1 w K:=by kernel_rfl
theorem S_bit_Reader_one_ok {t0 t1:Value}{w:World}{K:Ending→World→Prop}(h:S_bit_Reader_one t0 t1 w K):Calls prog 355 #[t0,t1] w K:=
 calls_of_wpX Tryz.func355 rfl rfl rfl rfl (Eq.mpr (S_bit_Reader_one_eq t0 t1 w K) h)
def S_bit_Reader_take_2(t8 w)(K:KT):=
 K (.returned (.tuple #[t8,(iN 0)])) w
def S_bit_Reader_take_1(t8 t35 w)(N1:JT)(K:KT):=
 dx (mBin .add 3 t35 (iN 1)) w K fun t52 w=>N1 [t8,t52] w
def S_bit_Reader_take_0(t0 t1 t2 t8 t34 t35 w)(N1:JT)(K:KT):=
 dx (mBin .lss 3 t35 t34) w K fun t36 w=>IfX t36 (JoinX (fun J2=>cx 355 #[t0,t2] w K fun t40 w=>dx (mEq .eql 3 (.tmp 41) (.const (iN 1)) t2 (iN 1)) w K fun t42 w=>IfX t42 (dx (mBin .shl 3 t40 t35) w K fun t46 w=>dx (mBin .or 3 t8 t46) w K fun t47 w=>J2 [t47] w) (dx (mBin .shl 3 t8 (.int .u64 1)) w K fun t49 w=>dx (mBin .or 3 t49 t40) w K fun t51 w=>J2 [t51] w)) (fun vs2 w=>∀_:Sg,S_bit_Reader_take_1 (vs2.getD 0 undef) t35 w N1 K)) (JoinX (fun J3=>dx (mBin .gtr 3 t1 (iN 0)) w K fun t54 w=>IfX t54 (dx (mNil t0) w K fun t57 w=>dx (mFA 317 t57 0) w K fun t58 w=>dx (mFA 315 t58 0) w K fun t59 w=>dx (mStore 3 t59 t2) w K fun _ w=>J3 [] w) (J3 [] w)) (fun vs3 w=>∀_:Sg,S_bit_Reader_take_2 t8 w K))
def S_bit_Reader_take(t0 t1 t2 w)(K:KT):=
 dx (mEq .eql 275 (.tmp 12) (.const (.pointer none)) t0 (.pointer none)) w K fun t13 w=>efx t13 t1 w fun t15 w=>gfx t13 (mBin .lss 3 t15 (iN 0)) w K fun t16 w=>dx (mPick t13 (.bool true) t16) w K fun t17 w=>efx t17 t1 w fun t19 w=>gfx t17 (mBin .gtr 3 t19 (iN 24)) w K fun t20 w=>dx (mPick t17 (.bool true) t20) w K fun t21 w=>efx t21 t0 w fun t23 w=>gfx t21 (mNil t23) w K fun t24 w=>gfx t21 (mFA 317 t24 0) w K fun t25 w=>efx t21 t2 w fun t26 w=>cfx t21 340 #[t25,t26] w K fun t27 w=>dx (mPick t21 (.bool true) t27) w K fun t28 w=>IfX t28 (K (.returned (.tuple #[(iN 0),(iN 1)])) w) (cx 354 #[t0] w K fun t32 w=>dx (mBin .gtr 3 t1 t32) w K fun t33 w=>IfX t33 (K (.returned (.tuple #[(iN 0),(iN 4)])) w) (LoopX [(iN 0),(iN 0)] w (fun vs1 w N1=>∀_:Sg,S_bit_Reader_take_0 t0 t1 t2 (vs1.getD 0 undef) t1 (vs1.getD 1 undef) w N1 K)))
theorem S_bit_Reader_take_eq (t0 t1 t2:Value)(w:World)(K:Ending→World→Prop):wpX prog 61 [(13,[8]),(16,[])] [(7,[8,35])] none (bodyOf Tryz.f346) (topQ prog [.tmp 6,.tmp 7] K) (startX [t0,t1,t2]) [] w=S_bit_Reader_take t0 t1 t2 w K:=by kernel_rfl
theorem S_bit_Reader_take_ok {t0 t1 t2:Value}{w:World}{K:Ending→World→Prop}(h:S_bit_Reader_take t0 t1 t2 w K):Calls prog 346 #[t0,t1,t2] w K:=
 calls_of_wpX Tryz.func346 rfl rfl rfl rfl (Eq.mpr (S_bit_Reader_take_eq t0 t1 t2 w K) h)
def S_bit_Reader_Low(t0 t1 w)(K:KT):=
 cx 346 #[t0,t1,(iN 1)] w K fun t8 w=>dx (mExt t8 0) w K fun t9 w=>dx (mExt t8 1) w K fun t10 w=>K (.returned (.tuple #[t9,t10])) w
theorem S_bit_Reader_Low_ok{t0 t1 w K}(h:S_bit_Reader_Low t0 t1 w K):Calls prog 332 #[t0,t1] w K:=cw Tryz.func332 rfl rfl (by kernel_rfl) h
def S_bit_Reader_Align_0(t0 w)(K:KT):=
 dx (mBuild 315 #[]) w K fun t18 w=>dx (mNil t0) w K fun t19 w=>dx (mFA 317 t19 0) w K fun t20 w=>dx (mStore 315 t20 t18) w K fun _ w=>K (.returned (.tuple #[])) w
def S_bit_Reader_Align(t0 w)(K:KT):=
 dx (mEq .eql 275 (.tmp 2) (.const (.pointer none)) t0 (.pointer none)) w K fun t3 w=>IfX t3 (K (.returned (.tuple #[])) w) (JoinX (fun J1=>dx (mNil t0) w K fun t5 w=>dx (mFA 317 t5 0) w K fun t6 w=>dx (mFA 315 t6 1) w K fun t7 w=>dx (mLoad 3 t7) w K fun t8 w=>dx (mBin .gtr 3 t8 (iN 0)) w K fun t9 w=>IfX t9 (dx (mNil t0) w K fun t11 w=>dx (mFA 317 t11 2) w K fun t12 w=>dx (mLoad 3 t12) w K fun t13 w=>dx (mBin .add 3 t13 (iN 1)) w K fun t14 w=>dx (mNil t0) w K fun t15 w=>dx (mFA 317 t15 2) w K fun t16 w=>dx (mStore 3 t16 t14) w K fun _ w=>J1 [] w) (J1 [] w)) (fun vs1 w=>∀_:Sg,S_bit_Reader_Align_0 t0 w K))
theorem S_bit_Reader_Align_eq (t0:Value)(w:World)(K:Ending→World→Prop):wpX prog 21 [(3,[])] [] none (bodyOf Tryz.f333) (topQ prog [] K) (startX [t0]) [] w=S_bit_Reader_Align t0 w K:=by kernel_rfl
theorem S_bit_Reader_Align_ok {t0:Value}{w:World}{K:Ending→World→Prop}(h:S_bit_Reader_Align t0 w K):Calls prog 333 #[t0] w K:=
 calls_of_wpX Tryz.func333 rfl rfl rfl rfl (Eq.mpr (S_bit_Reader_Align_eq t0 w K) h)
def S_bit_Reader_Raw(t0 t1 w)(K:KT):=
 dx (mEq .eql 275 (.tmp 7) (.const (.pointer none)) t0 (.pointer none)) w K fun t8 w=>efx t8 t1 w fun t10 w=>gfx t8 (mBin .lss 3 t10 (iN 0)) w K fun t11 w=>dx (mPick t8 (.bool true) t11) w K fun t12 w=>efx t12 t0 w fun t14 w=>gfx t12 (mNil t14) w K fun t15 w=>gfx t12 (mFA 317 t15 0) w K fun t16 w=>gfx t12 (mFA 315 t16 1) w K fun t17 w=>gfx t12 (mLoad 3 t17) w K fun t18 w=>gfx t12 (mBin .gtr 3 t18 (iN 0)) w K fun t19 w=>dx (mPick t12 (.bool true) t19) w K fun t20 w=>IfX t20 (K (.returned (.tuple #[(.string ⟨#[]⟩),(iN 1)])) w) (QuietX w (fun C1=>QDo prog C1 (mNil t0) fun t24=>QDo prog C1 (mFA 317 t24 1) fun t25=>QDo prog C1 (mLoad 9 t25) fun t26=>QDo prog C1 (mB .len #[9] 3 #[false] #[t26]) fun t27=>QDo prog C1 (mNil t0) fun t29=>QDo prog C1 (mFA 317 t29 2) fun t30=>QDo prog C1 (mLoad 3 t30) fun t31=>QDo prog C1 (mBin .sub 3 t27 t31) fun t32=>QDo prog C1 (mBin .gtr 3 t1 t32) fun t33=>
 ∀w,C1 w →
 IfX t33 (K (.returned (.tuple #[(.string ⟨#[]⟩),(iN 4)])) w) (dx (mNil t0) w K fun t35 w=>dx (mFA 317 t35 2) w K fun t36 w=>dx (mLoad 3 t36) w K fun t37 w=>dx (mBin .add 3 t37 t1) w K fun t39 w=>dx (mNil t0) w K fun t40 w=>dx (mFA 317 t40 2) w K fun t41 w=>dx (mStore 3 t41 t39) w K fun _ w=>QuietX w (fun C2=>QDo prog C2 (mNil t0) fun t43=>QDo prog C2 (mFA 317 t43 1) fun t44=>QDo prog C2 (mLoad 9 t44) fun t45=>QDo prog C2 (mNil t0) fun t47=>QDo prog C2 (mFA 317 t47 2) fun t48=>QDo prog C2 (mLoad 3 t48) fun t49=>QDo prog C2 (mBin .sub 3 t49 t1) fun t51=>QDo prog C2 (mNil t0) fun t53=>QDo prog C2 (mFA 317 t53 2) fun t54=>QDo prog C2 (mLoad 3 t54) fun t55=>QDo prog C2 (mSlice 9 t45 (some t51) (some t55) none) fun t56=>
 ∀w,C2 w →
 K (.returned (.tuple #[t56,(iN 0)])) w))))
theorem S_bit_Reader_Raw_ok{t0 t1 w K}(h:S_bit_Reader_Raw t0 t1 w K):Calls prog 336 #[t0,t1] w K:=cw Tryz.func336 rfl rfl (by kernel_rfl) h
def S_bit_Reader_At(t0 w)(K:KT):=
 dx (mEq .eql 275 (.tmp 3) (.const (.pointer none)) t0 (.pointer none)) w K fun t4 w=>IfX t4 (K (.returned (iN 0)) w) (dx (mNil t0) w K fun t6 w=>dx (mFA 317 t6 0) w K fun t7 w=>dx (mFA 315 t7 1) w K fun t8 w=>dx (mLoad 3 t8) w K fun t9 w=>dx (mBin .gtr 3 t9 (iN 0)) w K fun t10 w=>IfX t10 (dx (mNil t0) w K fun t12 w=>dx (mFA 317 t12 2) w K fun t13 w=>dx (mLoad 3 t13) w K fun t14 w=>dx (mBin .add 3 t14 (iN 1)) w K fun t15 w=>K (.returned t15) w) (dx (mNil t0) w K fun t17 w=>dx (mFA 317 t17 2) w K fun t18 w=>dx (mLoad 3 t18) w K fun t19 w=>K (.returned t19) w))
theorem S_bit_Reader_At_ok{t0 w K}(h:S_bit_Reader_At t0 w K):Calls prog 275 #[t0] w K:=cw Tryz.func275 rfl rfl (by kernel_rfl) h
def S_bit_Reader_Left(t0 w)(K:KT):=
 dx (mEq .eql 275 (.tmp 3) (.const (.pointer none)) t0 (.pointer none)) w K fun t4 w=>IfX t4 (K (.returned (iN 0)) w) (QuietX w (fun C1=>QDo prog C1 (mNil t0) fun t6=>QDo prog C1 (mFA 317 t6 1) fun t7=>QDo prog C1 (mLoad 9 t7) fun t8=>QDo prog C1 (mB .len #[9] 3 #[false] #[t8]) fun t9=>QDo prog C1 (mNil t0) fun t11=>QDo prog C1 (mFA 317 t11 2) fun t12=>QDo prog C1 (mLoad 3 t12) fun t13=>QDo prog C1 (mBin .sub 3 t9 t13) fun t14=>QDo prog C1 (mBin .mul 3 (iN 8) t14) fun t15=>QDo prog C1 (mNil t0) fun t17=>QDo prog C1 (mFA 317 t17 0) fun t18=>QDo prog C1 (mFA 315 t18 1) fun t19=>QDo prog C1 (mLoad 3 t19) fun t20=>QDo prog C1 (mBin .sub 3 t15 t20) fun t21=>
 ∀w,C1 w →
 K (.returned t21) w))
theorem S_bit_Reader_Left_ok{t0 w K}(h:S_bit_Reader_Left t0 w K):Calls prog 354 #[t0] w K:=cw Tryz.func354 rfl rfl (by kernel_rfl) h
end
section
open Eng Go.RowKit
theorem and1_fin:∀n:Fin 256,bAnd .i64 (n.val:Int) 1=((n.val % 2:Nat):Int):=by decide +kernel
theorem and1 {n:Nat}(h:n < 256):bAnd .i64 (n:Int) 1=((n % 2:Nat):Int):=and1_fin ⟨n,h⟩
theorem or_bits {v b i:Nat}(hv:v < 2 ^ i)(hb:b < 2)(hi:i≤30):bOr .i64 (v:Int) ((b*2 ^ i:Nat):Int)=((v+b*2 ^ i:Nat):Int):=by
 have hp:2 ^ i≤2 ^ 30:=Nat.pow_le_pow_right (by decide) hi;have h30:(2:Nat) ^ 30=1073741824:=by decide
 have hbi:b*2 ^ i≤2 ^ 30:=by
  have:b*2 ^ i≤1*2 ^ i:=Nat.mul_le_mul_right _ (by omega);omega
 have e:v ||| b*2 ^ i=v+b*2 ^ i:=by
  have:=Nat.two_pow_add_eq_or_of_lt hv b;rw[Nat.or_comm,Nat.mul_comm b,←this,Nat.add_comm]
 unfold bOr;show IntKind.wrap .i64 (((BitVec.ofInt 64 (v:Int) ||| BitVec.ofInt 64 ((b*2 ^ i:Nat):Int)).toNat:Nat):Int)=_;rw[BitVec.ofInt_natCast,BitVec.ofInt_natCast,BitVec.toNat_or,BitVec.toNat_ofNat,BitVec.toNat_ofNat,Nat.mod_eq_of_lt (by omega),Nat.mod_eq_of_lt (by omega),e];exact wrap64_id (by omega) (by omega)
theorem fdivN (a n:Nat):((a:Nat):Int).fdiv (2 ^ n)=((a / 2 ^ n:Nat):Int):=by
 rw[Int.fdiv_eq_ediv_of_nonneg _ (by exact Int.pow_nonneg (by decide))]
 push_cast
 rfl
def bqC (s:List UInt8)(way:Int)(p:Nat):List Value:=[.int .i64 way,.int .i64 ((p % 8:Nat):Int),.string ⟨s.toArray⟩,.int .i64 ((p / 8:Nat):Int)]
def bqE (b:Nat)(s:List UInt8)(way:Int)(p:Nat):Ent:=.cells b (bqC s way p) 317
theorem fo_rd0:fOff prog 317 0=some 0:=by kernel_rfl
theorem fo_rd1:fOff prog 317 1=some 2:=by kernel_rfl
theorem fo_rd2:fOff prog 317 2=some 3:=by kernel_rfl
theorem fo_sd0:fOff prog 315 0=some 0:=by kernel_rfl
theorem fo_sd1:fOff prog 315 1=some 1:=by kernel_rfl
theorem szSd:(Tryz.prog.info? 315).map (·.size)=some 2:=by kernel_rfl
theorem nStrR:notAgg prog 9=true:=by kernel_rfl
section
variable {w:World}{PK:PKT}{K:VWP}{S:Nat→Prop}{w0:World}{L:List Ent}
theorem fa_rd0 {b off:Nat}:DoX prog (mFA 317 (.pointer (some ⟨b,off,none⟩)) 0) w PK K=K (.pointer (some ⟨b,off,none⟩)) w:=f_addr fo_rd0
theorem fa_rd2 {b off:Nat}:DoX prog (mFA 317 (.pointer (some ⟨b,off,none⟩)) 2) w PK K=K (.pointer (some ⟨b,off+3,none⟩)) w:=f_addr fo_rd2
theorem fa_sd0 {b off:Nat}:DoX prog (mFA 315 (.pointer (some ⟨b,off,none⟩)) 0) w PK K=K (.pointer (some ⟨b,off,none⟩)) w:=f_addr fo_sd0
theorem fa_sd1 {b off:Nat}:DoX prog (mFA 315 (.pointer (some ⟨b,off,none⟩)) 1) w PK K=K (.pointer (some ⟨b,off+1,none⟩)) w:=f_addr fo_sd1
theorem bq_used (ho:OwnS S w0 w L)(j:Nat){b:Nat}{s:List UInt8}{way:Int}{p:Nat}(hi:L[j]?=some (bqE b s way p)):DoX prog (mLoad 3 (.pointer (some ⟨b,0+1,none⟩))) w PK K=K (.int .i64 ((p % 8:Nat):Int)) w:=l_cell nInt5 (ho.cell j hi 1 rfl)
theorem bq_at (ho:OwnS S w0 w L)(j:Nat){b:Nat}{s:List UInt8}{way:Int}{p:Nat}(hi:L[j]?=some (bqE b s way p)):DoX prog (mLoad 3 (.pointer (some ⟨b,0+3,none⟩))) w PK K=K (.int .i64 ((p / 8:Nat):Int)) w:=l_cell nInt5 (ho.cell j hi 3 rfl)
end
section
variable {W:World}{b:Nat}{s:List UInt8}{way:Int}{p:Nat}
theorem run_rdused (h:(bqE b s way p).is W):(mLoad 3 (.pointer (some ⟨b,0+1,none⟩))).run prog W=.ok (.value (.int .i64 ((p % 8:Nat):Int))) W:=run_load_cell nInt5 (cells_cell (T:=317) (cs:=bqC s way p) h rfl)
theorem run_rds (h:(bqE b s way p).is W):(mLoad 9 (.pointer (some ⟨b,0+2,none⟩))).run prog W=.ok (.value (.string ⟨s.toArray⟩)) W:=run_load_cell nStrR (cells_cell (T:=317) (cs:=bqC s way p) h rfl)
theorem run_rdat (h:(bqE b s way p).is W):(mLoad 3 (.pointer (some ⟨b,0+3,none⟩))).run prog W=.ok (.value (.int .i64 ((p / 8:Nat):Int))) W:=run_load_cell nInt5 (cells_cell (T:=317) (cs:=bqC s way p) h rfl)
theorem bplace_ret (h:(bqE b s way p).is W):Ret prog 349 #[.pointer (some ⟨b,0,none⟩),.int .i64 1] W (fun v w'=>v=.int .i64 ((p % 8:Nat):Int)∧Below W.heap.size W w'):=by
 refine ret_of fun K hK=>S_bit_side_place_ok ?_;unfold S_bit_side_place iN dx;simp only[rs,decide_true,m_nilP];rw[fa_sd1];refine do_eq (run_rdused h) |>.mpr ?_;exact hK _ _ ⟨rfl,(Own.start W).done⟩
theorem bother_ret (h:(bqE b s way p).is W)(hw:way=0∨way=1):Ret prog 340 #[.pointer (some ⟨b,0,none⟩),.int .i64 1] W (fun v w'=>v=.bool false∧Below W.heap.size W w'):=by
 refine ret_of fun K hK=>S_bit_side_other_ok ?_;unfold S_bit_side_other iN dx gtx etx;have r:=run_load_cell (P:=prog) (T:=3) nInt5 (cells_cell (T:=317) (cs:=bqC s way p) h (i:=0) rfl);rw[m_nilP,fa_sd0];refine do_eq r |>.mpr ?_;rcases hw with rfl|rfl
 ·simp only[rs,ne_eq,not_true,decide_false,g_un];exact hK _ _ ⟨rfl,(Own.start W).done⟩
 ·simp only[rs,show decide ((1:Int)≠0)=true by decide,m_nilP];rw[fa_sd0];refine do_eq r |>.mpr ?_;simp only[rs,ne_eq,not_true,decide_false];exact hK _ _ ⟨rfl,(Own.start W).done⟩
end
def rqE (b:Nat)(s:List UInt8)(way u a:Int):Ent:=.cells b [.int .i64 way,.int .i64 u,.string ⟨s.toArray⟩,.int .i64 a] 317
section
variable {w:World}{PK:PKT}{K:VWP}{S:Nat→Prop}{w0:World}{L:List Ent}
theorem rq_used (ho:OwnS S w0 w L)(j:Nat){b:Nat}{s:List UInt8}{way u a:Int}(hi:L[j]?=some (rqE b s way u a)):DoX prog (mLoad 3 (.pointer (some ⟨b,0+1,none⟩))) w PK K=K (.int .i64 u) w:=l_cell nInt5 (ho.cell j hi 1 rfl)
theorem rq_at (ho:OwnS S w0 w L)(j:Nat){b:Nat}{s:List UInt8}{way u a:Int}(hi:L[j]?=some (rqE b s way u a)):DoX prog (mLoad 3 (.pointer (some ⟨b,0+3,none⟩))) w PK K=K (.int .i64 a) w:=l_cell nInt5 (ho.cell j hi 3 rfl)
theorem rq_putU (j:Nat){b:Nat}{s:List UInt8}{way u a u':Int}(ho:OwnS S w0 w L)(hi:L[j]?=some (rqE b s way u a))(k:∀w',OwnS S w0 w' (L.set j (rqE b s way u' a))→K undef w'):DoX prog (mStore 3 (.pointer (some ⟨b,0+1,none⟩)) (.int .i64 u')) w PK K:=o_store j ho hi (by kernel_rfl) rfl (by show 0+1 < 4;omega) k
theorem rq_putA (j:Nat){b:Nat}{s:List UInt8}{way u a a':Int}(ho:OwnS S w0 w L)(hi:L[j]?=some (rqE b s way u a))(k:∀w',OwnS S w0 w' (L.set j (rqE b s way u a'))→K undef w'):DoX prog (mStore 3 (.pointer (some ⟨b,0+3,none⟩)) (.int .i64 a')) w PK K:=o_store j ho hi (by kernel_rfl) rfl (by show 0+3 < 4;omega) k
theorem rq_putW (j:Nat){b:Nat}{s:List UInt8}{way u a way':Int}(ho:OwnS S w0 w L)(hi:L[j]?=some (rqE b s way u a))(k:∀w',OwnS S w0 w' (L.set j (rqE b s way' u a))→K undef w'):DoX prog (mStore 3 (.pointer (some ⟨b,0,none⟩)) (.int .i64 way')) w PK K:=o_store j ho hi (by kernel_rfl) rfl (by show 0 < 4;omega) k
theorem c_one {b:Nat}{s:List UInt8}{way:Int}{p:Nat}(j:Nat)(ho:OwnS S w0 w L)(hj:L[j]?=some (bqE b s way p))(hp:p < 8*s.length)(hs:s.length≤1000000000)
  (k:∀W,OwnS S w0 W (L.set j (bqE b s way (p+1)))→K (.int .i64 (Fl.bit s p)) W):CallX prog 355 #[.pointer (some ⟨b,0,none⟩),.int .i64 1] w PK K:=by
 have hjl:j < L.length:=(List.getElem?_eq_some_iff.1 hj).1;refine c_any (S_bit_Reader_one_ok (K:=RetK fun v W=>v=.int .i64 (Fl.bit s p)∧OwnS S w0 W (L.set j (bqE b s way (p+1)))) ?_) (fun e W ⟨v,he,hv,ho⟩=>by subst he;subst hv;exact k W ho);unfold S_bit_Reader_one iN dx;have hi:p / 8 < s.length:=by omega
 refine quietC (fun W=>OwnS S w0 W L) ho.drew ?_;refine q_do _ (fun _=>run_nil) (q_do _ (fun _=>run_fa fo_rd1) (q_at _ (fun W h=>run_rds (h.at_ j hj)) ?_));refine q_do _ (fun _=>run_nil) (q_do _ (fun _=>run_fa fo_rd2) (q_at _ (fun W h=>run_rdat (h.at_ j hj)) ?_));refine q_ix Tryz.underlying9 (by omega) (by rw[Int.toNat_natCast,List.getElem?_eq_getElem hi]) ?_;refine q_do _ (fun _=>run_c_int (by kernel_rfl) Tryz.underlying3) ?_;have hc:=(s[p / 8]).toNat_lt;rw[wrap64_id (by omega) (by omega)];refine q_do _ (fun _=>run_nil) (q_do _ (fun _=>run_fa fo_rd0) ?_);refine q_call (.int .i64 ((p % 8:Nat):Int)) (fun W h=>(bplace_ret (h.at_ j hj)).mono fun v w' r=>⟨r.1,h.grow r.2⟩) ?_;refine q_do _ (fun _=>r_shr (by omega)) ?_;rw[show min ((p % 8:Nat):Int).toNat IntKind.i64.bits=p % 8 by show min ((p % 8:Nat):Int).toNat 64=p % 8;omega,fdivN];refine q_do _ (fun _=>r_and) ?_;have hdv:s[p / 8].toNat / 2 ^ (p % 8)≤s[p / 8].toNat:=Nat.div_le_self _ _;rw[and1 (by omega)];have hbit:s[p / 8].toNat / 2 ^ (p % 8) % 2=Fl.bit s p:=by
  unfold Fl.bit;rw[List.getD_eq_getElem?_getD,List.getElem?_eq_getElem hi];rfl
 rw[hbit];intro w2 ho;refine join fun J hJ=>?_;have fin:∀W,OwnS S w0 W (L.set j (bqE b s way (p+1)))→J [] W:=by
  intro W ho;refine hJ _ _ fun _=>?_;unfold S_bit_Reader_one_0;exact retK ⟨rfl,ho⟩
 rw[m_nilP,fa_rd0,fa_sd1,bq_used ho j hj];simp only[rs,m_nilP];rw[fa_rd0,fa_sd1,wrap64_id (by omega) (by omega)];refine rq_putU j ho hj fun w3 ho=>?_;have hj3:(L.set j (rqE b s way (((p % 8:Nat):Int)+1) ((p / 8:Nat):Int)))[j]?=some (rqE b s way (((p % 8:Nat):Int)+1) ((p / 8:Nat):Int)):=by rw[List.getElem?_set_self hjl]
 rw[fa_rd0,fa_sd1,rq_used ho j hj3];simp only[rs,m_nilP];by_cases h8:((p % 8:Nat):Int)+1=8
 ·simp only[h8,decide_true,i_t,rs,m_nilP];rw[fa_rd0,fa_sd1];refine rq_putU j ho hj3 fun w4 ho=>?_;rw[List.set_set] at ho;have hj4:(L.set j (rqE b s way 0 ((p / 8:Nat):Int)))[j]?=some (rqE b s way 0 ((p / 8:Nat):Int)):=by rw[List.getElem?_set_self hjl]
  rw[fa_rd2,rq_at ho j hj4];simp only[rs,m_nilP];rw[fa_rd2,wrap64_id (by omega) (by omega)];refine rq_putA j ho hj4 fun w5 ho=>?_;rw[List.set_set] at ho;refine fin w5 ?_;have e:rqE b s way 0 (((p / 8:Nat):Int)+1)=bqE b s way (p+1):=by
   unfold rqE bqE bqC;rw[show (p+1) % 8=0 by omega,show (p+1) / 8=p / 8+1 by omega];rfl
  rw[←e];exact ho
 ·simp only[h8,decide_false,i_f];refine fin w3 ?_;have e:rqE b s way (((p % 8:Nat):Int)+1) ((p / 8:Nat):Int)=bqE b s way (p+1):=by
   unfold rqE bqE bqC;rw[show (p+1) % 8=p % 8+1 by omega,show (p+1) / 8=p / 8 by omega];rfl
  rw[←e];exact ho
theorem e_rdnil {xo yo:Operand}{b:Nat}:DoX prog (mEq .eql 275 xo yo (.pointer (some ⟨b,0,none⟩)) (.pointer none)) w PK K=K (.bool false) w:=do_eq (by kernel_rfl)
theorem bleft_ret {W:World}{b:Nat}{s:List UInt8}{way:Int}{p:Nat}(h:(bqE b s way p).is W)(hp:p≤8*s.length)(hs:s.length≤1000000000):Ret prog 354 #[.pointer (some ⟨b,0,none⟩)] W (fun v w'=>v=.int .i64 ((8*s.length - p:Nat):Int)∧Below W.heap.size W w'):=by
 refine ret_of fun K hK=>S_bit_Reader_Left_ok ?_;unfold S_bit_Reader_Left iN dx;rw[e_rdnil,i_f];have ho:OwnS (bqE b s way p).blk W W [bqE b s way p]:=OwnS.lend h;refine quietC (fun w'=>(bqE b s way p).is w'∧Below W.heap.size W w') ⟨?_,?_⟩ ?_
 ·exact ho.drew.at_ 0 rfl
 ·exact (Own.start W).drew.done
 refine q_do _ (fun _=>run_nil) (q_do _ (fun _=>run_fa fo_rd1) (q_at _ (fun W h=>run_rds h.1) (q_slen Tryz.underlying9 ?_)));refine q_do _ (fun _=>run_nil) (q_do _ (fun _=>run_fa fo_rd2) (q_at _ (fun W h=>run_rdat h.1) (q_do _ (fun _=>r_sub) ?_)));rw[wrap64_id (by omega) (by omega)];refine q_do _ (fun _=>r_mul) ?_;rw[wrap64_id (by omega) (by omega)];refine q_do _ (fun _=>run_nil) (q_do _ (fun _=>run_fa fo_rd0) (q_do _ (fun _=>run_fa fo_sd1) (q_at _ (fun W h=>run_rdused h.1) (q_do _ (fun _=>r_sub) ?_))));rw[wrap64_id (by omega) (by omega)];intro w' hw;refine hK _ _ ⟨?_,hw.2⟩
 congr 1
 omega
theorem set_same {α:Type}{L:List α}{j:Nat}{e:α}(h:L[j]?=some e):L.set j e=L:=by
 refine List.ext_getElem? fun i=>?_;by_cases hi:i=j
 ·subst hi;rw[List.getElem?_set_self (List.getElem?_eq_some_iff.1 h).1,h]
 ·rw[List.getElem?_set_ne (Ne.symm hi)]
theorem c_take {b:Nat}{s:List UInt8}{way:Int}{p n:Nat}(j:Nat)(ho:OwnS S w0 w L)(hj:L[j]?=some (bqE b s way p))(hw:way=0∨way=1)(hp:p≤8*s.length)(hn:n≤24)(hs:s.length≤1000000000)
  (k1:p+n≤8*s.length→∀W,OwnS S w0 W (L.set j (bqE b s (if 0 < n then 1 else way) (p+n)))→K (.tuple #[.int .i64 (Fl.num s p n),.int .i64 0]) W)
  (k2:8*s.length < p+n→∀W,OwnS S w0 W L→K (.tuple #[.int .i64 0,.int .i64 4]) W):CallX prog 346 #[.pointer (some ⟨b,0,none⟩),.int .i64 (n:Int),.int .i64 1] w PK K:=by
 have hjl:j < L.length:=(List.getElem?_eq_some_iff.1 hj).1;refine c_any (S_bit_Reader_take_ok (K:=RetK fun v W=>(p+n≤8*s.length∧v=.tuple #[.int .i64 (Fl.num s p n),.int .i64 0]∧OwnS S w0 W (L.set j (bqE b s (if 0 < n then 1 else way) (p+n))))∨(8*s.length < p+n∧v=.tuple #[.int .i64 0,.int .i64 4]∧OwnS S w0 W L)) ?_) (fun e W ⟨v,he,hv⟩=>by
  subst he;rcases hv with ⟨h1,rfl,ho⟩|⟨h1,rfl,ho⟩
  ·exact k1 h1 W ho
  ·exact k2 h1 W ho)
 unfold S_bit_Reader_take iN dx gfx cfx efx cx;rw[e_rdnil];simp only[rs,show decide ((n:Int) < 0)=false from decide_eq_false (by omega),show decide ((24:Int) < (n:Int))=false from decide_eq_false (by omega),m_nilP];rw[fa_rd0];refine c_below ho (R:=fun v=>v=.bool false) (bother_ret (ho.at_ j hj) hw) ?_;rintro _ w2 rfl ho;simp only[rs];refine c_below ho (R:=fun v=>v=.int .i64 ((8*s.length - p:Nat):Int)) (bleft_ret (ho.at_ j hj) hp hs) ?_;rintro _ w3 rfl ho;simp only[rs];by_cases hend:((8*s.length - p:Nat):Int) < (n:Int)
 ·simp only[hend,decide_true,i_t];exact retK (.inr ⟨by omega,rfl,ho⟩)
 simp only[hend,decide_false,i_f];refine loop (fun vs W=>∃i:Nat,vs=[.int .i64 (Fl.num s p i),.int .i64 i]∧i≤n∧OwnS S w0 W (L.set j (bqE b s way (p+i)))) (fun vs _=>n - n1 vs) ⟨0,rfl,by omega,by rw[Nat.add_zero,set_same hj];exact ho⟩ ?_;clear ho;rintro vs w4 ⟨i,rfl,hi,ho⟩ _;simp only[S_bit_Reader_take_0,gd,rs,iN,dx,cx];have hji:(L.set j (bqE b s way (p+i)))[j]?=some (bqE b s way (p+i)):=by rw[List.getElem?_set_self hjl]
 by_cases hlt:(i:Int) < (n:Int)
 ·simp only[hlt,decide_true,i_t];refine join fun J hJ=>?_;refine c_one j ho hji (by omega) hs fun w5 ho=>?_;rw[List.set_set] at ho
  try simp only[rs,decide_true]
  rw[b_shl (by omega)];have hb:=Fl.bit_lt s (p+i);have hv:=Fl.num_lt s p i;have hpw:2 ^ i≤2 ^ 24:=Nat.pow_le_pow_right (by decide) (by omega);have h24:(2:Nat) ^ 24=16777216:=by decide
  have hbi:Fl.bit s (p+i)*2 ^ i≤2 ^ 24:=by
   have:Fl.bit s (p+i)*2 ^ i≤1*2 ^ i:=Nat.mul_le_mul_right _ (by omega);omega
  rw[show min ((i:Nat):Int).toNat IntKind.i64.bits=i by show min ((i:Nat):Int).toNat 64=i;omega];rw[show ((Fl.bit s (p+i):Nat):Int)*2 ^ i=((Fl.bit s (p+i)*2 ^ i:Nat):Int) by push_cast;rfl];rw[wrap64_id (by omega) (by omega),b_or,or_bits hv hb (by omega)];refine hJ _ _ fun _=>?_;simp only[S_bit_Reader_take_1,gd,rs,iN,dx];rw[wrap64_id (by omega) (by omega)];exact nextX ⟨i+1,by rw[Fl.num];rfl,by omega,ho⟩ (by simp[n1,RowKit.intOf];omega)
 ·simp only[hlt,decide_false,i_f];have hin:i=n:=by omega
  subst hin;refine join fun J hJ=>?_;have fin:∀W,OwnS S w0 W (L.set j (bqE b s (if 0 < i then 1 else way) (p+i)))→J [] W:=by
   intro W ho;refine hJ _ _ fun _=>?_;simp only[S_bit_Reader_take_2,iN];exact retK (.inl ⟨by omega,rfl,ho⟩)
  by_cases h0:0 < i
  ·rw[if_pos h0] at fin;simp only[show decide ((0:Int) < (i:Int))=true from decide_eq_true (by omega),rs,m_nilP];rw[fa_rd0,fa_sd0];refine rq_putW (way':=1) j ho hji fun w5 ho=>?_;rw[List.set_set] at ho;exact fin w5 ho
  ·rw[if_neg h0] at fin;simp only[show decide ((0:Int) < (i:Int))=false from decide_eq_false (by omega),rs];exact fin w4 ho
theorem c_low {b:Nat}{s:List UInt8}{way:Int}{p n:Nat}(j:Nat)(ho:OwnS S w0 w L)(hj:L[j]?=some (bqE b s way p))(hw:way=0∨way=1)(hp:p≤8*s.length)(hn:n≤24)(hs:s.length≤1000000000)
  (k1:p+n≤8*s.length→∀W,OwnS S w0 W (L.set j (bqE b s (if 0 < n then 1 else way) (p+n)))→K (.tuple #[.int .i64 (Fl.num s p n),.int .i64 0]) W)
  (k2:8*s.length < p+n→∀W,OwnS S w0 W L→K (.tuple #[.int .i64 0,.int .i64 4]) W):CallX prog 332 #[.pointer (some ⟨b,0,none⟩),.int .i64 (n:Int)] w PK K:=by
 refine c_any (S_bit_Reader_Low_ok (K:=RetK fun v W=>(p+n≤8*s.length∧v=.tuple #[.int .i64 (Fl.num s p n),.int .i64 0]∧OwnS S w0 W (L.set j (bqE b s (if 0 < n then 1 else way) (p+n))))∨(8*s.length < p+n∧v=.tuple #[.int .i64 0,.int .i64 4]∧OwnS S w0 W L)) ?_) (fun e W ⟨v,he,hv⟩=>by
  subst he;rcases hv with ⟨h1,rfl,ho⟩|⟨h1,rfl,ho⟩
  ·exact k1 h1 W ho
  ·exact k2 h1 W ho)
 unfold S_bit_Reader_Low iN dx cx;refine c_take j ho hj hw hp hn hs (fun h1 W ho=>?_) (fun h1 W ho=>?_)
 ·simp only[ex];exact retK (.inl ⟨h1,rfl,ho⟩)
 ·simp only[ex];exact retK (.inr ⟨h1,rfl,ho⟩)
end
end
section
open Eng
def S_inflate_need(t0 t1 w)(K:KT):=
 dx (mUn .not t0) w K fun t5 w=>IfX t5 (dx (mBuild 273 #[(0,t1)]) w K fun t7 w=>dx (mIface 273 t7) w K fun t8 w=>dx (mPanic t8) w K fun _ w=>K (.returned (.tuple #[])) w) (K (.returned (.tuple #[])) w)
theorem S_inflate_need_ok{t0 t1 w K}(h:S_inflate_need t0 t1 w K):Calls prog 272 #[t0,t1] w K:=cw Tryz.func272 rfl rfl (by kernel_rfl) h
def S_inflate_must_int(t0 t1 w)(K:KT):=
 dx (mEq .eql 30 (.tmp 5) (.const (iN 0)) t1 (iN 0)) w K fun t6 w=>cx 272 #[t6,t1] w K fun t8 w=>K (.returned t0) w
theorem S_inflate_must_int_ok{t0 t1 w K}(h:S_inflate_must_int t0 t1 w K):Calls prog 331 #[t0,t1] w K:=cw Tryz.func331 rfl rfl (by kernel_rfl) h
def S_inflate_must_string(t0 t1 w)(K:KT):=
 dx (mEq .eql 30 (.tmp 5) (.const (iN 0)) t1 (iN 0)) w K fun t6 w=>cx 272 #[t6,t1] w K fun t8 w=>K (.returned t0) w
theorem S_inflate_must_string_ok{t0 t1 w K}(h:S_inflate_must_string t0 t1 w K):Calls prog 335 #[t0,t1] w K:=cw Tryz.func335 rfl rfl (by kernel_rfl) h
def S_inflate_must_foliant_code_Table(t0 t1 w)(K:KT):=
 dx (mEq .eql 30 (.tmp 5) (.const (iN 0)) t1 (iN 0)) w K fun t6 w=>cx 272 #[t6,t1] w K fun t8 w=>K (.returned t0) w
theorem S_inflate_must_foliant_code_Table_ok{t0 t1 w K}(h:S_inflate_must_foliant_code_Table t0 t1 w K):Calls prog 338 #[t0,t1] w K:=cw Tryz.func338 rfl rfl (by kernel_rfl) h
def S_inflate_flate_bits(t0 t1 w)(K:KT):=
 dx (mNil t0) w K fun t6 w=>dx (mFA 278 t6 0) w K fun t7 w=>dx (mLoad 275 t7) w K fun t8 w=>cx 332 #[t8,t1] w K fun t10 w=>dx (mExt t10 0) w K fun t11 w=>dx (mExt t10 1) w K fun t12 w=>cx 331 #[t11,t12] w K fun t13 w=>K (.returned t13) w
theorem S_inflate_flate_bits_ok{t0 t1 w K}(h:S_inflate_flate_bits t0 t1 w K):Calls prog 305 #[t0,t1] w K:=cw Tryz.func305 rfl rfl (by kernel_rfl) h
def S_inflate_flate_room(t0 t1 w)(K:KT):=
 QuietX w (fun C1=>QDo prog C1 (mNil t0) fun t5=>QDo prog C1 (mFA 278 t5 1) fun t6=>QDo prog C1 (mLoad 53 t6) fun t7=>QDo prog C1 (mB .len #[53] 3 #[false] #[t7]) fun t8=>QDo prog C1 (mBin .add 3 t8 t1) fun t10=>QDo prog C1 (mNil t0) fun t12=>QDo prog C1 (mFA 278 t12 2) fun t13=>QDo prog C1 (mLoad 3 t13) fun t14=>QDo prog C1 (mBin .leq 3 t10 t14) fun t15=>
 ∀w,C1 w →
 cx 272 #[t15,(iN 5)] w K fun t16 w=>K (.returned (.tuple #[])) w)
theorem S_inflate_flate_room_ok{t0 t1 w K}(h:S_inflate_flate_room t0 t1 w K):Calls prog 334 #[t0,t1] w K:=cw Tryz.func334 rfl rfl (by kernel_rfl) h
def S_inflate_flate_stored(t0 w)(K:KT):=
 dx (mNil t0) w K fun t4 w=>dx (mFA 278 t4 0) w K fun t5 w=>dx (mLoad 275 t5) w K fun t6 w=>cx 333 #[t6] w K fun t7 w=>cx 305 #[t0,(iN 16)] w K fun t9 w=>cx 305 #[t0,(iN 16)] w K fun t11 w=>dx (mBin .sub 3 (iN 65535) t9) w K fun t13 w=>dx (mEq .eql 3 (.tmp 11) (.tmp 13) t11 t13) w K fun t14 w=>cx 272 #[t14,(iN 3)] w K fun t15 w=>cx 334 #[t0,t9] w K fun t18 w=>HeldX w (fun S1 w=>HDo prog (fun _=>True) (mNil t0) fun t21=>HDo prog (fun _=>True) (mFA 278 t21 1) fun t22=>HDo prog S1 (mLoad 53 t22) fun t23=>HDo prog (fun _=>True) (mNil t0) fun t25=>HDo prog (fun _=>True) (mFA 278 t25 0) fun t26=>HDo prog S1 (mLoad 275 t26) fun t27=>CallX prog 336 #[t27,t9] w (pm1 (pm1 (pm1 (pm1 (pm1 (pm1 (pm1 (pm1 (pm1 (pm1 (pm1 (pm1 (pm1 (pm1 (pk K))))))))))))))) fun t29 w=>S1 w∧(HDo prog (fun _=>True) (mExt t29 0) fun t30=>HDo prog (fun _=>True) (mExt t29 1) fun t31=>CallX prog 335 #[t30,t31] w (pm1 (pm1 (pm1 (pm1 (pm1 (pm1 (pm1 (pm1 (pm1 (pm1 (pm1 (pm1 (pm1 (pm1 (pk K))))))))))))))) fun t32 w=>S1 w∧(DoX prog (mB .append #[53,9] 53 #[false,false] #[t23,t32]) w (pm1 (pm1 (pm1 (pm1 (pm1 (pm1 (pm1 (pm1 (pm1 (pm1 (pm1 (pm1 (pm1 (pm1 (pk K))))))))))))))) fun t33 w=>S1 w∧(HDo prog (fun _=>True) (mNil t0) fun t34=>HDo prog (fun _=>True) (mFA 278 t34 1) fun t35=>DoX prog (mStore 53 t35 t33) w (pm1 (pm1 (pm1 (pm1 (pm1 (pm1 (pm1 (pm1 (pm1 (pm1 (pm1 (pm1 (pm1 (pm1 (pk K))))))))))))))) fun _ w=>(K (.returned (.tuple #[])) w)))))
theorem S_inflate_flate_stored_ok{t0 w K}(h:S_inflate_flate_stored t0 w K):Calls prog 306 #[t0] w K:=cw Tryz.func306 rfl rfl (by kernel_rfl) h
def S_inflate_flate_fixed(t0 w)(K:KT):=
 cx 294 #[] w K fun t5 w=>dx (mExt t5 0) w K fun t6 w=>dx (mExt t5 1) w K fun t7 w=>cx 295 #[t6] w K fun t10 w=>dx (mExt t10 0) w K fun t11 w=>dx (mExt t10 1) w K fun t12 w=>cx 338 #[t11,t12] w K fun t13 w=>cx 295 #[t7] w K fun t15 w=>dx (mExt t15 0) w K fun t16 w=>dx (mExt t15 1) w K fun t17 w=>cx 338 #[t16,t17] w K fun t18 w=>cx 337 #[t0,t13,t18] w K fun t19 w=>K (.returned (.tuple #[])) w
theorem S_inflate_flate_fixed_ok{t0 w K}(h:S_inflate_flate_fixed t0 w K):Calls prog 307 #[t0] w K:=cw Tryz.func307 rfl rfl (by kernel_rfl) h
def S_inflate_flate_dynamic_0(t0 t2 t3 t4 t23 t24 t25 w)(N1:JT)(K:KT):=
 dx (mBin .lss 3 t25 t24) w K fun t26 w=>IfX t26 (dx (mIA 123 t23 t25) w K fun t27 w=>dx (mLoad 3 t27) w K fun t28 w=>cx 305 #[t0,(iN 3)] w K fun t31 w=>dx (mIA 308 t4 t28) w K fun t32 w=>dx (mStore 3 t32 t31) w K fun _ w=>dx (mBin .add 3 t25 (iN 1)) w K fun t33 w=>N1 [t33] w) (dx (mSlice 308 t4 none none none) w K fun t35 w=>cx 295 #[t35] w K fun t36 w=>dx (mExt t36 0) w K fun t37 w=>dx (mExt t36 1) w K fun t38 w=>cx 338 #[t37,t38] w K fun t39 w=>dx (mBin .add 3 t2 t3) w K fun t42 w=>cx 339 #[t0,t39,t42] w K fun t43 w=>dx (mIA 123 t43 (iN 256)) w K fun t45 w=>dx (mLoad 3 t45) w K fun t46 w=>dx (mBin .gtr 3 t46 (iN 0)) w K fun t47 w=>cx 272 #[t47,(iN 13)] w K fun t48 w=>HeldX w (fun S2 w=>HDo prog S2 (mSlice 123 t43 none (some t2) none) fun t52=>HDo prog S2 (mSlice 123 t43 (some t2) none none) fun t59=>CallX prog 295 #[t52] w (pm1 (pm1 (pm1 (pm1 (pm1 (pm1 (pm1 (pm1 (pm1 (pm1 (pm1 (pk K)))))))))))) fun t53 w=>S2 w∧(HDo prog S2 (mExt t53 0) fun t54=>HDo prog S2 (mExt t53 1) fun t55=>CallX prog 338 #[t54,t55] w (pm1 (pm1 (pm1 (pm1 (pm1 (pm1 (pm1 (pm1 (pm1 (pm1 (pm1 (pk K)))))))))))) fun t56 w=>S2 w∧(CallX prog 295 #[t59] w (pm1 (pm1 (pm1 (pm1 (pm1 (pm1 (pm1 (pm1 (pm1 (pm1 (pm1 (pk K)))))))))))) fun t60 w=>S2 w∧(HDo prog S2 (mExt t60 0) fun t61=>HDo prog S2 (mExt t60 1) fun t62=>CallX prog 338 #[t61,t62] w (pm1 (pm1 (pm1 (pm1 (pm1 (pm1 (pm1 (pm1 (pm1 (pm1 (pm1 (pk K)))))))))))) fun t63 w=>S2 w∧(CallX prog 337 #[t0,t56,t63] w (pm1 (pm1 (pm1 (pm1 (pm1 (pm1 (pm1 (pm1 (pm1 (pm1 (pm1 (pk K)))))))))))) fun t64 w=>S2 w∧(K (.returned (.tuple #[])) w)))))))
def S_inflate_flate_dynamic(t0 w)(K:KT):=
 cx 305 #[t0,(iN 5)] w K fun t9 w=>dx (mBin .add 3 t9 (iN 257)) w K fun t10 w=>dx (mBin .leq 3 t10 (iN 286)) w K fun t12 w=>cx 272 #[t12,(iN 3)] w K fun t13 w=>cx 305 #[t0,(iN 5)] w K fun t15 w=>dx (mBin .add 3 t15 (iN 1)) w K fun t16 w=>dx (mBin .leq 3 t16 (iN 30)) w K fun t18 w=>cx 272 #[t18,(iN 3)] w K fun t19 w=>dx (mAlloc 308) w K fun t4 w=>cx 305 #[t0,(iN 4)] w K fun t21 w=>dx (mBin .add 3 t21 (iN 4)) w K fun t22 w=>dx (mSlice 308 (.pointer (some ⟨2,0,none⟩)) none (some t22) none) w K fun t23 w=>dx (mB .len #[123] 3 #[false] #[t23]) w K fun t24 w=>LoopX [(iN 0)] w (fun vs1 w N1=>∀_:Sg,S_inflate_flate_dynamic_0 t0 t10 t16 t4 t23 t24 (vs1.getD 0 undef) w N1 K)
theorem S_inflate_flate_dynamic_eq (t0:Value)(w:World)(K:Ending→World→Prop):wpX prog 65 [] [(6,[25])] none (bodyOf Tryz.f308) (topQ prog [] K) (startX [t0]) [] w=S_inflate_flate_dynamic t0 w K:=by kernel_rfl
theorem S_inflate_flate_dynamic_ok {t0:Value}{w:World}{K:Ending→World→Prop}(h:S_inflate_flate_dynamic t0 w K):Calls prog 308 #[t0] w K:=
 calls_of_wpX Tryz.func308 rfl rfl rfl rfl (Eq.mpr (S_inflate_flate_dynamic_eq t0 w K) h)
def S_inflate_flate_lengths_1(t0 t2 t7 t9 t11 w)(N1:JT)(K:KT):=
 HeldX w (fun S3 w=>HDo prog S3 (mFA 363 t9 0) fun t52=>HDo prog S3 (mLoad 3 t52) fun t53=>HDo prog S3 (mFA 363 t9 1) fun t55=>HDo prog S3 (mLoad 3 t55) fun t56=>CallX prog 305 #[t0,t56] w (pm1 (pm1 (pm1 (pm1 (pm1 (pm1 (pm1 (pk K)))))))) fun t57 w=>S3 w∧(HDo prog S3 (mBin .add 3 t53 t57) fun t58=>dx (mB .len #[123] 3 #[false] #[t7]) w K fun t60 w=>dx (mBin .add 3 t60 t58) w K fun t62 w=>dx (mBin .leq 3 t62 t2) w K fun t64 w=>cx 272 #[t64,(iN 3)] w K fun t65 w=>dx (mBuildS 123 1 #[(0,t11)]) w K fun t68 w=>cx 320 #[t68,t58] w K fun t70 w=>dx (mB .append #[123,123] 123 #[false,false] #[t7,t70]) w K fun t71 w=>N1 [t71] w))
def S_inflate_flate_lengths_0(t0 t1 t2 t7 w)(N1:JT)(K:KT):=
 dx (mB .len #[123] 3 #[false] #[t7]) w K fun t16 w=>dx (mBin .lss 3 t16 t2) w K fun t18 w=>IfX t18 (dx (mNil t0) w K fun t21 w=>dx (mFA 278 t21 0) w K fun t22 w=>dx (mLoad 275 t22) w K fun t23 w=>cx 347 #[t1,t23] w K fun t24 w=>dx (mExt t24 0) w K fun t25 w=>dx (mExt t24 1) w K fun t26 w=>cx 331 #[t25,t26] w K fun t27 w=>dx (mLoad 365 (.pointer (some ⟨3,0,none⟩))) w K fun t29 w=>dx (mLook 365 t29 t27 true) w K fun t31 w=>dx (mExt t31 0) w K fun t32 w=>dx (mExt t31 1) w K fun t33 w=>dx (mAlloc 363) w K fun t9 w=>dx (mStore 363 t9 t32) w K fun _ w=>dx (mUn .not t33) w K fun t35 w=>IfX t35 (dx (mBuildS 123 1 #[(0,t27)]) w K fun t38 w=>dx (mB .append #[123,123] 123 #[false,false] #[t7,t38]) w K fun t39 w=>N1 [t39] w) (JoinX (fun J2=>dx (mEq .eql 3 (.tmp 40) (.const (iN 16)) t27 (iN 16)) w K fun t41 w=>IfX t41 (dx (mB .len #[123] 3 #[false] #[t7]) w K fun t43 w=>dx (mBin .gtr 3 t43 (iN 0)) w K fun t44 w=>cx 272 #[t44,(iN 3)] w K fun t45 w=>dx (mB .len #[123] 3 #[false] #[t7]) w K fun t48 w=>dx (mBin .sub 3 t48 (iN 1)) w K fun t49 w=>dx (mIA 123 t7 t49) w K fun t50 w=>dx (mLoad 3 t50) w K fun t51 w=>J2 [t51] w) (J2 [(iN 0)] w)) (fun vs2 w=>∀_:Sg,S_inflate_flate_lengths_1 t0 t2 t7 t9 (vs2.getD 0 undef) w N1 K))) (K (.returned t7) w)
def S_inflate_flate_lengths(t0 t1 t2 w)(K:KT):=
 dx (mMake 123 (iN 0) t2) w K fun t14 w=>LoopX [t14] w (fun vs1 w N1=>∀_:Sg,S_inflate_flate_lengths_0 t0 t1 t2 (vs1.getD 0 undef) w N1 K)
theorem S_inflate_flate_lengths_eq (t0 t1 t2:Value)(w:World)(K:Ending→World→Prop):wpX prog 73 [(11,[11])] [(2,[7])] none (bodyOf Tryz.f339) (topQ prog [.tmp 6] K) (startX [t0,t1,t2]) [] w=S_inflate_flate_lengths t0 t1 t2 w K:=by kernel_rfl
theorem S_inflate_flate_lengths_ok {t0 t1 t2:Value}{w:World}{K:Ending→World→Prop}(h:S_inflate_flate_lengths t0 t1 t2 w K):Calls prog 339 #[t0,t1,t2] w K:=
 calls_of_wpX Tryz.func339 rfl rfl rfl rfl (Eq.mpr (S_inflate_flate_lengths_eq t0 t1 t2 w K) h)
def S_inflate_flate_coded_0(t0 t1 t2 w)(N1:JT)(K:KT):=
 dx (mNil t0) w K fun t9 w=>dx (mFA 278 t9 0) w K fun t10 w=>dx (mLoad 275 t10) w K fun t11 w=>cx 347 #[t1,t11] w K fun t12 w=>dx (mExt t12 0) w K fun t13 w=>dx (mExt t12 1) w K fun t14 w=>cx 331 #[t13,t14] w K fun t15 w=>dx (mBin .lss 3 t15 (iN 256)) w K fun t22 w=>IfX t22 (cx 334 #[t0,(iN 1)] w K fun t24 w=>dx (mNil t0) w K fun t27 w=>dx (mFA 278 t27 1) w K fun t28 w=>dx (mLoad 53 t28) w K fun t29 w=>dx (mConv 3 5 t15) w K fun t31 w=>dx (mBuildS 53 1 #[(0,t31)]) w K fun t32 w=>dx (mB .append #[53,53] 53 #[false,false] #[t29,t32]) w K fun t33 w=>dx (mNil t0) w K fun t34 w=>dx (mFA 278 t34 1) w K fun t35 w=>dx (mStore 53 t35 t33) w K fun _ w=>N1 [] w) (dx (mEq .eql 3 (.tmp 37) (.const (iN 256)) t15 (iN 256)) w K fun t38 w=>IfX t38 (K (.returned (.tuple #[])) w) (cx 348 #[t0,t15,t2] w K fun t19 w=>N1 [] w))
def S_inflate_flate_coded(t0 t1 t2 w)(K:KT):=
 LoopX [] w (fun vs1 w N1=>∀_:Sg,S_inflate_flate_coded_0 t0 t1 t2 w N1 K)
theorem S_inflate_flate_coded_eq (t0 t1 t2:Value)(w:World)(K:Ending→World→Prop):wpX prog 39 [] [(0,[])] none (bodyOf Tryz.f337) (topQ prog [] K) (startX [t0,t1,t2]) [] w=S_inflate_flate_coded t0 t1 t2 w K:=by kernel_rfl
theorem S_inflate_flate_coded_ok {t0 t1 t2:Value}{w:World}{K:Ending→World→Prop}(h:S_inflate_flate_coded t0 t1 t2 w K):Calls prog 337 #[t0,t1,t2] w K:=
 calls_of_wpX Tryz.func337 rfl rfl rfl rfl (Eq.mpr (S_inflate_flate_coded_eq t0 t1 t2 w K) h)
def S_inflate_flate_copied_0(t0 t8 t56 t57 w)(N1:JT)(K:KT):=
 dx (mBin .lss 3 t57 t56) w K fun t58 w=>IfX t58 (HeldX w (fun S2 w=>HDo prog (fun _=>True) (mNil t0) fun t61=>HDo prog (fun _=>True) (mFA 278 t61 1) fun t62=>HDo prog S2 (mLoad 53 t62) fun t63=>HDo prog (fun _=>True) (mNil t0) fun t65=>HDo prog (fun _=>True) (mFA 278 t65 1) fun t66=>HDo prog S2 (mLoad 53 t66) fun t67=>HDo prog (fun _=>True) (mNil t0) fun t69=>HDo prog (fun _=>True) (mFA 278 t69 1) fun t70=>HDo prog S2 (mLoad 53 t70) fun t71=>HDo prog (fun _=>True) (mB .len #[53] 3 #[false] #[t71]) fun t72=>HDo prog (fun _=>True) (mBin .sub 3 t72 t8) fun t74=>HDo prog (fun _=>True) (mIA 53 t67 t74) fun t75=>HDo prog S2 (mLoad 5 t75) fun t76=>DoX prog (mBuildS 53 1 #[(0,t76)]) w (pm1 (pm1 (pm1 (pm1 (pm1 (pm1 (pm1 (pm1 (pm1 (pm1 (pm1 (pm1 (pm1 (pm1 (pm1 (pm1 (pm1 (pm1 (pm1 (pm1 (pk K))))))))))))))))))))) fun t77 w=>S2 w∧(DoX prog (mB .append #[53,53] 53 #[false,false] #[t63,t77]) w (pm1 (pm1 (pm1 (pm1 (pm1 (pm1 (pm1 (pm1 (pm1 (pm1 (pm1 (pm1 (pm1 (pm1 (pm1 (pm1 (pm1 (pm1 (pm1 (pm1 (pk K))))))))))))))))))))) fun t78 w=>S2 w∧(HDo prog (fun _=>True) (mNil t0) fun t79=>HDo prog (fun _=>True) (mFA 278 t79 1) fun t80=>DoX prog (mStore 53 t80 t78) w (pm1 (pm1 (pm1 (pm1 (pm1 (pm1 (pm1 (pm1 (pm1 (pm1 (pm1 (pm1 (pm1 (pm1 (pm1 (pm1 (pm1 (pm1 (pm1 (pm1 (pk K))))))))))))))))))))) fun _ w=>(dx (mBin .add 3 t57 (iN 1)) w K fun t81 w=>N1 [t81] w))))) (K (.returned (.tuple #[])) w)
def S_inflate_flate_copied(t0 t1 t2 w)(K:KT):=
 dx (mBin .leq 3 t1 (iN 285)) w K fun t10 w=>cx 272 #[t10,(iN 13)] w K fun t11 w=>dx (mBin .sub 3 t1 (iN 257)) w K fun t15 w=>cx 357 #[t15] w K fun t16 w=>dx (mFld 371 t16 1) w K fun t17 w=>cx 305 #[t0,t17] w K fun t18 w=>cx 356 #[t1,t18] w K fun t19 w=>dx (mExt t19 0) w K fun t20 w=>dx (mExt t19 1) w K fun t21 w=>cx 331 #[t20,t21] w K fun t22 w=>dx (mNil t0) w K fun t25 w=>dx (mFA 278 t25 0) w K fun t26 w=>dx (mLoad 275 t26) w K fun t27 w=>cx 347 #[t2,t27] w K fun t28 w=>dx (mExt t28 0) w K fun t29 w=>dx (mExt t28 1) w K fun t30 w=>cx 331 #[t29,t30] w K fun t31 w=>dx (mBin .leq 3 t31 (iN 29)) w K fun t33 w=>cx 272 #[t33,(iN 13)] w K fun t34 w=>cx 359 #[t31] w K fun t38 w=>dx (mFld 371 t38 1) w K fun t39 w=>cx 305 #[t0,t39] w K fun t40 w=>cx 358 #[t31,t40] w K fun t41 w=>dx (mExt t41 0) w K fun t42 w=>dx (mExt t41 1) w K fun t43 w=>cx 331 #[t42,t43] w K fun t44 w=>dx (mNil t0) w K fun t47 w=>dx (mFA 278 t47 1) w K fun t48 w=>dx (mLoad 53 t48) w K fun t49 w=>dx (mB .len #[53] 3 #[false] #[t49]) w K fun t50 w=>dx (mBin .leq 3 t44 t50) w K fun t51 w=>cx 272 #[t51,(iN 14)] w K fun t52 w=>cx 334 #[t0,t22] w K fun t55 w=>LoopX [(iN 0)] w (fun vs1 w N1=>∀_:Sg,S_inflate_flate_copied_0 t0 t44 t22 (vs1.getD 0 undef) w N1 K)
theorem S_inflate_flate_copied_eq (t0 t1 t2:Value)(w:World)(K:Ending→World→Prop):wpX prog 82 [] [(8,[57])] none (bodyOf Tryz.f348) (topQ prog [] K) (startX [t0,t1,t2]) [] w=S_inflate_flate_copied t0 t1 t2 w K:=by kernel_rfl
theorem S_inflate_flate_copied_ok {t0 t1 t2:Value}{w:World}{K:Ending→World→Prop}(h:S_inflate_flate_copied t0 t1 t2 w K):Calls prog 348 #[t0,t1,t2] w K:=
 calls_of_wpX Tryz.func348 rfl rfl rfl rfl (Eq.mpr (S_inflate_flate_copied_eq t0 t1 t2 w K) h)
def S_inflate_flate_block_0(t3 w)(K:KT):=
 K (.returned t3) w
def S_inflate_flate_block(t0 w)(K:KT):=
 cx 305 #[t0,(iN 1)] w K fun t5 w=>dx (mEq .eql 3 (.tmp 5) (.const (iN 1)) t5 (iN 1)) w K fun t6 w=>JoinX (fun J1=>cx 305 #[t0,(iN 2)] w K fun t8 w=>dx (mEq .eql 3 (.tmp 8) (.const (iN 0)) t8 (iN 0)) w K fun t11 w=>IfX t11 (cx 306 #[t0] w K fun t13 w=>J1 [] w) (dx (mEq .eql 3 (.tmp 8) (.const (iN 1)) t8 (iN 1)) w K fun t15 w=>IfX t15 (cx 307 #[t0] w K fun t17 w=>J1 [] w) (dx (mEq .eql 3 (.tmp 8) (.const (iN 2)) t8 (iN 2)) w K fun t19 w=>IfX t19 (cx 308 #[t0] w K fun t21 w=>J1 [] w) (cx 272 #[(.bool false),(iN 3)] w K fun t9 w=>J1 [] w)))) (fun vs1 w=>∀_:Sg,S_inflate_flate_block_0 t6 w K)
theorem S_inflate_flate_block_eq (t0:Value)(w:World)(K:Ending→World→Prop):wpX prog 23 [(10,[])] [] none (bodyOf Tryz.f274) (topQ prog [.tmp 2] K) (startX [t0]) [] w=S_inflate_flate_block t0 w K:=by kernel_rfl
theorem S_inflate_flate_block_ok {t0:Value}{w:World}{K:Ending→World→Prop}(h:S_inflate_flate_block t0 w K):Calls prog 274 #[t0] w K:=
 calls_of_wpX Tryz.func274 rfl rfl rfl rfl (Eq.mpr (S_inflate_flate_block_eq t0 w K) h)
def S_inflate_Size(t0 t1 w)(K:KT):=
 dx (mBin .lss 3 t0 (iN 257)) w K fun t7 w=>efx t7 t0 w fun t9 w=>gfx t7 (mBin .gtr 3 t9 (iN 285)) w K fun t10 w=>dx (mPick t7 (.bool true) t10) w K fun t11 w=>IfX t11 (K (.returned (.tuple #[(iN 0),(iN 1)])) w) (dx (mBin .sub 3 t0 (iN 257)) w K fun t13 w=>cx 357 #[t13] w K fun t14 w=>cx 363 #[t14,t1] w K fun t16 w=>dx (mExt t16 0) w K fun t17 w=>dx (mExt t16 1) w K fun t18 w=>K (.returned (.tuple #[t17,t18])) w)
theorem S_inflate_Size_ok{t0 t1 w K}(h:S_inflate_Size t0 t1 w K):Calls prog 356 #[t0,t1] w K:=cw Tryz.func356 rfl rfl (by kernel_rfl) h
def S_inflate_size(t0 w)(K:KT):=
 dx (mAlloc 371) w K fun t2 w=>dx (mEq .eql 3 (.tmp 3) (.const (iN 28)) t0 (iN 28)) w K fun t4 w=>IfX t4 (dx (mBuild 371 #[(0,(iN 258))]) w K fun t5 w=>dx (mStore 371 t2 t5) w K fun _ w=>RetX prog [.cell t2 371] w K) (cx 364 #[t0,(iN 3),(iN 4)] w K fun t7 w=>dx (mStore 371 t2 t7) w K fun _ w=>RetX prog [.cell t2 371] w K)
theorem S_inflate_size_ok{t0 w K}(h:S_inflate_size t0 w K):Calls prog 357 #[t0] w K:=cw Tryz.func357 rfl rfl (by kernel_rfl) h
def S_inflate_Far(t0 t1 w)(K:KT):=
 dx (mBin .lss 3 t0 (iN 0)) w K fun t7 w=>efx t7 t0 w fun t9 w=>gfx t7 (mBin .gtr 3 t9 (iN 29)) w K fun t10 w=>dx (mPick t7 (.bool true) t10) w K fun t11 w=>IfX t11 (K (.returned (.tuple #[(iN 0),(iN 1)])) w) (cx 359 #[t0] w K fun t13 w=>cx 363 #[t13,t1] w K fun t15 w=>dx (mExt t15 0) w K fun t16 w=>dx (mExt t15 1) w K fun t17 w=>K (.returned (.tuple #[t16,t17])) w)
theorem S_inflate_Far_ok{t0 t1 w K}(h:S_inflate_Far t0 t1 w K):Calls prog 358 #[t0,t1] w K:=cw Tryz.func358 rfl rfl (by kernel_rfl) h
def S_inflate_far(t0 w)(K:KT):=
 dx (mAlloc 371) w K fun t2 w=>cx 364 #[t0,(iN 1),(iN 2)] w K fun t4 w=>dx (mStore 371 t2 t4) w K fun _ w=>RetX prog [.cell t2 371] w K
theorem S_inflate_far_ok{t0 w K}(h:S_inflate_far t0 w K):Calls prog 359 #[t0] w K:=cw Tryz.func359 rfl rfl (by kernel_rfl) h
def S_inflate_spread_0(t0 t1 t2 t6 t8 t9 w)(N1:JT)(K:KT):=
 dx (mBin .lss 3 t9 t8) w K fun t10 w=>IfX t10 (dx (mBin .quo 3 t9 t2) w K fun t15 w=>dx (mBin .sub 3 t15 (iN 1)) w K fun t16 w=>dx (mB .max #[3,3] 3 #[true,false] #[(iN 0),t16]) w K fun t17 w=>dx (mBin .shl 3 (iN 1) t17) w K fun t18 w=>dx (mBin .add 3 t1 t18) w K fun t19 w=>dx (mBin .add 3 t9 (iN 1)) w K fun t20 w=>N1 [t19,t20] w) (dx (mBin .quo 3 t0 t2) w K fun t24 w=>dx (mBin .sub 3 t24 (iN 1)) w K fun t25 w=>dx (mB .max #[3,3] 3 #[true,false] #[(iN 0),t25]) w K fun t26 w=>dx (mBuild 371 #[(0,t1),(1,t26)]) w K fun t27 w=>dx (mStore 371 t6 t27) w K fun _ w=>RetX prog [.cell t6 371] w K)
def S_inflate_spread(t0 t1 t2 w)(K:KT):=
 dx (mAlloc 371) w K fun t6 w=>LoopX [t1,(iN 0)] w (fun vs1 w N1=>∀_:Sg,S_inflate_spread_0 t0 (vs1.getD 0 undef) t2 t6 t0 (vs1.getD 1 undef) w N1 K)
theorem S_inflate_spread_eq (t0 t1 t2:Value)(w:World)(K:Ending→World→Prop):wpX prog 28 [] [(2,[1,9])] none (bodyOf Tryz.f364) (topQ prog [.cell 6 371] K) (startX [t0,t1,t2]) [] w=S_inflate_spread t0 t1 t2 w K:=by kernel_rfl
theorem S_inflate_spread_ok {t0 t1 t2:Value}{w:World}{K:Ending→World→Prop}(h:S_inflate_spread t0 t1 t2 w K):Calls prog 364 #[t0,t1,t2] w K:=
 calls_of_wpX Tryz.func364 rfl rfl rfl rfl (Eq.mpr (S_inflate_spread_eq t0 t1 t2 w K) h)
def S_inflate_span_told(t0 t1 w)(K:KT):=
 dx (mBox 371 t0) w K fun t2 w=>dx (mBin .lss 3 t1 (iN 0)) w K fun t7 w=>efx t7 t1 w fun t9 w=>gfx t7 (mFA 371 t2 1) w K fun t10 w=>gfx t7 (mLoad 3 t10) w K fun t11 w=>gfx t7 (mBin .shl 3 (iN 1) t11) w K fun t12 w=>gfx t7 (mBin .geq 3 t9 t12) w K fun t13 w=>dx (mPick t7 (.bool true) t13) w K fun t14 w=>IfX t14 (K (.returned (.tuple #[(iN 0),(iN 1)])) w) (dx (mFA 371 t2 0) w K fun t15 w=>dx (mLoad 3 t15) w K fun t16 w=>dx (mBin .add 3 t16 t1) w K fun t18 w=>K (.returned (.tuple #[t18,(iN 0)])) w)
theorem S_inflate_span_told_ok{t0 t1 w K}(h:S_inflate_span_told t0 t1 w K):Calls prog 363 #[t0,t1] w K:=cw Tryz.func363 rfl rfl (by kernel_rfl) h
def S_inflate_Fixed_0(t0 t8 t9 w)(N1:JT)(K:KT):=
 dx (mBin .lss 3 t9 (iN 4)) w K fun t10 w=>IfX t10 (dx (mIx 331 t8 t9) w K fun t11 w=>dx (mAlloc 330) w K fun t3 w=>dx (mStore 330 t3 t11) w K fun _ w=>dx (mFA 330 t3 1) w K fun t13 w=>dx (mLoad 3 t13) w K fun t14 w=>dx (mBuildS 123 1 #[(0,t14)]) w K fun t15 w=>dx (mFA 330 t3 0) w K fun t16 w=>dx (mLoad 3 t16) w K fun t17 w=>cx 320 #[t15,t17] w K fun t18 w=>dx (mB .append #[123,123] 123 #[false,false] #[t0,t18]) w K fun t19 w=>dx (mBin .add 3 t9 (iN 1)) w K fun t20 w=>N1 [t19,t20] w) (dx (mBuildS 123 1 #[(0,(iN 5))]) w K fun t22 w=>cx 320 #[t22,(iN 32)] w K fun t23 w=>K (.returned (.tuple #[t0,t23])) w)
def S_inflate_Fixed(w)(K:KT):=
 dx (mBuild 330 #[(0,(iN 144)),(1,(iN 8))]) w K fun t4 w=>dx (mBuild 330 #[(0,(iN 112)),(1,(iN 9))]) w K fun t5 w=>dx (mBuild 330 #[(0,(iN 24)),(1,(iN 7))]) w K fun t6 w=>dx (mBuild 330 #[(0,(iN 8)),(1,(iN 8))]) w K fun t7 w=>dx (mBuild 331 #[(0,t4),(1,t5),(2,t6),(3,t7)]) w K fun t8 w=>LoopX [(.slice none 0 0),(iN 0)] w (fun vs1 w N1=>∀_:Sg,S_inflate_Fixed_0 (vs1.getD 0 undef) t8 (vs1.getD 1 undef) w N1 K)
theorem S_inflate_Fixed_eq (w:World)(K:Ending→World→Prop):wpX prog 24 [] [(2,[0,9])] none (bodyOf Tryz.f294) (topQ prog [.tmp 0,.tmp 1] K) (startX []) [] w=S_inflate_Fixed w K:=by kernel_rfl
theorem S_inflate_Fixed_ok {w:World}{K:Ending→World→Prop}(h:S_inflate_Fixed w K):Calls prog 294 #[] w K:=
 calls_of_wpX Tryz.func294 rfl rfl rfl rfl (Eq.mpr (S_inflate_Fixed_eq w K) h)
end
section
open Eng Go.RowKit
theorem nfI:notIface prog 273=true:=by kernel_rfl
def upI (e:Int):PanicEntry:={ v:=.iface 273 (.agg #[.int .i64 e]),recovered:=false }
theorem ineed_t (e:Int)(w:World):Ret prog 272 #[.bool true,.int .i64 e] w (fun v w'=>v=.tuple #[]∧w=w'):=by
 refine ret_of fun K hK=>S_inflate_need_ok ?_;unfold S_inflate_need dx;simp only[rs,Bool.not_true,i_f];exact hK _ _ ⟨rfl,rfl⟩
theorem ineed_f (e:Int)(w:World):Pan prog 272 #[.bool false,.int .i64 e] w (fun c w'=>c=[upI e]∧w=w'):=by
 refine pan_of fun K hK=>S_inflate_need_ok ?_;unfold S_inflate_need dx;simp only[rs,Bool.not_false,i_t];have hb:∀{PK:PKT} {K:VWP},DoX prog (mBuild 273 #[(0,.int .i64 e)]) w PK K=K (.agg #[.int .i64 e]) w:=do_eq (by kernel_rfl);rw[hb,m_iface nfI,m_panic];exact hK _ _ ⟨rfl,rfl⟩
section
variable {w:World}{PK:PKT}{K:VWP}{S:Nat→Prop}{w0:World}{L:List Ent}
theorem c_ineed {q:Bool}{e:Int}(kt:q=true→K (.tuple #[]) w)(kf:q=false→PK [upI e] w):CallX prog 272 #[.bool q,.int .i64 e] w PK K:=by
 cases q with
|true=>exact c_eq (ineed_t e w) (kt rfl)
|false=>exact c_pan (ineed_f e w) fun c w' ⟨hc,hw⟩=>by subst hc;subst hw;exact kf rfl
theorem c_imustI {n e:Int}(kr:e=0→K (.int .i64 n) w)(kp:e≠0→PK [upI e] w):CallX prog 331 #[.int .i64 n,.int .i64 e] w PK K:=by
 refine⟨S_inflate_must_int_ok ?_⟩;unfold S_inflate_must_int iN dx cx;simp only[rs];exact c_ineed (fun h=>kr (of_decide_eq_true h)) fun h=>kp (of_decide_eq_false h)
theorem c_imustS {s:List UInt8}{e:Int}(kr:e=0→K (.string ⟨s.toArray⟩) w)(kp:e≠0→PK [upI e] w):CallX prog 335 #[.string ⟨s.toArray⟩,.int .i64 e] w PK K:=by
 refine⟨S_inflate_must_string_ok ?_⟩;unfold S_inflate_must_string iN dx cx;simp only[rs];exact c_ineed (fun h=>kr (of_decide_eq_true h)) fun h=>kp (of_decide_eq_false h)
theorem c_align {b:Nat}{s:List UInt8}{way:Int}{p:Nat}(j:Nat)(ho:OwnS S w0 w L)(hj:L[j]?=some (bqE b s way p))(hp:p≤8*s.length)(hs:s.length≤1000000000)
  (k:∀W,OwnS S w0 W (L.set j (bqE b s 0 ((p+7) / 8*8)))→K (.tuple #[]) W):CallX prog 333 #[.pointer (some ⟨b,0,none⟩)] w PK K:=by
 have hjl:j < L.length:=(List.getElem?_eq_some_iff.1 hj).1;refine c_any (S_bit_Reader_Align_ok (K:=RetK fun v W=>v=.tuple #[]∧OwnS S w0 W (L.set j (bqE b s 0 ((p+7) / 8*8)))) ?_) (fun e W ⟨v,he,hv,ho⟩=>by subst he;subst hv;exact k W ho);unfold S_bit_Reader_Align iN dx;rw[e_rdnil,i_f];refine join fun J hJ=>?_;have fin:∀(W:World) (u a:Int),a=(((p+7) / 8:Nat):Int)→OwnS S w0 W (L.set j (rqE b s way u a))→J [] W:=by
  intro W u a ha ho;refine hJ _ _ fun _=>?_;unfold S_bit_Reader_Align_0 dx;have hj2:(L.set j (rqE b s way u a))[j]?=some (rqE b s way u a):=by rw[List.getElem?_set_self hjl]
  have mb:∀{PK:PKT} {K:VWP},DoX prog (mBuild 315 #[]) W PK K=K (.agg #[.int .i64 0,.int .i64 0]) W:=do_eq (by kernel_rfl);rw[mb,m_nilP,fa_rd0];refine o_putAt j ho hj2 (new:=[.int .i64 0,.int .i64 0]) szSd (by decide) (by show 0+2≤4;omega) fun w2 ho=>?_;rw[List.set_set] at ho;refine retK ⟨rfl,?_⟩;subst ha;have e:bqE b s 0 ((p+7) / 8*8)=rqE b s 0 0 (((p+7) / 8:Nat):Int):=by
   unfold rqE bqE bqC;rw[show (p+7) / 8*8 % 8=0 by omega,show (p+7) / 8*8 / 8=(p+7) / 8 by omega];rfl
  rw[e];exact ho
 rw[m_nilP,fa_rd0,fa_sd1,bq_used ho j hj];simp only[rs,m_nilP];by_cases h0:(0:Int) < ((p % 8:Nat):Int)
 ·simp only[h0,decide_true,i_t,rs,m_nilP];rw[fa_rd2,bq_at ho j hj];simp only[rs,m_nilP];rw[fa_rd2,wrap64_id (by omega) (by omega)];refine rq_putA (a':=((p / 8:Nat):Int)+1) j ho hj fun w3 ho=>?_;exact fin w3 _ _ (by omega) ho
 ·simp only[h0,decide_false,i_f];refine fin w ((p % 8:Nat):Int) ((p / 8:Nat):Int) (by omega) ?_;rw[show rqE b s way ((p % 8:Nat):Int) ((p / 8:Nat):Int)=bqE b s way p from rfl,set_same hj];exact ho
theorem c_raw {b:Nat}{s:List UInt8}{way:Int}{p n:Nat}(j:Nat)(ho:OwnS S w0 w L)(hj:L[j]?=some (bqE b s way p))(h8:p % 8=0)(hp:p≤8*s.length)(hn:n≤1000000000)(hs:s.length≤1000000000)
  (k1:p+8*n≤8*s.length→∀W,OwnS S w0 W (L.set j (bqE b s way (p+8*n)))→K (.tuple #[.string ⟨((s.drop (p / 8)).take n).toArray⟩,.int .i64 0]) W)
  (k2:8*s.length < p+8*n→∀W,OwnS S w0 W L→K (.tuple #[.string ⟨#[]⟩,.int .i64 4]) W):CallX prog 336 #[.pointer (some ⟨b,0,none⟩),.int .i64 (n:Int)] w PK K:=by
 have hjl:j < L.length:=(List.getElem?_eq_some_iff.1 hj).1;refine c_any (S_bit_Reader_Raw_ok (K:=RetK fun v W=>(p+8*n≤8*s.length∧v=.tuple #[.string ⟨((s.drop (p / 8)).take n).toArray⟩,.int .i64 0]∧OwnS S w0 W (L.set j (bqE b s way (p+8*n))))∨(8*s.length < p+8*n∧v=.tuple #[.string ⟨#[]⟩,.int .i64 4]∧OwnS S w0 W L)) ?_) (fun e W ⟨v,he,hv⟩=>by
  subst he;rcases hv with ⟨h1,rfl,ho⟩|⟨h1,rfl,ho⟩
  ·exact k1 h1 W ho
  ·exact k2 h1 W ho)
 unfold S_bit_Reader_Raw iN dx gfx efx;rw[e_rdnil];simp only[rs,show decide ((n:Int) < 0)=false from decide_eq_false (by omega),m_nilP];rw[fa_rd0,fa_sd1,bq_used ho j hj,h8];simp only[rs,show decide ((0:Int) < ((0:Nat):Int))=false from rfl];refine quietC (fun W=>OwnS S w0 W L) ho.drew ?_;refine q_do _ (fun _=>run_nil) (q_do _ (fun _=>run_fa fo_rd1) (q_at _ (fun W h=>run_rds (h.at_ j hj)) (q_slen Tryz.underlying9 ?_)));refine q_do _ (fun _=>run_nil) (q_do _ (fun _=>run_fa fo_rd2) (q_at _ (fun W h=>run_rdat (h.at_ j hj)) (q_do _ (fun _=>r_sub) ?_)));rw[wrap64_id (by omega) (by omega)];refine q_gtr ?_;intro w2 ho;by_cases hend:(s.length:Int) - ((p / 8:Nat):Int) < (n:Int)
 ·simp only[hend,decide_true,i_t];exact retK (.inr ⟨by omega,rfl,ho⟩)
 simp only[hend,decide_false,i_f,rs,m_nilP];rw[fa_rd2,bq_at ho j hj];simp only[rs,m_nilP];rw[fa_rd2,wrap64_id (by omega) (by omega)];refine rq_putA (a':=((p / 8:Nat):Int)+n) j ho hj fun w3 ho=>?_;have e:rqE b s way ((p % 8:Nat):Int) (((p / 8:Nat):Int)+n)=bqE b s way (p+8*n):=by
  unfold rqE bqE bqC;rw[show (p+8*n) % 8=p % 8 by omega,show (p+8*n) / 8=p / 8+n by omega];rfl
 rw[e] at ho;have hj2:(L.set j (bqE b s way (p+8*n)))[j]?=some (bqE b s way (p+8*n)):=by rw[List.getElem?_set_self hjl]
 refine quietC (fun W=>OwnS S w0 W (L.set j (bqE b s way (p+8*n)))) ho.drew ?_;refine q_do _ (fun _=>run_nil) (q_do _ (fun _=>run_fa fo_rd1) (q_at _ (fun W h=>run_rds (h.at_ j hj2)) ?_));refine q_do _ (fun _=>run_nil) (q_do _ (fun _=>run_fa fo_rd2) (q_at _ (fun W h=>run_rdat (h.at_ j hj2)) (q_do _ (fun _=>r_sub) ?_)));rw[show (p+8*n) / 8=p / 8+n by omega,wrap64_id (by omega) (by omega)];refine q_do _ (fun _=>run_nil) (q_do _ (fun _=>run_fa fo_rd2) (q_at _ (fun W h=>run_rdat (h.at_ j hj2)) ?_));rw[show (p+8*n) / 8=p / 8+n by omega];refine q_do _ (fun _=>run_s_slice Tryz.underlying9 (by omega) (by omega) (by omega)) ?_;intro w4 ho;refine retK (.inl ⟨by omega,?_,ho⟩);rw[show (((p / 8+n:Nat):Int) - (n:Int)).toNat=p / 8 by omega,show ((p / 8+n:Nat):Int).toNat - p / 8=n by omega]
theorem bat_ret {W:World}{b:Nat}{s:List UInt8}{way:Int}{p:Nat}(h:(bqE b s way p).is W)(hp:p≤8*s.length)(hs:s.length≤1000000000):Ret prog 275 #[.pointer (some ⟨b,0,none⟩)] W (fun v w'=>v=.int .i64 (((p+7) / 8:Nat):Int)∧Below W.heap.size W w'):=by
 refine ret_of fun K hK=>S_bit_Reader_At_ok ?_;unfold S_bit_Reader_At iN dx;rw[e_rdnil,i_f,m_nilP,fa_rd0,fa_sd1];refine do_eq (run_rdused h) |>.mpr ?_;simp only[rs,m_nilP];by_cases h0:(0:Int) < ((p % 8:Nat):Int)
 ·simp only[h0,decide_true,i_t,rs,m_nilP];rw[fa_rd2];refine do_eq (run_rdat h) |>.mpr ?_;simp only[rs];rw[wrap64_id (by omega) (by omega)];exact hK _ _ ⟨by congr 1;omega,(Own.start W).done⟩
 ·simp only[h0,decide_false,i_f,rs,m_nilP];rw[fa_rd2];refine do_eq (run_rdat h) |>.mpr ?_;exact hK _ _ ⟨by congr 1;omega,(Own.start W).done⟩
end
end
section
open Eng
def S_code_counted_1(t8 w)(N1:JT)(K:KT):=
 dx (mBin .add 3 t8 (iN 1)) w K fun t19 w=>N1 [t19] w
def S_code_counted_0(t2 t3 t6 t7 t8 w)(N1:JT)(K:KT):=
 dx (mBin .lss 3 t8 t7) w K fun t9 w=>IfX t9 (JoinX (fun J2=>dx (mIA 123 t6 t8) w K fun t10 w=>dx (mLoad 3 t10) w K fun t11 w=>dx (mBin .gtr 3 t11 (iN 0)) w K fun t13 w=>IfX t13 (dx (mIA 334 t3 t11) w K fun t15 w=>dx (mLoad 3 t15) w K fun t16 w=>dx (mBin .add 3 t16 (iN 1)) w K fun t17 w=>dx (mIA 334 t3 t11) w K fun t18 w=>dx (mStore 3 t18 t17) w K fun _ w=>J2 [] w) (J2 [] w)) (fun vs2 w=>∀_:Sg,S_code_counted_1 t8 w N1 K)) (dx (mLoad 334 t3) w K fun t20 w=>dx (mStore 334 t2 t20) w K fun _ w=>RetX prog [.cell t2 334] w K)
def S_code_counted(t0 w)(K:KT):=
 dx (mAlloc 334) w K fun t2 w=>dx (mAlloc 334) w K fun t3 w=>dx (mB .len #[123] 3 #[false] #[t0]) w K fun t7 w=>LoopX [(iN 0)] w (fun vs1 w N1=>∀_:Sg,S_code_counted_0 t2 t3 t0 t7 (vs1.getD 0 undef) w N1 K)
theorem S_code_counted_eq (t0:Value)(w:World)(K:Ending→World→Prop):wpX prog 21 [(7,[])] [(3,[8])] none (bodyOf Tryz.f323) (topQ prog [.cell 2 334] K) (startX [t0]) [] w=S_code_counted t0 w K:=by kernel_rfl
theorem S_code_counted_ok {t0:Value}{w:World}{K:Ending→World→Prop}(h:S_code_counted t0 w K):Calls prog 323 #[t0] w K:=
 calls_of_wpX Tryz.func323 rfl rfl rfl rfl (Eq.mpr (S_code_counted_eq t0 w K) h)
def S_code_Check_1(t5 t6 t7 t8 w)(N2:JT)(K:KT):=
 dx (mBin .leq 3 t8 (iN 15)) w K fun t28 w=>IfX t28 (dx (mIA 334 t5 t8) w K fun t33 w=>dx (mLoad 3 t33) w K fun t34 w=>dx (mBin .sub 3 (iN 15) t8) w K fun t36 w=>dx (mBin .shl 3 t34 t36) w K fun t37 w=>dx (mBin .add 3 t6 t37) w K fun t38 w=>dx (mIA 334 t5 t8) w K fun t41 w=>dx (mLoad 3 t41) w K fun t42 w=>dx (mBin .add 3 t7 t42) w K fun t43 w=>dx (mBin .add 3 t8 (iN 1)) w K fun t30 w=>N2 [t38,t43,t30] w) (dx (mEq .eql 3 (.tmp 44) (.const (iN 32768)) t6 (iN 32768)) w K fun t45 w=>efx t45 t7 w fun t47 w=>gfx t45 (mEq .eql 3 (.tmp 47) (.const (iN 0)) t47 (iN 0)) w K fun t48 w=>dx (mPick t45 (.bool true) t48) w K fun t49 w=>efx t49 t7 w fun t51 w=>gfx t49 (mEq .eql 3 (.tmp 51) (.const (iN 1)) t51 (iN 1)) w K fun t52 w=>efx t49 t52 w fun t53 w=>gtx t53 (mIA 334 t5 (iN 1)) w K fun t54 w=>gtx t53 (mLoad 3 t54) w K fun t55 w=>gtx t53 (mEq .eql 3 (.tmp 55) (.const (iN 1)) t55 (iN 1)) w K fun t56 w=>gfx t49 (mPick t53 t56 (.bool false)) w K fun t57 w=>dx (mPick t49 (.bool true) t57) w K fun t58 w=>IfX t58 (K (.returned (iN 0)) w) (K (.returned (iN 13)) w))
def S_code_Check_0(t0 t12 t13 t14 w)(N1:JT)(K:KT):=
 dx (mBin .lss 3 t14 t13) w K fun t15 w=>IfX t15 (dx (mIA 123 t12 t14) w K fun t16 w=>dx (mLoad 3 t16) w K fun t17 w=>dx (mBin .lss 3 t17 (iN 0)) w K fun t19 w=>efx t19 t17 w fun t21 w=>gfx t19 (mBin .gtr 3 t21 (iN 15)) w K fun t22 w=>dx (mPick t19 (.bool true) t22) w K fun t23 w=>IfX t23 (K (.returned (iN 1)) w) (dx (mBin .add 3 t14 (iN 1)) w K fun t24 w=>N1 [t24] w)) (cx 323 #[t0] w K fun t26 w=>dx (mAlloc 334) w K fun t5 w=>dx (mStore 334 t5 t26) w K fun _ w=>LoopX [(iN 0),(iN 0),(iN 1)] w (fun vs2 w N2=>∀_:Sg,S_code_Check_1 t5 (vs2.getD 0 undef) (vs2.getD 1 undef) (vs2.getD 2 undef) w N2 K))
def S_code_Check(t0 w)(K:KT):=
 dx (mB .len #[123] 3 #[false] #[t0]) w K fun t10 w=>dx (mBin .gtr 3 t10 (iN 288)) w K fun t11 w=>IfX t11 (K (.returned (iN 6)) w) (dx (mB .len #[123] 3 #[false] #[t0]) w K fun t13 w=>LoopX [(iN 0)] w (fun vs1 w N1=>∀_:Sg,S_code_Check_0 t0 t0 t13 (vs1.getD 0 undef) w N1 K))
theorem S_code_Check_eq (t0:Value)(w:World)(K:Ending→World→Prop):wpX prog 59 [] [(4,[14]),(12,[6,7,8])] none (bodyOf Tryz.f342) (topQ prog [.tmp 2] K) (startX [t0]) [] w=S_code_Check t0 w K:=by kernel_rfl
theorem S_code_Check_ok {t0:Value}{w:World}{K:Ending→World→Prop}(h:S_code_Check t0 w K):Calls prog 342 #[t0] w K:=
 calls_of_wpX Tryz.func342 rfl rfl rfl rfl (Eq.mpr (S_code_Check_eq t0 w K) h)
def S_code_firsts_0(t1 t2 t3 t4 w)(N1:JT)(K:KT):=
 dx (mBin .lss 3 t4 (iN 15)) w K fun t6 w=>IfX t6 (QuietX w (fun C2=>QDo prog C2 (mBin .add 3 t4 (iN 1)) fun t10=>QDo prog C2 (mIA 334 t3 t4) fun t12=>QDo prog C2 (mLoad 3 t12) fun t13=>QDo prog C2 (mIA 334 t1 t4) fun t15=>QDo prog C2 (mLoad 3 t15) fun t16=>QDo prog C2 (mBin .add 3 t13 t16) fun t17=>QDo prog C2 (mBin .mul 3 (iN 2) t17) fun t18=>QDo prog C2 (mIA 334 t3 t10) fun t19=>
 ∀w,C2 w →
 dx (mStore 3 t19 t18) w K fun _ w=>dx (mBin .add 3 t4 (iN 1)) w K fun t8 w=>N1 [t8] w)) (dx (mLoad 334 t3) w K fun t20 w=>dx (mStore 334 t2 t20) w K fun _ w=>RetX prog [.cell t2 334] w K)
def S_code_firsts(t0 w)(K:KT):=
 dx (mBox 334 t0) w K fun t1 w=>dx (mAlloc 334) w K fun t2 w=>dx (mAlloc 334) w K fun t3 w=>LoopX [(iN 1)] w (fun vs1 w N1=>∀_:Sg,S_code_firsts_0 t1 t2 t3 (vs1.getD 0 undef) w N1 K)
theorem S_code_firsts_eq (t0:Value)(w:World)(K:Ending→World→Prop):wpX prog 21 [] [(3,[4])] none (bodyOf Tryz.f324) (topQ prog [.cell 2 334] K) (startX [t0]) [] w=S_code_firsts t0 w K:=by kernel_rfl
theorem S_code_firsts_ok {t0:Value}{w:World}{K:Ending→World→Prop}(h:S_code_firsts t0 w K):Calls prog 324 #[t0] w K:=
 calls_of_wpX Tryz.func324 rfl rfl rfl rfl (Eq.mpr (S_code_firsts_eq t0 w K) h)
def S_code_Codes_1(t22 w)(N1:JT)(K:KT):=
 dx (mBin .add 3 t22 (iN 1)) w K fun t40 w=>N1 [t40] w
def S_code_Codes_0(t5 t6 t20 t21 t22 w)(N1:JT)(K:KT):=
 dx (mBin .lss 3 t22 t21) w K fun t23 w=>IfX t23 (JoinX (fun J2=>dx (mIA 123 t20 t22) w K fun t25 w=>dx (mLoad 3 t25) w K fun t26 w=>dx (mBin .gtr 3 t26 (iN 0)) w K fun t28 w=>IfX t28 (dx (mIA 334 t5 t26) w K fun t32 w=>dx (mLoad 3 t32) w K fun t33 w=>dx (mIA 123 t6 t22) w K fun t34 w=>dx (mStore 3 t34 t33) w K fun _ w=>dx (mIA 334 t5 t26) w K fun t36 w=>dx (mLoad 3 t36) w K fun t37 w=>dx (mBin .add 3 t37 (iN 1)) w K fun t38 w=>dx (mIA 334 t5 t26) w K fun t39 w=>dx (mStore 3 t39 t38) w K fun _ w=>J2 [] w) (J2 [] w)) (fun vs2 w=>∀_:Sg,S_code_Codes_1 t22 w N1 K)) (K (.returned (.tuple #[t6,(iN 0)])) w)
def S_code_Codes(t0 w)(K:KT):=
 cx 342 #[t0] w K fun t10 w=>dx (mEq .neq 30 (.tmp 11) (.const (iN 0)) t10 (iN 0)) w K fun t12 w=>IfX t12 (K (.returned (.tuple #[(.slice none 0 0),t10])) w) (cx 323 #[t0] w K fun t15 w=>cx 324 #[t15] w K fun t16 w=>dx (mAlloc 334) w K fun t5 w=>dx (mStore 334 t5 t16) w K fun _ w=>dx (mB .len #[123] 3 #[false] #[t0]) w K fun t18 w=>dx (mMake 123 t18 t18) w K fun t19 w=>dx (mB .len #[123] 3 #[false] #[t0]) w K fun t21 w=>LoopX [(iN 0)] w (fun vs1 w N1=>∀_:Sg,S_code_Codes_0 t5 t19 t0 t21 (vs1.getD 0 undef) w N1 K))
theorem S_code_Codes_eq (t0:Value)(w:World)(K:Ending→World→Prop):wpX prog 42 [(12,[])] [(7,[22])] none (bodyOf Tryz.f321) (topQ prog [.tmp 2,.tmp 3] K) (startX [t0]) [] w=S_code_Codes t0 w K:=by kernel_rfl
theorem S_code_Codes_ok {t0:Value}{w:World}{K:Ending→World→Prop}(h:S_code_Codes t0 w K):Calls prog 321 #[t0] w K:=
 calls_of_wpX Tryz.func321 rfl rfl rfl rfl (Eq.mpr (S_code_Codes_eq t0 w K) h)
def S_code_New_2(t39 w)(N2:JT)(K:KT):=
 dx (mBin .add 3 t39 (iN 1)) w K fun t57 w=>N2 [t57] w
def S_code_New_1(t6 t7 t37 t38 t39 w)(N1 N2:JT)(K:KT):=
 dx (mBin .lss 3 t39 t38) w K fun t40 w=>IfX t40 (JoinX (fun J3=>dx (mIA 123 t37 t39) w K fun t42 w=>dx (mLoad 3 t42) w K fun t43 w=>dx (mEq .eql 3 (.tmp 44) (.tmp 45) t43 t7) w K fun t46 w=>IfX t46 (dx (mNil t6) w K fun t49 w=>dx (mFA 337 t49 4) w K fun t50 w=>dx (mLoad 123 t50) w K fun t51 w=>dx (mBuildS 123 1 #[(0,t39)]) w K fun t53 w=>dx (mB .append #[123,123] 123 #[false,false] #[t51,t53]) w K fun t54 w=>dx (mNil t6) w K fun t55 w=>dx (mFA 337 t55 4) w K fun t56 w=>dx (mStore 123 t56 t54) w K fun _ w=>J3 [] w) (J3 [] w)) (fun vs3 w=>∀_:Sg,S_code_New_2 t39 w N2 K)) (dx (mBin .add 3 t7 (iN 1)) w K fun t36 w=>N1 [t36] w)
def S_code_New_0(t0 t6 t7 w)(N1:JT)(K:KT):=
 dx (mBin .leq 3 t7 (iN 15)) w K fun t34 w=>IfX t34 (dx (mB .len #[123] 3 #[false] #[t0]) w K fun t38 w=>LoopX [(iN 0)] w (fun vs2 w N2=>∀_:Sg,S_code_New_1 t6 t7 t0 t38 (vs2.getD 0 undef) w N1 N2 K)) (K (.returned (.tuple #[t6,(iN 0)])) w)
def S_code_New(t0 w)(K:KT):=
 cx 321 #[t0] w K fun t12 w=>dx (mExt t12 0) w K fun t13 w=>dx (mExt t12 1) w K fun t14 w=>dx (mEq .neq 30 (.tmp 15) (.const (iN 0)) t14 (iN 0)) w K fun t16 w=>IfX t16 (K (.returned (.tuple #[(.pointer none),t14])) w) (cx 322 #[t0] w K fun t19 w=>cx 323 #[t0] w K fun t22 w=>dx (mBuild 337 #[(0,t19),(1,t13),(2,t22)]) w K fun t23 w=>dx (mBox 337 t23) w K fun t24 w=>dx (mNil t24) w K fun t27 w=>dx (mFA 337 t27 2) w K fun t28 w=>dx (mLoad 334 t28) w K fun t29 w=>cx 324 #[t29] w K fun t30 w=>dx (mNil t24) w K fun t31 w=>dx (mFA 337 t31 3) w K fun t32 w=>dx (mStore 334 t32 t30) w K fun _ w=>LoopX [(iN 1)] w (fun vs1 w N1=>∀_:Sg,S_code_New_0 t0 t24 (vs1.getD 0 undef) w N1 K))
theorem S_code_New_eq (t0:Value)(w:World)(K:Ending→World→Prop):wpX prog 59 [(14,[])] [(7,[7]),(10,[39])] none (bodyOf Tryz.f295) (topQ prog [.tmp 2,.tmp 3] K) (startX [t0]) [] w=S_code_New t0 w K:=by kernel_rfl
theorem S_code_New_ok {t0:Value}{w:World}{K:Ending→World→Prop}(h:S_code_New t0 w K):Calls prog 295 #[t0] w K:=
 calls_of_wpX Tryz.func295 rfl rfl rfl rfl (Eq.mpr (S_code_New_eq t0 w K) h)
def S_code_Table_Read_0(t0 t1 t6 t7 t8 w)(N1:JT)(K:KT):=
 dx (mB .len #[123] 3 #[false] #[t6]) w K fun t23 w=>dx (mBin .gtr 3 t23 (iN 0)) w K fun t24 w=>IfX t24 (cx 332 #[t1,(iN 1)] w K fun t29 w=>dx (mExt t29 0) w K fun t30 w=>dx (mExt t29 1) w K fun t31 w=>dx (mEq .neq 30 (.tmp 32) (.const (iN 0)) t31 (iN 0)) w K fun t33 w=>IfX t33 (K (.returned (.tuple #[(iN 0),t31])) w) (dx (mBin .shl 3 t7 (.int .u64 1)) w K fun t36 w=>dx (mBin .or 3 t36 t30) w K fun t38 w=>dx (mNil t0) w K fun t42 w=>dx (mFA 337 t42 3) w K fun t43 w=>dx (mIA 334 t43 t8) w K fun t44 w=>dx (mLoad 3 t44) w K fun t45 w=>dx (mBin .sub 3 t38 t45) w K fun t46 w=>dx (mNil t0) w K fun t50 w=>dx (mFA 337 t50 2) w K fun t51 w=>dx (mIA 334 t51 t8) w K fun t52 w=>dx (mLoad 3 t52) w K fun t53 w=>dx (mBin .lss 3 t46 t53) w K fun t54 w=>IfX t54 (dx (mIA 123 t6 t46) w K fun t57 w=>dx (mLoad 3 t57) w K fun t58 w=>K (.returned (.tuple #[t58,(iN 0)])) w) (dx (mNil t0) w K fun t62 w=>dx (mFA 337 t62 2) w K fun t63 w=>dx (mIA 334 t63 t8) w K fun t64 w=>dx (mLoad 3 t64) w K fun t65 w=>dx (mSlice 123 t6 (some t65) none none) w K fun t66 w=>dx (mBin .add 3 t8 (iN 1)) w K fun t26 w=>N1 [t66,t38,t26] w))) (K (.returned (.tuple #[(iN 0),(iN 13)])) w)
def S_code_Table_Read(t0 t1 w)(K:KT):=
 dx (mEq .eql 294 (.tmp 12) (.const (.pointer none)) t0 (.pointer none)) w K fun t13 w=>efx t13 t1 w fun t15 w=>gfx t13 (mEq .eql 275 (.tmp 15) (.const (.pointer none)) t15 (.pointer none)) w K fun t16 w=>dx (mPick t13 (.bool true) t16) w K fun t17 w=>IfX t17 (K (.returned (.tuple #[(iN 0),(iN 1)])) w) (dx (mNil t0) w K fun t19 w=>dx (mFA 337 t19 4) w K fun t20 w=>dx (mLoad 123 t20) w K fun t21 w=>LoopX [t21,(iN 0),(iN 1)] w (fun vs1 w N1=>∀_:Sg,S_code_Table_Read_0 t0 t1 (vs1.getD 0 undef) (vs1.getD 1 undef) (vs1.getD 2 undef) w N1 K))
theorem S_code_Table_Read_eq (t0 t1:Value)(w:World)(K:Ending→World→Prop):wpX prog 67 [] [(6,[6,7,8])] none (bodyOf Tryz.f347) (topQ prog [.tmp 4,.tmp 5] K) (startX [t0,t1]) [] w=S_code_Table_Read t0 t1 w K:=by kernel_rfl
theorem S_code_Table_Read_ok {t0 t1:Value}{w:World}{K:Ending→World→Prop}(h:S_code_Table_Read t0 t1 w K):Calls prog 347 #[t0,t1] w K:=
 calls_of_wpX Tryz.func347 rfl rfl rfl rfl (Eq.mpr (S_code_Table_Read_eq t0 t1 w K) h)
end
section
open Eng Go.RowKit
def nsC (f:Nat→Int):List Value:=[.int .i64 (f 0),.int .i64 (f 1),.int .i64 (f 2),.int .i64 (f 3),.int .i64 (f 4),.int .i64 (f 5),.int .i64 (f 6),.int .i64 (f 7),.int .i64 (f 8),.int .i64 (f 9),.int .i64 (f 10),.int .i64 (f 11),.int .i64 (f 12),.int .i64 (f 13),.int .i64 (f 14),.int .i64 (f 15)]
def nsV (f:Nat→Int):Value:=.agg (nsC f).toArray
def nsE (b:Nat)(f:Nat→Int):Ent:=.cells b (nsC f) 334
theorem nsC_one (f:Nat→Int):∀v∈nsC f,v.oneCell'=true:=by
 intro v hv;simp only[nsC,List.mem_cons,List.not_mem_nil,or_false] at hv;rcases hv with rfl|rfl|rfl|rfl|rfl|rfl|rfl|rfl|rfl|rfl|rfl|rfl|rfl|rfl|rfl|rfl<;>rfl
theorem lt16 {i:Nat}(hi:i < 16):i=0∨i=1∨i=2∨i=3∨i=4∨i=5∨i=6∨i=7∨i=8∨i=9∨i=10∨i=11∨i=12∨i=13∨i=14∨i=15:=by omega
theorem nsC_get (f:Nat→Int){i:Nat}(hi:i < 16):(nsC f)[i]?=some (.int .i64 (f i)):=by
 rcases lt16 hi with rfl|rfl|rfl|rfl|rfl|rfl|rfl|rfl|rfl|rfl|rfl|rfl|rfl|rfl|rfl|rfl<;>rfl
theorem nsC_set (f:Nat→Int)(x:Int){i:Nat}(hi:i < 16):(nsC f).set i (.int .i64 x)=nsC (fun j=>if j=i then x else f j):=by
 rcases lt16 hi with rfl|rfl|rfl|rfl|rfl|rfl|rfl|rfl|rfl|rfl|rfl|rfl|rfl|rfl|rfl|rfl<;>rfl
theorem aggNs:aggN prog 334=some 16:=by kernel_rfl
theorem szNs:(Tryz.prog.info? 334).map (·.size)=some 16:=by kernel_rfl
section
variable {w:World}{PK:PKT}{K:VWP}{S:Nat→Prop}{w0:World}{L:List Ent}
theorem run_nsia {W:World}{b off i:Nat}(hi:i < 16):(mIA 334 (.pointer (some ⟨b,off,none⟩)) (.int .i64 (i:Int))).run prog W=.ok (.value (.pointer (some ⟨b,off+i,none⟩))) W:=by
 rcases lt16 hi with rfl|rfl|rfl|rfl|rfl|rfl|rfl|rfl|rfl|rfl|rfl|rfl|rfl|rfl|rfl|rfl<;>kernel_rfl
theorem ns_ia {b off i:Nat}(hi:i < 16):DoX prog (mIA 334 (.pointer (some ⟨b,off,none⟩)) (.int .i64 (i:Int))) w PK K=K (.pointer (some ⟨b,off+i,none⟩)) w:=do_eq (run_nsia hi)
theorem o_nsa (ho:OwnS S w0 w L)(k:∀b w',OwnS S w0 w' (nsE b (fun _=>0)::L)→K (.pointer (some ⟨b,0,none⟩)) w'):DoX prog (mAlloc 334) w PK K:=
 o_new (fun b=>.pointer (some ⟨b,0,none⟩)) (nsC fun _=>0) 334 (fun _=>by kernel_rfl) ho k
theorem o_nsb (f:Nat→Int)(ho:OwnS S w0 w L)(k:∀b w',OwnS S w0 w' (nsE b f::L)→K (.pointer (some ⟨b,0,none⟩)) w'):DoX prog (mBox 334 (nsV f)) w PK K:=
 o_new (fun b=>.pointer (some ⟨b,0,none⟩)) (nsC f) 334 (fun _=>by kernel_rfl) ho k
theorem ns_get (ho:OwnS S w0 w L)(j:Nat){b i:Nat}{f:Nat→Int}(hi:L[j]?=some (nsE b f))(hi16:i < 16):DoX prog (mLoad 3 (.pointer (some ⟨b,0+i,none⟩))) w PK K=K (.int .i64 (f i)) w:=l_cell nInt5 (ho.cell j hi (0+i) (by rw[Nat.zero_add];exact nsC_get f hi16))
theorem ns_set (j:Nat){b i:Nat}{f:Nat→Int}{x:Int}(hi16:i < 16)(ho:OwnS S w0 w L)(hi:L[j]?=some (nsE b f))(k:∀w',OwnS S w0 w' (L.set j (nsE b (fun m=>if m=i then x else f m)))→K undef w') :
  DoX prog (mStore 3 (.pointer (some ⟨b,0+i,none⟩)) (.int .i64 x)) w PK K:=o_store j ho hi (by kernel_rfl) rfl (by show 0+i < 16;omega) fun w' ho=>k w' (by
   unfold nsE;rw[←nsC_set f x hi16,←Nat.zero_add i];rw[Nat.zero_add i] at ho ⊢;simpa using ho)
theorem ns_v (ho:OwnS S w0 w L)(j:Nat){b:Nat}{f:Nat→Int}(hi:L[j]?=some (nsE b f)):DoX prog (mLoad 334 (.pointer (some ⟨b,0,none⟩))) w PK K=K (nsV f) w:=l_at (ho.agg j hi aggNs)
theorem ns_put (j:Nat){b:Nat}{f f':Nat→Int}(ho:OwnS S w0 w L)(hi:L[j]?=some (nsE b f))(k:∀w',OwnS S w0 w' (L.set j (nsE b f'))→K undef w') :
  DoX prog (mStore 334 (.pointer (some ⟨b,0,none⟩)) (nsV f')) w PK K:=o_put j ho hi (new:=nsC f') szNs (nsC_one f') rfl k
theorem ret_ns {K:Ending→World→Prop}{b:Nat}{f:Nat→Int}(i:Nat)(ho:OwnS S w0 w L)(hi:L[i]?=some (nsE b f))(k:K (.returned (nsV f)) w):RetX prog [.cell (.pointer (some ⟨b,0,none⟩)) 334] w K:=
 ret_v1 (rv_cell (ho.agg i hi aggNs)) k
end
def cnt (lens:List Nat):Nat→Int:=fun i=>if i=0 then 0 else ((lens.count i:Nat):Int)
def natsW (l:List Nat):List Value:=l.map fun n=>.int .i64 ((n:Nat):Int)
theorem nats_at {w:World}{v:Value}{l:List Nat}(hs:Sl w v 1 l.length (natsW l)){i:Nat}(hi:i < l.length) :
  ∃b off,(∀W,(mIA 123 v (.int .i64 (i:Int))).run prog W=.ok (.value (.pointer (some ⟨b,off,none⟩))) W)∧w.cell? ⟨b,off,none⟩=some (.int .i64 ((l[i]:Nat):Int)):=by
 obtain⟨b,off,cap,rfl,hc⟩:=sl_open hs (by omega);refine⟨b,off+i,fun W=>?_,hc i _ (by simp[natsW,hi])⟩;have:=run_ia (P:=prog) (T:=123) (b:=b) (off:=off) (cap:=cap) (n:=l.length) (k:=.i64) (i:=(i:Int)) (w:=W) Tryz.underlying123 (show _=some 1 by kernel_rfl) (by omega) (by omega);rw[Int.toNat_natCast,Nat.mul_one] at this;exact this
theorem counted_ret (lens:List Nat)(v:Value)(M:Mem)(w:World)(h15:∀l∈lens,l≤15)(hl:lens.length≤100000)(hM:M.has w)(hs:SlA M.A M.w v 1 lens.length (natsW lens)) :
  RetM prog 323 #[v] M w (fun r _=>r=nsV (cnt lens)):=by
 refine retM_of hM fun K hK=>S_code_counted_ok ?_;unfold S_code_counted iN dx;refine o_nsa (OwnS.memS hM) fun b2 w1 ho=>?_;refine o_nsa ho fun b3 w2 ho=>?_;rw[sl_len Tryz.underlying123 (hs.now (ho.hasM 2 rfl))];refine loop (fun vs W=>∃i:Nat,vs=[.int .i64 i]∧i≤lens.length∧OwnS M.A w W [nsE b3 (cnt (lens.take i)),nsE b2 (fun _=>0),.mem M]) (fun vs _=>lens.length - n0 vs) ⟨0,rfl,by omega,?_⟩ ?_
 ·have e:cnt (lens.take 0)=fun _=>0:=by funext i;simp[cnt]
  rw[e];exact ho
 clear ho;rintro vs w3 ⟨i,rfl,hi,ho⟩ _;simp only[S_code_counted_0,gd,rs,iN,dx];by_cases hlt:(i:Int) < (lens.length:Int)
 ·have hi':i < lens.length:=by omega
  simp only[hlt,decide_true,i_t];refine join fun J hJ=>?_;obtain⟨b,off,r1,r2⟩:=nats_at (hs.now (ho.hasM 2 rfl)) hi';have hl15:=h15 _ (List.getElem_mem hi');refine do_eq (r1 w3) |>.mpr (do_eq (run_load_cell nInt5 r2) |>.mpr ?_);have htk:lens.take (i+1)=lens.take i++[lens[i]]:=by rw[List.take_succ_eq_append_getElem hi']
  have fin:∀W,OwnS M.A w W [nsE b3 (cnt (lens.take (i+1))),nsE b2 (fun _=>0),.mem M]→J [] W:=by
   intro W ho;refine hJ _ _ fun _=>?_;simp only[S_code_counted_1,gd,rs,iN,dx];rw[wrap64_id (by omega) (by omega)];exact nextX ⟨i+1,rfl,by omega,ho⟩ (by simp[n0,RowKit.intOf];omega)
  simp only[rs];by_cases h0:(0:Int) < ((lens[i]:Nat):Int)
  ·simp only[h0,decide_true,i_t];rw[ns_ia (by omega),ns_get ho 0 rfl (by omega)];simp only[rs];rw[ns_ia (by omega)];have hc0:(lens.take i).count lens[i]≤100000:=by
    have:=List.count_le_length (a:=lens[i]) (l:=lens.take i);rw[List.length_take] at this;omega
   have hcv:cnt (lens.take i) lens[i]=(((lens.take i).count lens[i]:Nat):Int):=by unfold cnt;rw[if_neg (by omega)]
   rw[hcv,wrap64_id (by omega) (by omega)];refine ns_set 0 (by omega) ho rfl fun w4 ho=>fin w4 ?_;have e:(fun m=>if m=lens[i] then (((lens.take i).count lens[i]:Nat):Int)+1 else cnt (lens.take i) m)=cnt (lens.take (i+1)):=by
    funext m
    unfold cnt;rw[htk,List.count_append,List.count_singleton];by_cases hm:m=lens[i]
    ·subst hm;rw[if_pos rfl,if_neg (by omega)];simp
    ·rw[if_neg hm];by_cases hm0:m=0
     ·rw[if_pos hm0,if_pos hm0]
     ·rw[if_neg hm0,if_neg hm0];have:(lens[i]==m)=false:=by simp;exact fun h=>hm h.symm
      rw[this];simp
   rw[←e];exact ho
  ·simp only[h0,decide_false,i_f];refine fin w3 ?_;have e:cnt (lens.take (i+1))=cnt (lens.take i):=by
    funext m
    unfold cnt;rw[htk,List.count_append,List.count_singleton];by_cases hm0:m=0
    ·rw[if_pos hm0,if_pos hm0]
    ·rw[if_neg hm0,if_neg hm0];have:(lens[i]==m)=false:=by simp;omega
     rw[this];simp
   rw[e];exact ho
 ·simp only[hlt,decide_false,i_f];have hie:i=lens.length:=by omega
  subst hie;rw[List.take_length] at ho;rw[ns_v ho 0 rfl];refine ns_put 1 ho rfl fun w4 ho=>?_;exact ret_ns 1 ho rfl (hK _ _ M _ 2 ho rfl M.le_refl rfl)
theorem firsts_ret (lens:List Nat)(M:Mem)(w:World)(hl:lens.length≤100000)(hM:M.has w) :
  RetM prog 324 #[nsV (cnt lens)] M w (fun r _=>r=nsV (fun i=>((Fl.first lens (if i≤15 then i else 0):Nat):Int))):=by
 refine retM_of hM fun K hK=>S_code_firsts_ok ?_;unfold S_code_firsts iN dx;refine o_nsb (cnt lens) (OwnS.memS hM) fun b1 w1 ho=>?_;refine o_nsa ho fun b2 w2 ho=>?_;refine o_nsa ho fun b3 w3 ho=>?_;refine loop (fun vs W=>∃l:Nat,vs=[.int .i64 l]∧1≤l∧l≤15∧OwnS M.A w W [nsE b3 (fun i=>((Fl.first lens (if i≤l then i else 0):Nat):Int)),nsE b2 (fun _=>0),nsE b1 (cnt lens),.mem M]) (fun vs _=>15 - n0 vs) ⟨1,rfl,by omega,by omega,?_⟩ ?_
 ·have e:(fun i=>((Fl.first lens (if i≤1 then i else 0):Nat):Int))=fun _=>0:=by
   funext i
   by_cases h:i≤1
   ·rw[if_pos h];rcases (by omega:i=0∨i=1) with rfl|rfl<;>rfl
   ·rw[if_neg h];rfl
  rw[e];exact ho
 clear ho;rintro vs w4 ⟨l,rfl,hl1,hl15,ho⟩ _;simp only[S_code_firsts_0,gd,rs,iN,dx];by_cases hlt:(l:Int) < 15
 ·simp only[hlt,decide_true,i_t];have hfb:=Fl.first_le (lens:=lens) l;have hcb:lens.count l≤lens.length:=List.count_le_length;have hp:4 ^ l≤4 ^ 15:=Nat.pow_le_pow_right (by decide) (by omega);have hp2:(4:Nat) ^ 15=1073741824:=by decide
  have hfb2:4 ^ l*lens.length≤1073741824*100000:=Nat.mul_le_mul (by omega) hl;have hcl:cnt lens l=((lens.count l:Nat):Int):=by unfold cnt;rw[if_neg (by omega)]
  refine quietC (fun W=>OwnS M.A w W [nsE b3 (fun i=>((Fl.first lens (if i≤l then i else 0):Nat):Int)),nsE b2 (fun _=>0),nsE b1 (cnt lens),.mem M]) ho.drew ?_;refine q_add ?_;rw[wrap64_id (by omega) (by omega)];refine q_do _ (fun _=>run_nsia (by omega)) (q_at (.int .i64 (Fl.first lens l)) (fun W h=>run_load_cell nInt5 (h.cell 0 rfl (0+l) (by rw[Nat.zero_add];refine (nsC_get _ (by omega)).trans ?_;rw[if_pos (Nat.le_refl l)]))) ?_);refine q_do _ (fun _=>run_nsia (by omega)) (q_at (.int .i64 (lens.count l:Nat)) (fun W h=>run_load_cell nInt5 (h.cell 2 rfl (0+l) (by rw[Nat.zero_add];refine (nsC_get _ (by omega)).trans ?_;rw[hcl]))) ?_);refine q_add ?_;rw[wrap64_id (by omega) (by omega)];refine q_do _ (fun _=>r_mul) ?_;rw[wrap64_id (by omega) (by omega)];rw[show ((l:Nat):Int)+1=((l+1:Nat):Int) by omega];refine q_do _ (fun _=>run_nsia (by omega)) ?_;intro w5 ho;refine ns_set 0 (by omega) ho rfl fun w6 ho=>?_;refine nextX ⟨l+1,rfl,by omega,by omega,?_⟩ (by simp[n0,RowKit.intOf];omega);have e:(fun m=>if m=l+1 then (2:Int)*(((Fl.first lens l:Nat):Int)+((lens.count l:Nat):Int)) else ((Fl.first lens (if m≤l then m else 0):Nat):Int))=fun i=>((Fl.first lens (if i≤l+1 then i else 0):Nat):Int):=by
   funext m
   by_cases hm:m=l+1
   ·subst hm;rw[if_pos rfl,if_pos (Nat.le_refl _)];obtain⟨k,rfl⟩:∃k,l=k+1:=⟨l - 1,by omega⟩;rw[Fl.first];push_cast;rfl
   ·rw[if_neg hm];by_cases hml:m≤l
    ·rw[if_pos hml,if_pos (by omega)]
    ·rw[if_neg hml,if_neg (by omega)]
  rw[←e];exact ho
 ·simp only[hlt,decide_false,i_f];have:l=15:=by omega
  subst this;rw[ns_v ho 0 rfl];refine ns_put 1 ho rfl fun w4 ho=>?_;exact ret_ns 1 ho rfl (hK _ _ M _ 3 ho rfl M.le_refl rfl)
end
section
open Eng Go.RowKit
def Fl.chk (lens:List Nat):Int:=if 288 < lens.length then 6 else Fl.check lens
theorem ccheck_ret (lens:List Nat)(v:Value)(M:Mem)(w:World)(h15:∀l∈lens,l≤15)(hl:lens.length≤100000)(hM:M.has w)(hs:SlA M.A M.w v 1 lens.length (natsW lens)) :
  RetM prog 342 #[v] M w (fun r _=>r=.int .i64 (Fl.chk lens)):=by
 refine retM_of hM fun K hK=>S_code_Check_ok ?_;unfold S_code_Check iN dx;have ho:OwnS M.A w w [.mem M]:=OwnS.memS hM;rw[sl_len Tryz.underlying123 (hs.now hM)];simp only[rs];by_cases h288:(288:Int) < (lens.length:Int)
 ·simp only[h288,decide_true,i_t];exact hK _ _ M _ 0 ho rfl M.le_refl (by unfold Fl.chk;rw[if_pos (by omega)])
 have hc:Fl.chk lens=Fl.check lens:=by unfold Fl.chk;rw[if_neg (by omega)]
 simp only[h288,decide_false,i_f];rw[sl_len Tryz.underlying123 (hs.now hM)];refine loop (fun vs W=>∃i:Nat,vs=[.int .i64 i]∧i≤lens.length∧OwnS M.A w W [.mem M]) (fun vs _=>lens.length - n0 vs) ⟨0,rfl,by omega,ho⟩ ?_;clear ho;rintro vs w2 ⟨i,rfl,hi,ho⟩ _;simp only[S_code_Check_0,gd,rs,iN,dx,gfx,efx,cx];by_cases hlt:(i:Int) < (lens.length:Int)
 ·have hi':i < lens.length:=by omega
  simp only[hlt,decide_true,i_t];obtain⟨b,off,r1,r2⟩:=nats_at (hs.now (ho.hasM 0 rfl)) hi';have hl15:=h15 _ (List.getElem_mem hi');refine do_eq (r1 w2) |>.mpr (do_eq (run_load_cell nInt5 r2) |>.mpr ?_);simp only[rs,show decide (((lens[i]:Nat):Int) < 0)=false from decide_eq_false (by omega),show decide ((15:Int) < ((lens[i]:Nat):Int))=false from decide_eq_false (by omega)];rw[wrap64_id (by omega) (by omega)];exact nextX ⟨i+1,rfl,by omega,ho⟩ (by simp[n0,RowKit.intOf];omega)
 simp only[hlt,decide_false,i_f];refine c_mem ho 0 rfl (counted_ret lens v M w2 h15 hl (ho.hasM 0 rfl) hs) ?_;rintro _ N w3 hle rfl ho;refine o_nsa ho fun b5 w4 ho=>?_;refine ns_put 0 ho rfl fun w5 ho=>?_;have ho:OwnS M.A w w5 [nsE b5 (cnt lens),.mem N]:=ho;refine loop (fun vs W=>∃l:Nat,vs=[.int .i64 (Fl.sumTo lens l),.int .i64 (Fl.usedTo lens l),.int .i64 ((l+1:Nat):Int)]∧l≤15∧OwnS M.A w W [nsE b5 (cnt lens),.mem N]) (fun vs _=>16 - n2 vs) ⟨0,rfl,by omega,ho⟩ ?_;clear ho hlt hi;rintro vs w6 ⟨l,rfl,hl15,ho⟩ _;simp only[S_code_Check_1,gd,rs,iN,dx,gtx,gfx,efx];have hcn:∀k,k≠0→cnt lens k=((lens.count k:Nat):Int):=fun k h=>by unfold cnt;rw[if_neg h]
 by_cases hlt:((l+1:Nat):Int)≤15
 ·simp only[hlt,decide_true,i_t];have hcb:lens.count (l+1)≤lens.length:=List.count_le_length;have s1:=Fl.sumTo_le (lens:=lens) (l+1);have s2:=Fl.usedTo_le (lens:=lens) (l+1);have m1:(l+1)*(lens.length*32768)≤16*(100000*32768):=Nat.mul_le_mul (by omega) (Nat.mul_le_mul_right _ hl);have m2:(l+1)*lens.length≤16*100000:=Nat.mul_le_mul (by omega) hl;rw[Fl.sumTo] at s1;rw[Fl.usedTo] at s2;rw[ns_ia (by omega),ns_get ho 0 rfl (by omega),hcn _ (by omega)]
  try simp only[rs]
  rw[wrap64_id (by omega) (by omega),b_shl (by omega)];rw[show min ((15:Int) - ((l+1:Nat):Int)).toNat IntKind.i64.bits=15 - (l+1) by show min ((15:Int) - ((l+1:Nat):Int)).toNat 64=15 - (l+1);omega];rw[show ((lens.count (l+1):Nat):Int)*2 ^ (15 - (l+1))=((lens.count (l+1)*2 ^ (15 - (l+1)):Nat):Int) by push_cast;rfl];generalize hq:lens.count (l+1)*2 ^ (15 - (l+1))=q at s1 ⊢;rw[wrap64_id (by omega) (by omega)]
  try simp only[rs]
  rw[wrap64_id (by omega) (by omega),ns_ia (by omega),ns_get ho 0 rfl (by omega),hcn _ (by omega)]
  try simp only[rs]
  rw[wrap64_id (by omega) (by omega),wrap64_id (by omega) (by omega)];refine nextX ⟨l+1,?_,by omega,ho⟩ (by simp[n2,RowKit.intOf];omega);rw[Fl.sumTo,Fl.usedTo,hq];rfl
 ·have hl:l=15:=by omega
  subst hl;simp only[hlt,decide_false,i_f];have fin:∀e:Int,e=Fl.check lens→K (.returned (.int .i64 e)) w6:=fun e he=>hK _ _ N _ 1 ho rfl hle (by rw[hc,he]);unfold Fl.check at fin;by_cases a:Fl.sumTo lens 15=32768
  ·simp only[show decide (((Fl.sumTo lens 15:Nat):Int)=32768)=true from decide_eq_true (by omega),rs,g_un];exact fin 0 (by rw[if_pos (.inl a)])
  simp only[show decide (((Fl.sumTo lens 15:Nat):Int)=32768)=false from decide_eq_false (by omega),rs];by_cases b:Fl.usedTo lens 15=0
  ·simp only[show decide (((Fl.usedTo lens 15:Nat):Int)=0)=true from decide_eq_true (by omega),rs,g_un];exact fin 0 (by rw[if_pos (.inr (.inl b))])
  simp only[show decide (((Fl.usedTo lens 15:Nat):Int)=0)=false from decide_eq_false (by omega),rs];by_cases c:Fl.usedTo lens 15=1
  ·simp only[show decide (((Fl.usedTo lens 15:Nat):Int)=1)=true from decide_eq_true (by omega),rs];rw[show ((1:Int))=((1:Nat):Int) from rfl,ns_ia (by omega),ns_get ho 0 rfl (by omega),hcn 1 (by omega)];by_cases e:lens.count 1=1
   ·simp only[rs,show decide (((lens.count 1:Nat):Int)=((1:Nat):Int))=true from decide_eq_true (by omega)];exact fin 0 (by rw[if_pos (.inr (.inr ⟨c,e⟩))])
   ·simp only[rs,show decide (((lens.count 1:Nat):Int)=((1:Nat):Int))=false from decide_eq_false (by omega)];exact fin 13 (by rw[if_neg (fun h=>h.elim a fun h=>h.elim b fun h=>e h.2)])
  ·simp only[show decide (((Fl.usedTo lens 15:Nat):Int)=1)=false from decide_eq_false (by omega),rs,g_un];exact fin 13 (by rw[if_neg (fun h=>h.elim a fun h=>h.elim b fun h=>c h.1)])
end
section
open Eng Go.RowKit
def intsW (l:List Int):List Value:=l.map fun n=>.int .i64 n
theorem intsW_one {l:List Int}:∀x∈intsW l,x.oneCell'=true:=by
 intro x hx;obtain⟨n,-,rfl⟩:=List.mem_map.1 hx;rfl
theorem nSlInt:notAgg prog 123=true:=by kernel_rfl
theorem elInt:elB prog 3 1 8=true:=by kernel_rfl
theorem hd_ext {P:Program}{C:World→Prop}{K:Value→Prop}{a b:Value}(h:K a):HDo P C (mExt (.tuple #[a,b]) 0) K:=hd_pure a (fun _=>rfl) h
theorem hd_ext1 {P:Program}{C:World→Prop}{K:Value→Prop}{a b:Value}(h:K b):HDo P C (mExt (.tuple #[a,b]) 1) K:=hd_pure b (fun _=>rfl) h
section
variable {w:World}{PK:PKT}{K:VWP}{S:Nat→Prop}{w0:World}{L:List Ent}
theorem o_ints0 (ho:OwnS S w0 w L)(k:∀v w',OwnS S w0 w' (.urow 3 1 v 0 []::L)→K v w'):DoX prog (mBuildS 123 0 #[]) w PK K:=
 o_new (fun b=>.slice (some ⟨b,0,none⟩) 0 0) [] 3 (fun _=>by kernel_rfl) ho fun b w1 ho=>k _ _ (ho.toU 1 0 0 (by simp) (by omega) (by omega))
theorem o_ints1 (n:Int)(ho:OwnS S w0 w L)(k:∀b w',OwnS S w0 w' (.cells b (intsW [n]) 3::L)→K (.slice (some ⟨b,0,none⟩) 1 1) w'):DoX prog (mBuildS 123 1 #[(0,.int .i64 n)]) w PK K:=
 o_new (fun b=>.slice (some ⟨b,0,none⟩) 1 1) (intsW [n]) 3 (fun _=>by kernel_rfl) ho k
theorem o_apInt (i:Nat){v v2:Value}{n m:Nat}{xs news:List Value}{cb:Array Bool}(ho:OwnS S w0 w L)(hi:L[i]?=some (.urow 3 1 v n xs))(hs:Sl w v2 1 m news)(h1:∀u∈news,u.oneCell'=true)(hb:n+m≤100000000000)
  (k:∀v' w',OwnS S w0 w' (L.set i (.urow 3 1 v' (n+m) (xs++news)))→K v' w'):DoX prog (mB .append #[123,123] 123 cb #[v,v2]) w PK K:=
 o_appendU i Tryz.underlying123 elInt (by decide) ho hi hs h1 (by omega) (by omega) k
end
end
end Go.Proofs.YtlipjfcbjemicaaGreatDoor
