/- Texts that go together: PsH PsI PsJ Plain06F EngAA PsK PsL PsM Plain08 Plain18 Plain18B Plain18C Plain08B Plain08D Plain08E Plain08F Plain08G Plain08H Plain43 Plain43B Plain43C Plain43D Plain43E Plain43F Plain43G OpA SOps SRef43 SNum OpB OpC OpD. -/
import Derived.Maps.RangeRun
import Derived.Test.YtoofficgclghoaaGreatDoorRows
import Derived.Test.YtoofficgclghoaaGreatDoorMmokpkjkm
import Derived.Test.YtoofficgclghoaaGreatDoorMogaapjal
import Derived.Test.YtoofficgclghoaaGreatDoorMclokkgec
import Derived.Test.YtoofficgclghoaaGreatDoorMbbjppalp
set_option linter.defProp false
set_option linter.unusedSimpArgs false
set_option linter.unusedVariables false
set_option maxRecDepth 20000
open Go.Proofs.Tryz (prog)
namespace Go.Proofs.YtoofficgclghoaaGreatDoor
section
open Eng Go.RowKit
theorem obj_lacks {s:List UInt8}{n:Nat}{a:Int}(h:¬Has s a):Ps.obj s n a=Ps.bad (lacks s a):=by
 unfold Has at h;unfold lacks;cases n
 all_goals
  rw[Ps.obj];by_cases e1:(Lx.next s a).2=0
  ·have e2:(Lx.next s a).1.k=0:=Classical.not_not.1 fun h2=>h ⟨e1,h2⟩;rw[if_neg (by rw[e1];simp),if_pos e2,if_neg (by rw[e1];simp)]
  ·rw[if_pos e1,if_pos e1]
theorem lacks_pos {s:List UInt8}{a:Int}:lacks s a≠0:=by
 unfold lacks;split
 ·assumption
 ·decide
theorem pobj_ret (s:List UInt8)(hs:s.length≤1000000000)(harr:∀n,n≤23→PObj s n→PArr s n)(hdict:∀n,n≤23→PObj s n→PDict s n):∀n:Nat,n≤24→PObj s n:=by
 intro n
 induction n with
|zero=>
  intro _ b a M w hh hr;have hob:Ps.obj s 0 a=_:=Ps.obj.eq_def s 0 a;simp only at hob;refine lent_of (fun K ho hret hpan=>S_parse_reader_object_ok ?_) hr;unfold S_parse_reader_object;refine o_tkb _ ho fun b4 w1 ho=>?_;refine o_oba ho fun b6 w2 ho=>?_;clear hret;obtain⟨e1,e2⟩:=hh;generalize Ps.obj s 0 a=R at *;generalize Lx.next s a=x at *
  rw[if_neg (by rw[e1];simp),if_neg e2] at hob;refine join fun J hJ=>?_;rw[tk_v ho 1 rfl];refine c_below ho (R:=fun v=>v=.bool (Ps.begins x.1)) (pfirst_ret x.1 w2 e2) ?_;rintro _ w3 rfl ho;have fail:∀{e:Int},R=Ps.bad e→e≠0→∀{W:World},OwnS (rmE b s x.1.t M).blk w W [obE b6 ob0 nilS nilS,tokE b4 x.1,rdE b s x.1.t,.mem M]→K (.panicked [wrongE e]) W:=by
   intro e he h0 W ho;subst he;exact hpan h0 _ M W _ ho.tail.tail M.le_refl
  cases e3:Ps.begins x.1 with
 |false=>
   simp only[rs,Bool.not_false,i_t];rw[if_pos e3] at hob;exact throw (fail hob (by decide) ho)
 |true=>
   simp only[rs,Bool.not_true,i_f];rw[if_neg (by rw[e3];simp)] at hob;refine hJ _ _ fun _=>?_;unfold S_parse_reader_object_0;refine join fun J hJ=>?_;simp only[rs,show decide ((24:Int)≤24 - ((0:Nat):Int))=true by decide];exact throw (fail hob (by decide) ho)
|succ n ih=>
  intro hn b a M w hh hr;have ih:=ih (by omega);have harr:=harr n (by omega) ih;have hdict:=hdict n (by omega) ih;have hob:Ps.obj s (n+1) a=_:=Ps.obj.eq_def s (n+1) a;simp only at hob;refine lent_of (fun K ho hret hpan=>S_parse_reader_object_ok ?_) hr;unfold S_parse_reader_object;refine o_tkb _ ho fun b4 w1 ho=>?_;refine o_oba ho fun b6 w2 ho=>?_;obtain⟨e1,e2⟩:=hh;have hbd:=@Lx.next_bd s a e1 e2;have hfm:=@Lx.next_form s a e1;have hge:=Lx.skip_ge s a.toNat;generalize hR:Ps.obj s (n+1) a=R at *;clear hR;generalize Lx.next s a=x at *
  rw[if_neg (by rw[e1];simp),if_neg e2] at hob;refine join fun J hJ=>?_;rw[tk_v ho 1 rfl];refine c_below ho (R:=fun v=>v=.bool (Ps.begins x.1)) (pfirst_ret x.1 w2 e2) ?_;rintro _ w3 rfl ho;have fail:∀{e:Int},R=Ps.bad e→e≠0→∀{W:World},OwnS (rmE b s x.1.t M).blk w W [obE b6 ob0 nilS nilS,tokE b4 x.1,rdE b s x.1.t,.mem M]→K (.panicked [wrongE e]) W:=by
   intro e he h0 W ho;subst he;exact hpan h0 _ M W _ ho.tail.tail M.le_refl
  cases e3:Ps.begins x.1 with
 |false=>
   simp only[rs,Bool.not_false,i_t];rw[if_pos e3] at hob;exact throw (fail hob (by decide) ho)
 |true=>
  simp only[rs,Bool.not_true,i_f];rw[if_neg (by rw[e3];simp)] at hob;refine hJ _ _ fun _=>?_;unfold S_parse_reader_object_0;refine join fun J hJ=>?_;have hdeep:¬(24:Int)≤24 - ((n+1:Nat):Int):=by omega
  simp only[rs,decide_eq_false hdeep];refine hJ _ _ fun _=>?_;unfold S_parse_reader_object_1;simp only[rs,fa_t0,tk_k ho 1 rfl]
  -- what is returned
  have good:∀{W:World} {L:List Ent} {k m g t:Int} {z:List UInt8} (j:Nat),OwnS (rmE b s x.1.t M).blk w W (L++([rdE b s t,.mem M]++[]))→L[j]?=some (obE b6 (ob1 k m g z) nilS nilS)→R=(ob1 k m g z,t,0)→RetX prog [.cell (.pointer (some ⟨b6,0,none⟩)) 42] W K:=by
   intro W L k m g t z j ho hj he;have hjl:j < L.length:=(List.getElem?_eq_some_iff.1 hj).1;refine ret_v1 (rv_cell (ho.agg (cs:=obC (ob1 k m g z) nilS nilS) j (by rw[List.getElem?_append_left hjl];exact hj) aggOb)) ?_;subst he;exact hret rfl _ M W _ ho.front M.le_refl ob1_ov2
  have tail:∀{f:Nat} {args:Array Value} {k m g:Int} {z:List UInt8} {W:World} {L:List Ent} {PK1 PK2:PKT} {o:Ob} {vk vc:Value} (j:Nat),OwnS (rmE b s x.1.t M).blk w W (L++([rdE b s x.1.t,.mem M]++[]))→L[j]?=some (obE b6 o vk vc)→Ret prog f args W (obR (ob1 k m g z) nilS nilS W)→R=(ob1 k m g z,x.1.t,0) →
    CallX prog f args W PK1 fun t W=>DoX prog (mStore 42 (.pointer (some ⟨b6,0,none⟩)) t) W PK2 fun _ W=>RetX prog [.cell (.pointer (some ⟨b6,0,none⟩)) 42] W K:=by
   intro f args k m g z W L PK1 PK2 o vk vc j ho hj hr he;have hjl:j < L.length:=(List.getElem?_eq_some_iff.1 hj).1;refine c_below ho (R:=fun v=>v=obV (ob1 k m g z) nilS nilS) hr ?_;rintro _ W2 rfl ho;refine ob_put (o':=ob1 k m g z) (vk':=nilS) (vc':=nilS) j rfl rfl ho (by rw[List.getElem?_append_left hjl];exact hj) fun W3 ho=>?_;rw[List.set_append_left _ _ hjl] at ho;exact good j ho (by simp[hjl]) he
  have hleafR:x.1.k≠6→R=Ps.leaf s x.1:=fun h=>by rw[hob,if_pos h]
  rcases hfm.kind with k0|k1|k2|k3|k4|k5|k6
  ·exact absurd k0 e2
  ·have hk6:x.1.k≠6:=by omega
   have hleaf:R=match Ps.ref s x.1 with
   |some p=>(.mk 8 x.1.n p.1 [] [] [],p.2,0)
   |none=>(.mk 2 x.1.n 0 [] [] [],x.1.t,0):=by rw[hleafR hk6,Ps.leaf,if_pos k1];cases Ps.ref s x.1<;>rfl
   simp only[decide_eq_true k1,i_t,tk_v ho 1 rfl];have ho:OwnS (rmE b s x.1.t M).blk w w3 ([obE b6 ob0 nilS nilS,tokE b4 x.1]++([rdE b s x.1.t,.mem M]++[])):=ho;have ho:=ho.front.pair;refine c_rm ho 0 rfl (pref_ret b s x.1 x.1.t M w3 (by omega) (ho.at_ 0 rfl)) ?_ fun _ _ h=>absurd trivial h;rintro _ N w4 _ hle rfl ho;simp only[ex];have ho:=ho.split;have ho:OwnS (rmE b s x.1.t M).blk w w4 ([rdE b s (pend s x.1 x.1.t),.mem N]++([obE b6 ob0 nilS nilS,tokE b4 x.1]++[])):=ho;have ho:=ho.front;refine o_oba ho fun b7 w5 ho=>?_;refine ob_put (vk':=nilS) (vc':=nilS) 0 rfl rfl ho rfl fun w6 ho=>?_;have ho:OwnS (rmE b s x.1.t M).blk w w6 ([obE b7 (refO s x.1) nilS nilS,obE b6 ob0 nilS nilS,tokE b4 x.1]++([rdE b s (pend s x.1 x.1.t),.mem N]++[])):=ho;unfold refO pend at ho;cases hp:Ps.ref s x.1 with
  |some p=>
    rw[hp] at hleaf ho;simp only at ho;simp only[Option.isSome_some,i_t,ob_v ho 0 rfl];refine ob_put 1 rfl rfl ho rfl fun w7 ho=>?_;have ho:OwnS (rmE b s x.1.t M).blk w w7 ([obE b7 (ob1 8 x.1.n p.1 []) nilS nilS,obE b6 (ob1 8 x.1.n p.1 []) nilS nilS,tokE b4 x.1]++([rdE b s p.2,.mem N]++[])):=ho;refine ret_v1 (rv_cell (ho.agg 1 rfl aggOb)) ?_;subst hleaf;exact hret rfl _ N w7 _ ho.front hle ob1_ov2
  |none=>
    rw[hp] at hleaf ho;simp only at ho;simp only[Option.isSome_none,i_f,fa_t3,tk_n ho 2 rfl];refine c_below ho (R:=fun v=>v=obV (ob1 2 x.1.n 0 []) nilS nilS) (vint_ret x.1.n w6) ?_;rintro _ w7 rfl ho;refine ob_put 1 rfl rfl ho rfl fun w8 ho=>?_;have ho:OwnS (rmE b s x.1.t M).blk w w8 ([obE b7 (ob1 0 0 0 []) nilS nilS,obE b6 (ob1 2 x.1.n 0 []) nilS nilS,tokE b4 x.1]++([rdE b s x.1.t,.mem N]++[])):=ho;refine ret_v1 (rv_cell (ho.agg 1 rfl aggOb)) ?_;subst hleaf;exact hret rfl _ N w8 _ ho.front hle ob1_ov2
  ·have hk6:x.1.k≠6:=by omega
   simp only[k2,show ¬((2:Int)=1) by decide,decide_true,decide_false,rs,fa_t3,tk_n ho 1 rfl];exact tail (L:=[_,_]) 0 ho rfl (vreal_ret x.1.n _) (by rw[hleafR hk6,Ps.leaf,if_neg (by omega),if_pos k2])
  ·have hk6:x.1.k≠6:=by omega
   simp only[k3,show ¬((3:Int)=1) by decide,show ¬((3:Int)=2) by decide,decide_true,decide_false,rs,fa_t4',tk_s ho 1 rfl];exact tail (L:=[_,_]) 0 ho rfl (vstr_ret x.1.s _) (by rw[hleafR hk6,Ps.leaf,if_neg (by omega),if_neg (by omega),if_pos k3])
  ·have hk6:x.1.k≠6:=by omega
   simp only[k4,show ¬((4:Int)=1) by decide,show ¬((4:Int)=2) by decide,show ¬((4:Int)=3) by decide,decide_true,decide_false,rs,fa_t4',tk_s ho 1 rfl];exact tail (L:=[_,_]) 0 ho rfl (vname_ret x.1.s _) (by rw[hleafR hk6,Ps.leaf,if_neg (by omega),if_neg (by omega),if_neg (by omega),if_pos k4])
  ·have hk6:x.1.k≠6:=by omega
   simp only[k5,show ¬((5:Int)=1) by decide,show ¬((5:Int)=2) by decide,show ¬((5:Int)=3) by decide,show ¬((5:Int)=4) by decide,decide_true,decide_false,rs,fa_t4',tk_s ho 1 rfl];by_cases hn:x.1.s=[110,117,108,108]
   ·simp only[decide_eq_true hn,i_t];exact tail (L:=[_,_]) 0 ho rfl (vnull_ret _) (by rw[hleafR hk6,Ps.leaf,if_neg (by omega),if_neg (by omega),if_neg (by omega),if_neg (by omega),if_pos (show x.1.s=Ps.nul from hn)];rfl)
   ·simp only[decide_eq_false hn,i_f];refine tail (L:=[_,_]) 0 ho rfl (vbool_ret _ _) ?_;rw[hleafR hk6,Ps.leaf,if_neg (by omega),if_neg (by omega),if_neg (by omega),if_neg (by omega),if_neg (show ¬x.1.s=Ps.nul from hn)];simp only[decide_eq_true_eq];rfl
  ·have hs2:x.1.s=[91]∨x.1.s=[60,60]:=by
    unfold Ps.begins at e3;rw[if_pos k6] at e3;simpa using e3
   rw[if_neg (show ¬x.1.k≠6 by rw[k6];simp)] at hob;simp only[k6,show ¬((6:Int)=1) by decide,show ¬((6:Int)=2) by decide,show ¬((6:Int)=3) by decide,show ¬((6:Int)=4) by decide,show ¬((6:Int)=5) by decide,decide_true,decide_false,rs,fa_t4',tk_s ho 1 rfl];rw[wrap64_id (by omega) (by omega),show (24:Int) - ((n+1:Nat):Int)+1=24 - (n:Int) by omega];have ho:OwnS (rmE b s x.1.t M).blk w w3 ([obE b6 ob0 nilS nilS,tokE b4 x.1]++([rdE b s x.1.t,.mem M]++[])):=ho;have ho:=ho.front.pair;have fin:∀{W:World} {N:Mem} {u:Value},R.2.2=0→M.le N→OV N.A N.w u R.1→OwnS (rmE b s x.1.t M).blk w W [rmE b s R.2.1 N,obE b6 ob0 nilS nilS,tokE b4 x.1] →
     DoX prog (mStore 42 (.pointer (some ⟨b6,0,none⟩)) u) W (pk K) fun _ w=>RetX prog [.cell (.pointer (some ⟨b6,0,none⟩)) 42] w K:=by
    intro W N u h0 hle hu ho;obtain⟨xk,xc,xcs,rfl,hx⟩:=hu.open;refine ob_put 1 hx.keys.one hx.kids.one ho rfl fun W2 ho=>?_;refine ret_v1 (rv_cell (ho.agg 1 rfl aggOb)) ?_;exact hret h0 _ N W2 _ ho.split hle hx.ov
   have fall:∀{W:World} {e2:Ent},¬R.2.2=0→OwnS (rmE b s x.1.t M).blk w W [.two e2 (.mem M),obE b6 ob0 nilS nilS,tokE b4 x.1]→pk K [wrongE R.2.2] W:=
    fun h0 ho=>hpan h0 _ M _ _ ho.split M.le_refl
   rcases hs2 with h2|h2
   ·simp only[decide_eq_true h2,i_t];rw[if_pos h2] at hob;have h:=harr b x.1.t M w3 (by omega) (by omega) (ho.at_ 0 rfl);rw[←hob] at h;exact c_rm ho 0 rfl h (fun v N w4 h0 hle hv ho=>fin h0 hle hv ho) fun e2 w4 h0 ho=>fall h0 ho
   ·have h91:¬x.1.s=[91]:=by rw[h2];decide
    simp only[decide_eq_false h91,i_f];rw[if_neg h91] at hob;have h:=hdict b x.1.t M w3 (by omega) (by omega) (ho.at_ 0 rfl);rw[←hob] at h;exact c_rm ho 0 rfl h (fun v N w4 h0 hle hv ho=>fin h0 hle hv ho) fun e2 w4 h0 ho=>fall h0 ho
end
section
open Eng Go.RowKit
def rdAt (b:Nat)(w:World):Nat:=match w.cell? ⟨b,1,none⟩ with|some (.int _ q)=>q.toNat|_=>0
theorem rdAt_is {b:Nat}{s:List UInt8}{a:Int}{w:World}(h:(rdE b s a).is w):rdAt b w=a.toNat:=by
 unfold rdAt;rw[cells_cell (T:=144) (cs:=rdC s a) (i:=1) h rfl]
theorem meas {n:Nat}{a b:Int}(h0:0≤a)(h:a < b)(hb:b≤n):n - b.toNat < n - a.toNat:=by omega
theorem arr_lacks {s:List UInt8}{ok:Bool}{n m:Nat}{a:Int}{acc:List Ob}(h:¬Has s a):Ps.arr s ok (Ps.obj s n) (m+1) a acc=Ps.bad (lacks s a):=by
 rw[Ps.arr];have h1:¬((Lx.next s a).2=0∧(Lx.next s a).1.k=6∧(Lx.next s a).1.s=[93]):=fun h2=>h ⟨h2.1,by rw[h2.2.1];decide⟩;rw[if_neg h1];by_cases e1:(Lx.next s a).2=0
 ·have e2:(Lx.next s a).1.k=0:=Classical.not_not.1 fun h2=>h ⟨e1,h2⟩;have hb:¬((Lx.next s a).2=0∧acc.length=8191∧Ps.begins (Lx.next s a).1=true∧ok=true):=fun h2=>by
   have:=h2.2.2.1;unfold Ps.begins at this;rw[if_neg (by rw[e2];decide),e2] at this;simp at this
  rw[if_neg hb,if_neg (by rw[e1];simp),obj_lacks h,if_pos (show (Ps.bad (lacks s a)).2.2≠0 from lacks_pos)];rfl
 ·rw[if_neg (fun h2=>e1 h2.1),if_pos e1];unfold lacks;rw[if_pos e1]
theorem parr_ret (s:List UInt8)(hs:s.length≤1000000000)(n:Nat)(hn:n≤23)(hsub:PObj s n):PArr s n:=by
 intro b a M w h0 h1 hr;generalize hR:Ps.arr s (decide (n≠0)) (Ps.obj s n) (s.length+1) a []=R;refine lent_of (fun K ho hret hpan=>S_parse_reader_array_ok ?_) hr;unfold S_parse_reader_array;have ho:=ho.pair.nilU 42 6;refine o_oba ho fun b4 w1 ho=>?_;have hb6:∀{PK:PKT} {K:VWP},DoX prog (mBuild 42 #[(0,(.int .i64 6))]) w1 PK K=K (obV (.mk 6 0 0 [] [] []) nilS nilS) w1:=do_eq (by kernel_rfl);rw[hb6];refine o_oba ho fun b5 w2 ho=>?_;refine ob_put (o':=.mk 6 0 0 [] [] []) (vk':=nilS) (vc':=nilS) 0 rfl rfl ho rfl fun w3 ho=>?_;generalize hS0:(rmE b s a M).blk=S0 at *;have ho:OwnS S0 w w3 [obE b5 (.mk 6 0 0 [] [] []) nilS nilS,obE b4 ob0 nilS nilS,kidE nilS 0 [],rmE b s a M]:=ho;have fall:∀{W:World} {L:List Ent} {e2:Ent} {N:Mem} (e:Int),OwnS S0 w W (L++([.two e2 (.mem N)]++[]))→M.le N→R=Ps.bad e→e≠0→pk K [wrongE e] W:=by
  intro W L e2 N e ho hle he h0;subst he;exact hpan h0 e2 N W _ (ho.front).split hle
 refine loop (fun vs w'=>∃(a':Int) (m:Nat) (acc:List Ob) (cs:List Value) (vc:Value) (N:Mem),vs=[]∧0≤a'∧a'≤s.length∧(acc.length:Int)≤a'∧acc.length≤8191∧acc.length+m=s.length+1 ∧
   Ps.arr s (decide (n≠0)) (Ps.obj s n) m a' acc=R∧M.le N∧OVs N.A N.w cs acc ∧
   OwnS S0 w w' [obE b5 (.mk 6 0 0 [] [] acc) nilS vc,obE b4 ob0 nilS nilS,kidE vc acc.length cs,rmE b s a' N]) (fun _ w=>s.length - rdAt b w)
  ⟨a,s.length+1,[],[],nilS,M,rfl,h0,h1,by simpa using h0,by simp,by simp,hR,M.le_refl,OVs.nil,ho⟩ ?_
 clear ho hR;rintro vs w4 ⟨a',m,acc,cs,vc,N,rfl,ha0,ha1,hla,hmx,hml,harr,hle,hall,ho⟩ _;simp only[S_parse_reader_array_0];obtain⟨m,rfl⟩:∃k,m=k+1:=⟨m - 1,by omega⟩;have hat:rdAt b w4=a'.toNat:=rdAt_is (ho.at_ 3 rfl).1;refine c_rm ho 3 rfl (pnext_ret b s a' N w4 (by omega) (ho.at_ 3 rfl)) ?_ fun e2 w5 hn ho=>?_
 rotate_left
 ·rw[arr_lacks hn] at harr;exact fall (L:=[_,_,_]) _ ho hle harr.symm lacks_pos
 rintro _ N1 w5 hhas hle1 rfl ho;have hbd:=@Lx.next_bd s a' hhas.1 hhas.2;have hge:=Lx.skip_ge s a'.toNat;have hopen:=@Ps.obj_open s n a';have hsubl:=fun (M:Mem) (w:World)=>hsub b a' M w hhas;have hbd2:=@Ps.obj_bd s n a';obtain⟨e1,e2⟩:=hhas;rw[Ps.arr] at harr;generalize Ps.obj s n a'=e at *;generalize Lx.next s a'=x at *
 have hvc:=urow_one (ho.at_ 2 rfl);refine o_tok ho fun b6 w6 ho=>?_;refine tk_put 0 ho rfl fun w7 ho=>?_;have ho:OwnS S0 w w7 [tokE b6 x.1,obE b5 (.mk 6 0 0 [] [] acc) nilS vc,obE b4 ob0 nilS nilS,kidE vc acc.length cs,rmE b s x.1.t N1]:=ho;rw[tk_v ho 0 rfl];refine c_below ho (R:=fun v=>v=.bool (decide (x.1.k=6)&&decide (x.1.s=[93]))) (pword_ret x.1 6 [93] w7) ?_;rintro _ w8 rfl ho;cases e3:(decide (x.1.k=6)&&decide (x.1.s=[93])) with
|true=>
  simp only[Bool.and_eq_true,decide_eq_true_eq] at e3;rw[if_pos ⟨e1,e3.1,e3.2⟩] at harr;simp only[i_t,ob_v ho 1 rfl];refine ob_put 2 rfl hvc ho rfl fun w9 ho=>?_;refine ret_v1 (rv_cell (ho.agg 2 rfl aggOb)) ?_;have ho:OwnS S0 w w9 ([tokE b6 x.1,obE b5 (.mk 6 0 0 [] [] acc) nilS vc,obE b4 (.mk 6 0 0 [] [] acc) nilS vc,kidE vc acc.length cs]++([rmE b s x.1.t N1]++[])):=ho;have ho:=ho.front.split;have ho:OwnS S0 w w9 ([rdE b s x.1.t,.mem N1,tokE b6 x.1,obE b5 (.mk 6 0 0 [] [] acc) nilS vc,obE b4 (.mk 6 0 0 [] [] acc) nilS vc]++([kidE vc acc.length cs]++[])):=ho;obtain⟨N2,hle2,hrow,ho⟩:=OwnS.freezeU (L:=[rdE b s x.1.t,.mem N1,tokE b6 x.1,obE b5 (.mk 6 0 0 [] [] acc) nilS vc,obE b4 (.mk 6 0 0 [] [] acc) nilS vc]) ho.front 1 rfl;subst harr;exact hret rfl _ N2 w9 _ ho ((hle.trans hle1).trans hle2) (ObAt.ov (o:=.mk 6 0 0 [] [] acc) ⟨SlA.nil _ _ _ _,hrow,(hall.le hle1).le hle2⟩)
|false=>
 have e3':¬(x.2=0∧x.1.k=6∧x.1.s=[93]):=fun h=>by
  rw[decide_eq_true h.2.1,decide_eq_true h.2.2] at e3;exact absurd e3 (by decide)
 rw[if_neg e3'] at harr;simp only[i_f];refine join fun J hJ=>?_
 -- the element
 have one:∀{W:World},OwnS S0 w W [tokE b6 x.1,obE b5 (.mk 6 0 0 [] [] acc) nilS vc,obE b4 ob0 nilS nilS,kidE vc acc.length cs,rmE b s x.1.t N1]→¬(acc.length=8191∧Ps.begins x.1=true∧n≠0)→J [] W:=by
  intro W ho h6;have h6':¬(x.2=0∧acc.length=8191∧Ps.begins x.1=true∧decide (n≠0)=true):=fun h=>h6 ⟨h.2.1,h.2.2.1,of_decide_eq_true h.2.2.2⟩;rw[if_neg h6',if_neg (by rw[e1];simp)] at harr;refine hJ _ _ fun _=>?_;unfold S_parse_reader_array_1;have ho:=ho.drew;refine⟨fun W=>(obE b5 (.mk 6 0 0 [] [] acc) nilS vc).is W∧(tokE b6 x.1).is W,⟨ho.at_ 1 rfl,ho.at_ 0 rfl⟩,?_⟩;refine hd_pure _ (fun _=>run_fa fo_o5) ?_;refine hd_do vc (fun W h=>run_load_cell nSlOb (cells_cell (T:=42) (cs:=obC (.mk 6 0 0 [] [] acc) nilS vc) (i:=5) h.1 rfl)) ?_;refine hd_do (tokV x.1) (fun W h=>run_load_at (AtV.agg aggTok (cs:=tokC x.1) rfl fun j u hj=>by rw[Nat.zero_add];exact cells_cell (T:=53) h.2 hj)) ?_;refine c_rm ho 4 rfl (hsubl N1 _ (ho.at_ 4 rfl)) ?_ fun e2 w9 hz ho=>?_
  rotate_left
  ·rw[if_pos hz] at harr;exact fun _ _ _ _ _ _=>fall (L:=[_,_,_,_]) _ ho (hle.trans hle1) harr.symm hz
  rintro u N2 w9 hz hle2 hu ho;have ho:OwnS S0 w w9 [tokE b6 x.1,obE b5 (.mk 6 0 0 [] [] acc) nilS vc,obE b4 ob0 nilS nilS,kidE vc acc.length cs,rmE b s e.2.1 N2]:=ho;obtain⟨xk,xc,xcs,rfl,hx⟩:=hu.open;refine⟨⟨ho.at_ 1 rfl,ho.at_ 0 rfl⟩,?_⟩;refine o_obs1 e.1 hx.keys.one hx.kids.one ho fun nb w10 ho=>⟨⟨ho.at_ 2 rfl,ho.at_ 1 rfl⟩,?_⟩;refine o_apO 4 ho rfl (ho.sl 0 rfl 6 1 1 rfl) (obC_one _ hx.keys.one hx.kids.one) (by omega) fun vc' w11 ho=>⟨⟨ho.at_ 2 rfl,ho.at_ 1 rfl⟩,?_⟩;have ho:=ho.tail.tail;have ho:OwnS S0 w w11 [obE b5 (.mk 6 0 0 [] [] acc) nilS vc,obE b4 ob0 nilS nilS,kidE vc' (acc.length+1) (cs++obC e.1 xk xc),rmE b s e.2.1 N2]:=ho;have hvc':=urow_one (ho.at_ 2 rfl);refine hd_pure _ (fun _=>run_fa fo_o5) ?_;refine o_store 0 ho rfl (by kernel_rfl) hvc' (show 0+5 < 6 by omega) fun w12 ho=>?_;have hbd3:=hbd2 hz;rw[if_neg (by rw[hz];simp)] at harr;obtain⟨o1,o2,o3,m',hm',_⟩:=hopen hz;have hmx':acc.length≠8191:=fun h=>h6 ⟨h,o3,by omega⟩;have el:(acc++[e.1]).length=acc.length+1:=by simp
  refine nextX ⟨e.2.1,m,acc++[e.1],cs++obC e.1 xk xc,vc',N2,rfl,by omega,hbd3.2,by simp;omega,by simp;omega,by simp;omega,harr,(hle.trans hle1).trans hle2,ovs_app ((hall.le hle1).le hle2) (ovs_1 hx.ov),?_⟩ ?_
  ·rw[el];exact ho
  ·have hat2:rdAt b w12=e.2.1.toNat:=rdAt_is (ho.at_ 3 rfl).1;show s.length - rdAt b w12 < s.length - rdAt b w4;rw[hat,hat2];exact meas ha0 hbd3.1 hbd3.2
 rw[tk_v ho 0 rfl];refine c_below ho (R:=fun v=>v=.bool (Ps.begins x.1)) (pfirst_ret x.1 w8 e2) ?_;rintro _ w9 rfl ho;cases e4:Ps.begins x.1 with
|false=>
  simp only[rs,g_un];exact one ho fun h=>by rw[e4] at h;exact absurd h.2.1 (by decide)
|true=>
  simp only[rs];by_cases e5:n=0
  ·have:¬(24:Int) - n < 24:=by omega
   simp only[decide_eq_false this,rs,g_un];exact one ho fun h=>h.2.2 e5
  ·have:(24:Int) - n < 24:=by omega
   simp only[decide_eq_true this,rs,fa_o5,ob_kids ho 1 rfl,sl_len Tryz.underlying40 (ho.slU 3 rfl)];by_cases e6:(8191:Int)≤(acc.length:Int)
   ·simp only[decide_eq_true e6,i_t];rw[if_pos ⟨e1,by omega,e4,decide_eq_true e5⟩] at harr;exact throw (fall (L:=[_,_,_,_]) 6 ho (hle.trans hle1) harr.symm (by decide))
   ·simp only[decide_eq_false e6,i_f];exact one ho fun h=>e6 (by omega)
end
section
open Eng Go.RowKit
def sortS (ks:List (List UInt8)):List (List UInt8):=ks.mergeSort fun x y=>decide (x≤y)
theorem sortS_len (ks:List (List UInt8)):(sortS ks).length=ks.length:=List.length_mergeSort _
theorem sortS_perm (ks:List (List UInt8)):(sortS ks).Perm ks:=List.mergeSort_perm _ _
theorem sortS_rise {ks l:List (List UInt8)}(hp:ks.Perm l)(hr:Vl.Rise l):sortS ks=l:=by
 have tr:∀a b c:List UInt8,decide (a≤b)=true→decide (b≤c)=true→decide (a≤c)=true:=fun a b c h1 h2=>by simp only[decide_eq_true_eq] at *;exact List.le_trans h1 h2
 have tt:∀a b:List UInt8,(decide (a≤b)||decide (b≤a))=true:=fun a b=>by simp only[Bool.or_eq_true,decide_eq_true_eq];exact List.le_total a b
 refine List.Perm.eq_of_pairwise (le:=fun a b=>decide (a≤b)=true) (fun a b _ _ h1 h2=>?_) (List.pairwise_mergeSort tr tt ks) (hr.imp fun {a b} h=>?_) ((sortS_perm ks).trans hp)
 ·simp only[decide_eq_true_eq] at h1 h2;exact List.le_antisymm h1 h2
 ·have:=(Vl.less_lt a b).1 h;simp only[decide_eq_true_eq];exact List.le_of_lt this
theorem ssort_ret (v:Value)(ks:List (List UInt8))(w:World)(h:(keyE v ks).is w)(hb:ks.length≤1000000000) :
  Ret prog 148 #[v] w (fun r w'=>r=.tuple #[]∧Turn (keyE v ks) (keyE v (sortS ks)) w w'):=by
 obtain⟨h1,h2⟩:=(show w.ownsRow 0 9 1 v ks.length (strsV ks) from h);rcases h2 with ⟨rfl,h0⟩|⟨g,cap,cur,rfl,hb0,hg,hnc,hcm,hcs,htake⟩
 ·have hk:ks=[]:=List.eq_nil_of_length_eq_zero h0;subst hk;refine Calls.mono (Tryz.slices_Sort_string_none none 0 w) ?_;rintro e w' ⟨rfl,rfl⟩;exact⟨_,rfl,rfl,by simpa[sortS] using Turn.refl h⟩
 ·rw[Nat.mul_one] at hcs htake;have hsz:ks.length≤cur.size:=by rw[hcs];exact hnc
  have hget:∀j,(hj:j < ks.length)→cur[j]?=some (Value.string ⟨ks[j].toArray⟩):=by
   intro j hj;have h3:(strsV ks)[j]?=some (.string ⟨ks[j].toArray⟩):=strsV_get hj;rw[←htake,List.getElem?_take,if_pos hj,Array.getElem?_toList] at h3;exact h3
  have hH:Go.Sort.Holds encStr w g 0 ks.toArray:=by
   intro j hj;have hj':j < ks.length:=by simpa using hj
   constructor
   ·unfold World.cell?;simp only[hg,Nat.zero_add];rw[hget j hj',getElem!_pos ks.toArray j hj];rfl
   ·unfold World.frozen?;simp only[hg,Nat.zero_add];simp
  refine Calls.mono (Tryz.slices_Sort_string g 0 cap ks w hH (lt_of_get hg) (by omega)) ?_;rintro e w' ⟨rfl,n,os,rfl⟩;refine⟨_,rfl,rfl,?_⟩;have hlen:=sortS_len ks;have hheap:∀k,k < w.heap.size→(Go.Sort.grow (Go.Sort.putRow encStr (Go.Sort.ahead w n) g 0 (sortS ks).toArray) os).heap[k]?=(if g=k then (w.heap[k]?).map (Go.Sort.onCells (Go.Sort.putCells encStr 0 (sortS ks).toArray)) else w.heap[k]?):=by
   intro k hk;show ((w.heap.modify g _)++os)[k]?=_;rw[Array.getElem?_append_left (by simpa using hk),Array.getElem?_modify]
  refine⟨⟨rfl,rfl,rfl,?_,fun k hk hn=>?_⟩,?_,fun k hk=>.inl hk⟩
  ·show w.heap.size≤((w.heap.modify g _)++os).size;simp
  ·have hne:g≠k:=fun e=>hn (by subst e;rfl);exact (hheap k hk).trans (if_neg hne)
  ·show (World.ownsRow _ 0 9 1 _ (sortS ks).length (strsV (sortS ks)));refine⟨by simp[strsV],.inr ⟨g,cap,Go.Sort.putCells encStr 0 (sortS ks).toArray cur,by rw[hlen],hb0,?_,by rw[hlen];exact hnc,hcm,?_,?_⟩⟩
   ·have:=hheap g (lt_of_get hg);rw[if_pos rfl,hg] at this;exact this
   ·simp[Go.Sort.putCells,hcs]
   ·rw[Nat.mul_one];apply List.ext_getElem?;intro j;rw[List.getElem?_take];by_cases hj:j < (sortS ks).length
    ·have hjc:j < cur.size:=by omega
     rw[if_pos hj,strsV_get hj,Array.getElem?_toList];unfold Go.Sort.putCells;rw[Array.getElem?_mapIdx,Array.getElem?_eq_getElem hjc,Option.map_some,if_pos ⟨by omega,by simpa using hj⟩,Nat.sub_zero,getElem!_pos (sortS ks).toArray j (by simpa using hj)];rfl
    ·rw[if_neg hj,List.getElem?_eq_none (by rw[strsV_length];omega)]
end
section
open Go
namespace Ps
abbrev Kv:=List UInt8×Ob
def live (l:List Kv):List (List UInt8):=(l.filter fun p=>decide (p.2.k≠0)).map (·.1)
structure Made (o:Ob) (l:List Kv):Prop where
 k:o.k=7
 n:o.n=0
 g:o.g=0
 s:o.s=[]
 rise:Vl.Rise o.keys
 len:o.keys.length=o.kids.length
 perm:(live l).Perm o.keys
 mem:∀q∈o.keys.zip o.kids,q∈l
theorem made0:Made dict0 []:=⟨rfl,rfl,rfl,rfl,List.Pairwise.nil,rfl,List.Perm.nil,fun q hq=>by simp[dict0,Ob.keys] at hq⟩
theorem live_snoc (l:List Kv)(p:Kv):live (l++[p])=live l++(if p.2.k≠0 then [p.1] else []):=by
 unfold live;rw[List.filter_append,List.map_append]
 congr 1
 by_cases h:p.2.k=0<;>simp[h]
theorem live_sub {l:List Kv}:∀k∈live l,k∈l.map (·.1):=by
 intro k hk;obtain⟨p,hp,rfl⟩:=List.mem_map.1 hk;exact List.mem_map.2 ⟨p,(List.mem_filter.1 hp).1,rfl⟩
theorem made_join {o v:Ob}{l:List Kv}{key:List UInt8}(h:Made o l)(hn:key ∉ l.map (·.1)):Made (join o key v) (l++[(key,v)]):=by
 unfold join;by_cases hv:v.k=0
 ·rw[if_neg (by rw[hv];simp)];refine⟨h.k,h.n,h.g,h.s,h.rise,h.len,?_,fun q hq=>List.mem_append_left _ (h.mem q hq)⟩;rw[live_snoc,if_neg (by rw[hv];simp),List.append_nil];exact h.perm
 ·rw[if_pos hv];have hko:key ∉ o.keys:=fun hk=>hn (live_sub _ (h.perm.symm.subset hk));have hhit:Vl.hit o.keys key=false:=by
   unfold Vl.hit;rw[decide_eq_false_iff_not];exact fun hk=>hko (List.mem_of_getElem? hk)
  have hput:Vl.put o key v=.mk o.k o.n o.g o.s (o.keys.take (Vl.place o.keys key)++key::o.keys.drop (Vl.place o.keys key)) (o.kids.take (Vl.place o.keys key)++v::o.kids.drop (Vl.place o.keys key)):=by
   unfold Vl.put;rw[hhit];rfl
  obtain⟨r1,r2⟩:=Vl.rise_put (v:=v) h.rise h.len (key:=key);refine⟨h.k,h.n,h.g,h.s,r1,r2,?_,?_⟩
  ·rw[live_snoc,if_pos hv,hput];refine (List.perm_append_singleton key (live l)).trans ?_;refine (List.Perm.cons key h.perm).trans ?_;have:=(List.perm_middle (a:=key) (l₁:=o.keys.take (Vl.place o.keys key)) (l₂:=o.keys.drop (Vl.place o.keys key))).symm
   rwa [List.take_append_drop] at this
  ·intro q hq;rw[hput] at hq;have hz:(o.keys.take (Vl.place o.keys key)++key::o.keys.drop (Vl.place o.keys key)).zip (o.kids.take (Vl.place o.keys key)++v::o.kids.drop (Vl.place o.keys key)) =
     (o.keys.take (Vl.place o.keys key)).zip (o.kids.take (Vl.place o.keys key))++(key,v)::(o.keys.drop (Vl.place o.keys key)).zip (o.kids.drop (Vl.place o.keys key)):=by
    rw[List.zip_append (by simp[h.len])];rfl
   have hq:q∈(o.keys.take (Vl.place o.keys key)++key::o.keys.drop (Vl.place o.keys key)).zip (o.kids.take (Vl.place o.keys key)++v::o.kids.drop (Vl.place o.keys key)):=hq;rw[hz] at hq;have hold:o.keys.zip o.kids=(o.keys.take (Vl.place o.keys key)).zip (o.kids.take (Vl.place o.keys key))++(o.keys.drop (Vl.place o.keys key)).zip (o.kids.drop (Vl.place o.keys key)):=by
    rw[←List.zip_append (by simp[h.len]),List.take_append_drop,List.take_append_drop]
   rcases List.mem_append.1 hq with hq|hq
   ·exact List.mem_append_left _ (h.mem q (by rw[hold];exact List.mem_append_left _ hq))
   ·rcases List.mem_cons.1 hq with hq|hq
    ·subst hq;simp
    ·exact List.mem_append_left _ (h.mem q (by rw[hold];exact List.mem_append_right _ hq))
theorem made_at {o:Ob}{l:List Kv}(h:Made o l){i:Nat}(hi:i < o.keys.length):(o.keys[i],o.kids[i]'(by have:=h.len;omega))∈l:=by
 refine h.mem _ ?_;have:(o.keys.zip o.kids)[i]'(by simp[h.len] at *;omega)=(o.keys[i],o.kids[i]'(by have:=h.len;omega)):=List.getElem_zip;rw[←this];exact List.getElem_mem _
end Ps
end
section
namespace Eng
open Go.RowKit
structure MapF (al:List (List UInt8×Value)) (es:Array MapEntry) (clock:Nat):Prop where
 al:es.toList.map (fun e=>(e.key,e.val))=al.map fun p=>(strK p.1,p.2)
 nodup:(es.toList.map (·.born)).Nodup
 old:∀e∈es.toList,e.born < clock
def Ent.mapB (b:Nat)(al:List (List UInt8×Value)):Ent:=⟨fun k=>k=b,fun w=>∃es clock,w.heap[b]?=some (.map es clock)∧MapF al es clock,fun {w w'} h k=>by
  obtain⟨es,clock,h1,h2⟩:=h;exact⟨es,clock,(k b rfl).trans h1,h2⟩,fun h k hk=>by
  obtain⟨es,clock,h1,h2⟩:=h;cases hk;exact lt_of_get h1⟩
theorem mapB_is {w:World}{b:Nat}{al:List (List UInt8×Value)}(h:(Ent.mapB b al).is w):MapIs w b al:=by
 obtain⟨es,clock,h1,h2⟩:=h;exact⟨es,clock,h1,h2.al⟩
def SeenM (es:Array MapEntry)(seen:Array Nat)(done:List (List UInt8×Value)):Prop:=
 ∃ds:List MapEntry,seen.toList=ds.map (·.born)∧(∀e∈ds,e∈es.toList)∧(ds.map (·.born)).Nodup∧ds.map (fun e=>(e.key,e.val))=done.map fun p=>(strK p.1,p.2)
theorem born_inj:∀{l:List MapEntry},(l.map (·.born)).Nodup→∀{x y:MapEntry},x∈l→y∈l→x.born=y.born→x=y
|[],_,_,_,hx,_,_=>by cases hx
|a::l,hn,x,y,hx,hy,h=>by
  rw[List.map_cons,List.nodup_cons] at hn;rcases List.mem_cons.1 hx with ex|hx
  ·rcases List.mem_cons.1 hy with ey|hy
   ·rw[ex,ey]
   ·exact absurd (List.mem_map.2 ⟨y,hy,by rw[←h,ex]⟩) hn.1
  ·rcases List.mem_cons.1 hy with ey|hy
   ·exact absurd (List.mem_map.2 ⟨x,hx,by rw[h,ey]⟩) hn.1
   ·exact born_inj hn.2 hx hy h
theorem nodup_of_born:∀{l:List MapEntry},(l.map (·.born)).Nodup→l.Nodup
|[],_=>List.nodup_nil
|a::l,h=>by
  rw[List.map_cons,List.nodup_cons] at h;exact List.nodup_cons.2 ⟨fun hm=>h.1 (List.mem_map.2 ⟨a,hm,rfl⟩),nodup_of_born h.2⟩
theorem nodup_le {α:Type}:∀(a b:List α),a.Nodup→(∀x∈a,x∈b)→a.length≤b.length
|[],_,_,_=>by simp
|x::a,b,hn,hs=>by
  obtain⟨u,v,rfl⟩:=List.append_of_mem (hs x List.mem_cons_self);obtain⟨h1,h2⟩:=List.nodup_cons.1 hn;have:=nodup_le a (u++v) h2 fun y hy=>by
   have hy':=hs y (List.mem_cons_of_mem _ hy);rw[List.mem_append,List.mem_cons] at hy';rw[List.mem_append];rcases hy' with h|h|h
   ·exact .inl h
   ·subst h;exact absurd hy h1
   ·exact .inr h
  simp only[List.length_append,List.length_cons] at this ⊢;omega
theorem perm_kv {a b:List (List UInt8×Value)}(h:(a.map fun p=>(strK p.1,p.2)).Perm (b.map fun p=>(strK p.1,p.2))):a.Perm b:=by
 -- a list that goes back
 let back:Value×Value→List UInt8×Value:=fun q=>(match q.1 with|.string s=>s.data.toList|_=>[],q.2)
 have hb:∀l:List (List UInt8×Value),(l.map fun p=>(strK p.1,p.2)).map back=l:=by
  intro l;rw[List.map_map]
  conv=>rhs;rw[←List.map_id l]
  refine List.map_congr_left fun p _=>?_;rfl
 have:=h.map back
 rwa [hb,hb] at this
section
variable {S:Nat→Prop}{P:Program}{w w0:World}{L:List Ent}{PK:PKT}{K:VWP}
theorem o_mapNewB {T:TypeId}(ho:OwnS S w0 w L)(k:∀b w',OwnS S w0 w' (.mapB b []::L)→K (.map (some b)) w'):DoX P (mMap T none) w PK K:=by
 have hr:(Instr.makeMap T none).run P w=.ok (.map (some w.heap.size)) (w.alloc (.map #[] 0)):=rfl;exact do_ok (mv_run hr) (k _ _ (ho.add (World.grownBy_alloc w _ none) (.mapB w.heap.size []) ⟨#[],0,heap_alloc_new w _,rfl,List.nodup_nil,fun e he=>by simp at he⟩ (fun k hk=>by cases hk;exact Nat.le_refl _)))
theorem o_mapAddB (i:Nat){T k e:TypeId}{b:Nat}{al:List (List UInt8×Value)}(ht:P.underlying T=some (.map k e))(hk:P.underlying k=some .string)(ho:OwnS S w0 w L)(hi:L[i]?=some (.mapB b al))(x:List UInt8)(v:Value)(hn:lookA al x=none)
  (kk:∀w',OwnS S w0 w' (L.set i (.mapB b (al++[(x,v)])))→K undef w'):DoX P (mMapU T (.map (some b)) (strK x) v) w PK K:=by
 obtain⟨es,clock,h1,h2⟩:=(show ∃es clock,w.heap[b]?=some (.map es clock)∧MapF al es clock from ho.at_ i hi);obtain⟨r,r1,r2⟩:=run_findStr (P:=P) (w:=w) hk x h2.al;have hr0:r=none:=by
  cases r with
 |none=>rfl
 |some p=>rw[hn] at r2;cases r2
 subst hr0;have hr:(Instr.mapUpdate T (.map (some b)) (strK x) v).run P w=.ok () { w with heap:=w.heap.setIfInBounds b (.map (es.push { key:=strK x,val:=v,born:=clock }) (clock+1)) }:=by
  simp[Instr.mapUpdate,run_underlying ht,getObj,setObj,Sem.run,h1,run_checkStr hk x,r1]
 refine do_skip (mu_run hr) (kk _ ?_);refine ho.put i hi (w':={ w with heap:=w.heap.setIfInBounds b _ }) ⟨rfl,rfl,rfl,by simp,fun k _ hk=>?_⟩ (.mapB b (al++[(x,v)])) ?_ (fun k hk=>.inl hk)
 ·show (w.heap.setIfInBounds b _)[k]?=_;exact Array.getElem?_setIfInBounds_ne (fun e=>hk (by simp[Ent.mapB,e]))
 ·refine⟨es.push { key:=strK x,val:=v,born:=clock },clock+1,?_,?_,?_,?_⟩
  ·show (w.heap.setIfInBounds b _)[b]?=_;exact Array.getElem?_setIfInBounds_self_of_lt (lt_of_get h1)
  ·simp[h2.al]
  ·rw[Array.toList_push,List.map_append,List.nodup_append];refine⟨h2.nodup,by simp,fun a ha c hc=>?_⟩;obtain⟨e,he,rfl⟩:=List.mem_map.1 ha;have:=h2.old e he;simp at hc;omega
  ·intro e he;rw[Array.toList_push] at he;rcases List.mem_append.1 he with he|he
   ·have:=h2.old e he;omega
   ·rw[List.mem_singleton] at he;subst he;exact Nat.lt_succ_self _
theorem OwnS.openM {b:Nat}{al:List (List UInt8×Value)}(ho:OwnS S w0 w L)(i:Nat)(hi:L[i]?=some (.mapB b al)):∃es clock,MapF al es clock∧OwnS S w0 w (L.set i (.obj b (.map es clock))):=by
 obtain⟨es,clock,h1,h2⟩:=(show ∃es clock,w.heap[b]?=some (.map es clock)∧MapF al es clock from ho.at_ i hi);exact⟨es,clock,h2,ho.turn i hi ⟨Grew.refl _ _,h1,fun _ hk=>.inl hk⟩⟩
theorem OwnS.shutM {b:Nat}{al:List (List UInt8×Value)}{es:Array MapEntry}{clock:Nat}(ho:OwnS S w0 w L)(i:Nat)(hi:L[i]?=some (.obj b (.map es clock)))(hf:MapF al es clock):OwnS S w0 w (L.set i (.mapB b al)):=
 ho.turn i hi ⟨Grew.refl _ _,⟨es,clock,ho.at_ i hi,hf⟩,fun _ hk=>.inl hk⟩
theorem o_rangeM (i:Nat){T k e:TypeId}{m clock:Nat}{es:Array MapEntry}(ht:P.underlying T=some (.map k e))(ho:OwnS S w0 w L)(hi:L[i]?=some (.obj m (.map es clock)))
  (kk:∀b w',OwnS S w0 w' (.obj b (.mapIter (some m) clock #[] clock)::L)→K (.pointer (some ⟨b,0,none⟩)) w'):DoX P (mRange T (.map (some m))) w PK K:=by
 have h1:w.heap[m]?=some (.map es clock):=ho.at_ i hi;have hr:=run_range_map (P:=P) w T k e m es clock ht h1;exact do_ok (mv_run hr) (kk _ _ (ho.allocObj _))
theorem seen_nil (es:Array MapEntry):SeenM es #[] []:=⟨[],rfl,(fun e he=>by cases he),List.nodup_nil,rfl⟩
theorem o_nextM (i j:Nat){b m clock:Nat}{es:Array MapEntry}{seen:Array Nat}{al done:List (List UInt8×Value)}{ty:TypeId}(ho:OwnS S w0 w L)(hi:L[i]?=some (.obj b (.mapIter (some m) clock seen clock)))(hj:L[j]?=some (.obj m (.map es clock)))
  (hf:MapF al es clock) (hs:SeenM es seen done) (kend:done.Perm al→K (.tuple #[.bool false]) w)
  (knext:∀(p:List UInt8×Value) (e:MapEntry) (w':World),p∈al→p ∉ done∨True→e∈es.toList→e.key=strK p.1→e.val=p.2→SeenM es (seen.push e.born) (done++[p])→done.length < al.length →
   OwnS S w0 w' (L.set i (.obj b (.mapIter (some m) clock (seen.push e.born) clock)))→K (.tuple #[.bool true,strK p.1,p.2]) w') :
  DoX P (mNext (.pointer (some ⟨b,0,none⟩)) false ty) w PK K:=by
 have h1:w.heap[b]?=some (.mapIter (some m) clock seen clock):=ho.at_ i hi;have h2:w.heap[m]?=some (.map es clock):=ho.at_ j hj;obtain⟨ds,d1,d2,d3,d4⟩:=hs;have hds:ds.length=done.length:=by simpa using congrArg List.length d4
 have hel:es.toList.length=al.length:=by simpa using congrArg List.length hf.al
 rcases Go.run_next_at (P:=P) w ty b m clock clock seen es clock h1 h2 hf.old (Nat.le_refl _) with ⟨hl,hr⟩|⟨e,he,w1,hw1,hr⟩
 ·refine do_ok (mv_run hr) (kend ?_)
  -- all have come
  have hall:∀x∈es.toList,x∈ds:=by
   intro x hx;have hc:seen.contains x.born=true:=by
    cases hcc:seen.contains x.born with
   |true=>rfl
   |false=>
     exfalso;have hm:x∈(leftOf es seen).toList:=by
      unfold leftOf;rw[Array.toList_filter,List.mem_filter];exact⟨hx,by simp only[hcc];rfl⟩
     have:0 < (leftOf es seen).size:=by
      rw[←Array.length_toList];exact List.length_pos_of_mem hm
     omega
   have hm:x.born∈seen.toList:=by simpa using hc
   rw[d1] at hm;obtain⟨y,hy,hyb⟩:=List.mem_map.1 hm;rw[←born_inj hf.nodup (d2 y hy) hx hyb];exact hy
  have hp:ds.Perm es.toList:=(List.perm_ext_iff_of_nodup (nodup_of_born d3) (nodup_of_born hf.nodup)).2 fun x=>⟨d2 x,hall x⟩;have:=hp.map fun e=>(e.key,e.val);rw[d4,hf.al] at this;exact perm_kv this
 ·-- one comes
  have hem:e∈es.toList∧seen.contains e.born=false:=by
   unfold leftOf at he;rw[Array.toList_filter,List.mem_filter] at he;exact⟨he.1,by simpa using he.2⟩
  have hk:(e.key,e.val)∈es.toList.map (fun e=>(e.key,e.val)):=List.mem_map.2 ⟨e,hem.1,rfl⟩;rw[hf.al] at hk;obtain⟨p,hp,hpe⟩:=List.mem_map.1 hk;simp only[Prod.mk.injEq] at hpe;have hnb:e.born ∉ ds.map (·.born):=by
   rw[←d1];intro hm;have:seen.contains e.born=true:=by simpa using hm
   rw[hem.2] at this;cases this
  have hs':SeenM es (seen.push e.born) (done++[p]):=by
   refine⟨ds++[e],by simp[d1],?_,?_,?_⟩
   ·intro x hx;rcases List.mem_append.1 hx with hx|hx
    ·exact d2 x hx
    ·rw[List.mem_singleton] at hx;subst hx;exact hem.1
   ·rw[List.map_append,List.nodup_append];refine⟨d3,by simp,fun a ha c hc=>?_⟩;simp at hc;subst hc;intro e2;exact hnb (by rw[←e2];exact ha)
   ·simp[d4,hpe.1,hpe.2]
  have hlt:done.length < al.length:=by
   rw[←hds,←hel];exact nodup_le (e::ds) es.toList (List.nodup_cons.2 ⟨fun hm=>hnb (List.mem_map.2 ⟨e,hm,rfl⟩),nodup_of_born d3⟩) (fun x hx=>by
    rcases List.mem_cons.1 hx with rfl|hx
    ·exact hem.1
    ·exact d2 x hx)
  have how:OwnS S w0 w1 L:=by
   rcases hw1 with rfl|rfl
   ·exact ho
   ·exact ho.drew
  have hkk:=put_iter (o':=.mapIter (some m) clock (seen.push e.born) clock) how i hi;rw[←hpe.1,←hpe.2] at hr;exact do_ok (mv_run hr) (knext p e _ hp (.inr trivial) hem.1 hpe.1.symm hpe.2.symm hs' hlt hkk)
theorem e_entry (i j:Nat){b m clock:Nat}{es:Array MapEntry}{seen:Array Nat}{e:MapEntry}{al:List (List UInt8×Value)}(ho:OwnS S w0 w L)(hi:L[i]?=some (.obj b (.mapIter (some m) clock (seen.push e.born) clock)))(hj:L[j]?=some (.obj m (.map es clock)))
  (hf:MapF al es clock) (he:e∈es.toList):DoX P (mEntry (.pointer (some ⟨b,0,none⟩))) w PK K=K (.tuple #[e.key,e.val]) w:=
 do_eq (mv_run (run_entry_at (P:=P) w b m clock seen es clock e (ho.at_ i hi) (ho.at_ j hj) he hf.nodup))
end
end Eng
end
section
open Eng Go.RowKit
def KvR (A:Nat→Prop)(w:World):List (List UInt8×Value)→List Ps.Kv→Prop
|[],[]=>True
|p::al,q::l=>p.1=q.1∧OV A w p.2 q.2∧KvR A w al l
|_,_=>False
theorem KvR.le {M N:Mem}(h:M.le N):∀{al:List (List UInt8×Value)} {l:List Ps.Kv},KvR M.A M.w al l→KvR N.A N.w al l
|[],[],_=>trivial
|_::_,_::_,⟨h1,h2,h3⟩=>⟨h1,h2.le h,KvR.le h h3⟩
|[],_::_,h=>h.elim
|_::_,[],h=>h.elim
section
variable {A:Nat→Prop}{w:World}
theorem KvR.fst:∀{al:List (List UInt8×Value)} {l:List Ps.Kv},KvR A w al l→al.map (·.1)=l.map (·.1)
|[],[],_=>rfl
|_::_,_::_,⟨h1,_,h3⟩=>by rw[List.map_cons,List.map_cons,h1,KvR.fst h3]
|[],_::_,h=>h.elim
|_::_,[],h=>h.elim
theorem KvR.snoc {k:List UInt8}{v:Value}{o:Ob}(hv:OV A w v o):∀{al:List (List UInt8×Value)} {l:List Ps.Kv},KvR A w al l→KvR A w (al++[(k,v)]) (l++[(k,o)])
|[],[],_=>⟨rfl,hv,trivial⟩
|_::_,_::_,⟨h1,h2,h3⟩=>⟨h1,h2,KvR.snoc hv h3⟩
|[],_::_,h=>h.elim
|_::_,[],h=>h.elim
theorem KvR.mem:∀{al:List (List UInt8×Value)} {l:List Ps.Kv},KvR A w al l→∀{p:List UInt8×Value},p∈al→∃o,(p.1,o)∈l∧OV A w p.2 o
|[],_,_,p,hp=>by cases hp
|a::_,b::_,⟨h1,h2,h3⟩,p,hp=>by
  rcases List.mem_cons.1 hp with rfl|hp
  ·exact⟨b.2,by rw[h1];exact List.mem_cons_self,h2⟩
  ·obtain⟨o,ho,hv⟩:=KvR.mem h3 hp;exact⟨o,List.mem_cons_of_mem _ ho,hv⟩
|_::_,[],h,_,_=>h.elim
theorem KvR.look {k:List UInt8}{o:Ob}:∀{al:List (List UInt8×Value)} {l:List Ps.Kv},KvR A w al l→(l.map (·.1)).Nodup→(k,o)∈l→∃v,lookA al k=some v∧OV A w v o
|[],[],_,_,hm=>by cases hm
|p::al,q::l,⟨h1,h2,h3⟩,hn,hm=>by
  rw[List.map_cons,List.nodup_cons] at hn;by_cases hk:p.1=k
  ·have hq:(k,o)=q:=by
    rcases List.mem_cons.1 hm with h|h
    ·exact h
    ·exact absurd (List.mem_map.2 ⟨(k,o),h,by rw[←h1,hk]⟩) hn.1
   refine⟨p.2,by unfold lookA;rw[List.find?_cons_of_pos (by simpa using hk)];rfl,?_⟩;rw[←hq] at h2;exact h2
  ·have hm':(k,o)∈l:=by
    rcases List.mem_cons.1 hm with h|h
    ·exact absurd (by rw[h1,←h]) hk
    ·exact h
   obtain⟨v,hv,ho⟩:=KvR.look h3 hn.2 hm';refine⟨v,?_,ho⟩;unfold lookA at hv ⊢;rw[List.find?_cons_of_neg (by simpa using hk)];exact hv
|[],_::_,h,_,_=>h.elim
|_::_,[],h,_,_=>h.elim
def kindV:Value→Int
|.agg cs=>match cs.toList with|.int _ k::_=>k|_=>0
|_=>0
theorem kindV_of {v:Value}{o:Ob}(h:OV A w v o):kindV v=o.k:=by
 obtain⟨vk,vc,cs,rfl,_⟩:=h.open;rfl
def liveV (al:List (List UInt8×Value)):List (List UInt8):=(al.filter fun p=>decide (kindV p.2≠0)).map (·.1)
theorem KvR.live:∀{al:List (List UInt8×Value)} {l:List Ps.Kv},KvR A w al l→liveV al=Ps.live l
|[],[],_=>rfl
|p::al,q::l,⟨h1,h2,h3⟩=>by
  have ih:=KvR.live h3;unfold liveV Ps.live at *;rw[List.filter_cons,List.filter_cons,kindV_of h2];split
  ·rw[List.map_cons,List.map_cons,ih,h1]
  ·exact ih
|[],_::_,h=>h.elim
|_::_,[],h=>h.elim
theorem liveV_snoc (al:List (List UInt8×Value))(p:List UInt8×Value):liveV (al++[p])=liveV al++(if kindV p.2≠0 then [p.1] else []):=by
 unfold liveV;rw[List.filter_append,List.map_append]
 congr 1
 by_cases h:kindV p.2=0<;>simp[h]
theorem liveV_perm {a b:List (List UInt8×Value)}(h:a.Perm b):(liveV a).Perm (liveV b):=(h.filter _).map _
theorem liveV_len (al:List (List UInt8×Value)):(liveV al).length≤al.length:=by
 unfold liveV;rw[List.length_map];exact List.length_filter_le _ _
end
section
variable {w:World}{PK:PKT}{K:VWP}{S:Nat→Prop}{w0:World}{L:List Ent}
theorem zOb:(Tryz.prog.info? 42).bind (·.zero)=some (obV ob0 nilS nilS):=by kernel_rfl
theorem lookT (i:Nat){b:Nat}{al:List (List UInt8×Value)}(ho:OwnS S w0 w L)(hi:L[i]?=some (.mapB b al))(x:List UInt8) :
  DoX prog (mLook 182 (.map (some b)) (.string ⟨x.toArray⟩) true) w PK K=K (.tuple #[(lookA al x).getD (obV ob0 nilS nilS),.bool (lookA al x).isSome]) w:=
 do_eq (run_look (ok:=true) Tryz.underlying182 Tryz.underlying9 zOb (mapB_is (ho.at_ i hi)) x)
theorem lookF (i:Nat){b:Nat}{al:List (List UInt8×Value)}(ho:OwnS S w0 w L)(hi:L[i]?=some (.mapB b al)){x:List UInt8}{v:Value}(hv:lookA al x=some v) :
  DoX prog (mLook 182 (.map (some b)) (.string ⟨x.toArray⟩) false) w PK K=K v w:=by
 have:=do_eq (PK:=PK) (K:=K) (run_look (ok:=false) Tryz.underlying182 Tryz.underlying9 zOb (mapB_is (ho.at_ i hi)) x);rw[hv] at this;exact this
theorem lenM (i:Nat){b:Nat}{al:List (List UInt8×Value)}{cs:Array Bool}(ho:OwnS S w0 w L)(hi:L[i]?=some (.mapB b al)) :
  DoX prog (mB .len #[182] 3 cs #[.map (some b)]) w PK K=K (.int .i64 (al.length:Int)) w:=by
 obtain⟨es,clock,h1,h2⟩:=(show ∃es clock,w.heap[b]?=some (.map es clock)∧MapF al es clock from ho.at_ i hi);have hl:es.size=al.length:=by
  have:=congrArg List.length h2.al;simpa using this
 refine do_eq ?_;simp[mB,builtin,Builtin.len_,run_underlying Tryz.underlying182,getObj,h1,goInt,hl,Sem.run]
end
def itAt (b:Nat)(w:World):Nat:=match w.heap[b]? with|some (.mapIter _ _ seen _)=>seen.size|_=>0
theorem itAt_is {b:Nat}{m clock:Nat}{seen:Array Nat}{w:World}(h:(Ent.obj b (.mapIter (some m) clock seen clock)).is w):itAt b w=seen.size:=by
 unfold itAt;rw[show w.heap[b]?=_ from h]
theorem seen_size {es:Array MapEntry}{seen:Array Nat}{done:List (List UInt8×Value)}(h:SeenM es seen done):seen.size=done.length:=by
 obtain⟨ds,d1,_,_,d4⟩:=h;rw[←Array.length_toList,d1,List.length_map];simpa using congrArg List.length d4
theorem pbuild {S0:Nat→Prop}{w W:World}{b b4 b5 b9:Nat}{s:List UInt8}{a:Int}{N:Mem}{al:List (List UInt8×Value)}{l:List Ps.Kv}{o:Ob}{K:Ending→World→Prop}
  (hkv:KvR N.A N.w al l) (hnd:(l.map (·.1)).Nodup) (hmade:Ps.Made o l) (hlen:l.length≤8191)
  (ho:OwnS S0 w W [obE b9 Ps.dict0 nilS nilS,keyE nilS [],kidE nilS 0 [],obE b4 ob0 nilS nilS,.mapB b5 al,rmE b s a N])
  (kend:∀(W':World) (N2:Mem) (L:List Ent) (v:Value),OwnS S0 w W' (rdE b s a::.mem N2::L)→N.le N2→OV N2.A N2.w v o→K (.returned v) W') :
  DoX prog (mRange 182 (.map (some b5))) W (pk K) fun t49 w=>LoopX [] w (fun vs2 w N2=>∀_:Sg,S_parse_reader_dict_1 (.pointer (some ⟨b4,0,none⟩)) (.map (some b5)) (.pointer (some ⟨b9,0,none⟩)) t49 w N2 K):=by
 have hall:al.length=l.length:=by simpa using congrArg List.length hkv.fst
 obtain⟨es,clock,hf,ho⟩:=ho.openM 4 rfl;refine o_rangeM 4 Tryz.underlying182 ho rfl fun it w1 ho=>?_;refine loop (fun vs w'=>∃(seen:Array Nat) (done:List (List UInt8×Value)) (vk:Value),vs=[]∧SeenM es seen done∧done.length≤al.length∧(∀p∈done,p∈al) ∧
   OwnS S0 w w' [.obj it (.mapIter (some b5) clock seen clock),obE b9 Ps.dict0 vk nilS,keyE vk (liveV done),kidE nilS 0 [],obE b4 ob0 nilS nilS,.obj b5 (.map es clock),rmE b s a N]) (fun _ w=>al.length - itAt it w)
  ⟨#[],[],nilS,rfl,seen_nil es,by simp,by simp,ho⟩ ?_
 clear ho;rintro vs w2 ⟨seen,done,vk,rfl,hs,hdl,hda,ho⟩ _;simp only[S_parse_reader_dict_1];have hit:itAt it w2=seen.size:=itAt_is (ho.at_ 0 rfl);have hss:=seen_size hs;refine o_nextM 0 5 ho rfl rfl hf hs (fun hperm=>?_) fun p e w3 hpa _ he hek hev hs' hlt ho=>?_
 ·-- all have come
  simp only[ex,i_f];have ho:=ho.tail;have ho:OwnS S0 w w2 [obE b9 Ps.dict0 vk nilS,keyE vk (liveV done),kidE nilS 0 [],obE b4 ob0 nilS nilS,.obj b5 (.map es clock),rmE b s a N]:=ho;have ho:=ho.shutM 4 rfl hf;have ho:OwnS S0 w w2 [obE b9 Ps.dict0 vk nilS,keyE vk (liveV done),kidE nilS 0 [],obE b4 ob0 nilS nilS,.mapB b5 al,rmE b s a N]:=ho;rw[fa_o4,ob_keys ho 0 rfl];have hll:=liveV_len done;refine c_ret (ssort_ret vk (liveV done) w2 (ho.at_ 1 rfl) (by omega)) ?_;rintro _ w3 ⟨rfl,ht⟩;have ho:=ho.turn 1 rfl ht;have hsort:sortS (liveV done)=o.keys:=sortS_rise ((liveV_perm hperm).trans (by rw[hkv.live];exact hmade.perm)) hmade.rise;rw[hsort] at ho;have ho:OwnS S0 w w3 [obE b9 Ps.dict0 vk nilS,keyE vk o.keys,kidE nilS 0 [],obE b4 ob0 nilS nilS,.mapB b5 al,rmE b s a N]:=ho;have hkl:o.keys.length≤8191:=by
   have h1:=hmade.perm.length_eq;have h2:=hkv.live (A:=N.A);have h3:=liveV_len al;rw[←h1,←h2];omega
  rw[fa_o4,ob_keys ho 0 rfl,sl_len Tryz.underlying39 (ho.slU 1 rfl)];refine loop (fun vs w'=>∃(i:Nat) (cs:List Value) (vc:Value),vs=[.int .i64 i]∧i≤o.keys.length∧OVs N.A N.w cs (o.kids.take i) ∧
   OwnS S0 w w' [obE b9 Ps.dict0 vk vc,keyE vk o.keys,kidE vc i cs,obE b4 ob0 nilS nilS,.mapB b5 al,rmE b s a N]) (fun vs _=>o.keys.length - n0 vs) ⟨0,[],nilS,rfl,by omega,OVs.nil,ho⟩ ?_
  clear ho;rintro vs w4 ⟨i,cs,vc,rfl,hi,hov,ho⟩ _;simp only[S_parse_reader_dict_2,gd,rs];by_cases hlt:(i:Int) < (o.keys.length:Int)
  ·have hi':i < o.keys.length:=by omega
   simp only[decide_eq_true hlt,i_t];obtain⟨g,cap,_,ia,ld⟩:=key_row 1 ho rfl hi';refine do_eq (ia w4) |>.mpr (do_eq (ld w4 (ho.at_ 1 rfl)) |>.mpr ?_);rw[fa_o5,ob_kids ho 0 rfl];obtain⟨v,hv,hvo⟩:=hkv.look hnd (Ps.made_at hmade hi');rw[lookF 4 ho rfl hv];obtain⟨xk,xc,xcs,rfl,hx⟩:=hvo.open;refine o_obs1 _ hx.keys.one hx.kids.one ho fun nb w5 ho=>?_;refine o_apO 3 ho rfl (ho.sl 0 rfl 6 1 1 rfl) (obC_one _ hx.keys.one hx.kids.one) (by omega) fun vc' w6 ho=>?_;have ho:=ho.tail;have hvc':=urow_one (ho.at_ 2 rfl);rw[fa_o5];refine o_store 0 ho rfl (by kernel_rfl) hvc' (show 0+5 < 6 by omega) fun w7 ho=>?_;rw[wrap64_id (by omega) (by omega)];refine nextX ⟨i+1,_,vc',rfl,by omega,?_,ho⟩ (by show o.keys.length - Int.toNat ((i:Int)+1) < o.keys.length - Int.toNat (i:Int);omega);have hkl2:i < o.kids.length:=by have:=hmade.len;omega
   rw[List.take_succ_eq_append_getElem hkl2];exact ovs_app hov (ovs_1 hx.ov)
  ·have hi':i=o.keys.length:=by omega
   simp only[decide_eq_false hlt,i_f];subst hi';rw[hmade.len,List.take_length] at hov;have hvk:=urow_one (ho.at_ 1 rfl);have hvc:=urow_one (ho.at_ 2 rfl);rw[ob_v ho 0 rfl];refine ob_put (o':=Ps.dict0) 3 hvk hvc ho rfl fun w5 ho=>?_;refine ret_v1 (rv_cell (ho.agg 3 rfl aggOb)) ?_;have ho:OwnS S0 w w5 ([obE b9 Ps.dict0 vk vc,keyE vk o.keys,kidE vc o.keys.length cs,obE b4 Ps.dict0 vk vc,.mapB b5 al]++([rmE b s a N]++[])):=ho;have ho:=ho.front.split;have ho:OwnS S0 w w5 ([rdE b s a,.mem N,obE b9 Ps.dict0 vk vc]++([keyE vk o.keys,kidE vc o.keys.length cs]++[obE b4 Ps.dict0 vk vc,.mapB b5 al])):=ho;have ho:=ho.front;obtain⟨N2,hle2,hrow2,ho⟩:=OwnS.freezeU (L:=[kidE vc o.keys.length cs,rdE b s a,.mem N,obE b9 Ps.dict0 vk vc,obE b4 Ps.dict0 vk vc,.mapB b5 al]) ho 2 rfl;obtain⟨N3,hle3,hrow3,ho⟩:=OwnS.freezeU (L:=[rdE b s a,.mem N2,obE b9 Ps.dict0 vk vc,obE b4 Ps.dict0 vk vc,.mapB b5 al]) ho 1 rfl;have hval:obV Ps.dict0 vk vc=obV o vk vc:=by
    unfold obV obC;rw[hmade.k,hmade.n,hmade.g,hmade.s];rfl
   refine kend w5 N3 _ _ ho (hle2.trans hle3) ?_;show OV N3.A N3.w (obV Ps.dict0 vk vc) o;rw[hval];rw[hmade.len] at hrow3;exact ObAt.ov ⟨hrow2.le hle3,hrow3,(hov.le hle2).le hle3⟩
 ·simp only[ex,i_t];have ho:OwnS S0 w w3 [.obj it (.mapIter (some b5) clock (seen.push e.born) clock),obE b9 Ps.dict0 vk nilS,keyE vk (liveV done),kidE nilS 0 [],obE b4 ob0 nilS nilS,.obj b5 (.map es clock),rmE b s a N]:=ho;rw[e_entry 0 5 ho rfl rfl hf he,hek,hev];simp only[ex];obtain⟨x,hxl,hxo⟩:=hkv.mem hpa;have hkind:=kindV_of hxo;obtain⟨xk,xc,xcs,hpe,hx⟩:=hxo.open;obtain⟨pk1,pv⟩:=p;simp only at hpe hkind;subst hpe;refine o_oba ho fun b11 w4 ho=>?_;refine ob_put (o':=x) 0 hx.keys.one hx.kids.one ho rfl fun w5 ho=>?_;have ho:OwnS S0 w w5 [obE b11 x xk xc,.obj it (.mapIter (some b5) clock (seen.push e.born) clock),obE b9 Ps.dict0 vk nilS,keyE vk (liveV done),kidE nilS 0 [],obE b4 ob0 nilS nilS,.obj b5 (.map es clock),rmE b s a N]:=ho;rw[fa_o0,ob_k ho 0 rfl];simp only[rs];have hsn:=liveV_snoc done (pk1,obV x xk xc);have mea:∀{W:World} {L:List Ent},OwnS S0 w W L→L[0]?=some (.obj it (.mapIter (some b5) clock (seen.push e.born) clock))→al.length - itAt it W < al.length - itAt it w2:=by
   intro W L ho hi;rw[hit,itAt_is (ho.at_ 0 hi),Array.size_push];omega
  have hda':∀q∈done++[(pk1,obV x xk xc)],q∈al:=by
   intro q hq;rcases List.mem_append.1 hq with hq|hq
   ·exact hda q hq
   ·rw[List.mem_singleton] at hq;subst hq;exact hpa
  by_cases hk:x.k=0
  ·simp only[hk,ne_eq,not_true,decide_false,i_f];rw[if_neg (by rw[hkind,hk];simp),List.append_nil] at hsn;refine nextX ⟨_,done++[(pk1,obV x xk xc)],vk,rfl,hs',by simp;omega,hda',?_⟩ (mea ho.tail rfl);rw[hsn];exact ho.tail
  ·simp only[hk,ne_eq,not_false_eq_true,decide_true,i_t];rw[if_pos (by rw[hkind];exact hk)] at hsn;rw[fa_o4,ob_keys ho 2 rfl];have hll:=liveV_len done;show DoX prog (mBuildS 39 1 #[(0,.string ⟨pk1.toArray⟩)]) w5 _ _;refine o_strb1 pk1 ho fun nb w6 ho=>?_;refine o_apS 4 ho rfl (ho.sl 0 rfl 1 1 1 rfl) (by simp[Value.oneCell']) (by omega) fun vk' w7 ho=>?_;have ho:=ho.tail.tail;have ho:OwnS S0 w w7 [.obj it (.mapIter (some b5) clock (seen.push e.born) clock),obE b9 Ps.dict0 vk nilS,keyE vk' (liveV done++[pk1]),kidE nilS 0 [],obE b4 ob0 nilS nilS,.obj b5 (.map es clock),rmE b s a N]:=by
    have e:strsV (liveV done++[pk1])=strsV (liveV done)++[.string ⟨pk1.toArray⟩]:=by rw[strsV_app];rfl
    rw[keyE,List.length_append,List.length_singleton,e];exact ho
   have hvk':=urow_one (ho.at_ 2 rfl);rw[fa_o4];refine o_store 1 ho rfl (by kernel_rfl) hvk' (show 0+4 < 6 by omega) fun w8 ho=>?_;refine nextX ⟨_,done++[(pk1,obV x xk xc)],vk',rfl,hs',by simp;omega,hda',?_⟩ (mea ho rfl);rw[hsn];exact ho
end
section
open Eng Go.RowKit
theorem dict_lacks {s:List UInt8}{sub:Int→Ps.R}{m:Nat}{a:Int}{o:Ob}{met:List (List UInt8)}(h:¬Has s a):Ps.dict s sub (m+1) a o met=Ps.bad (lacks s a):=by
 rw[Ps.dict];unfold Has at h;unfold lacks;by_cases e1:(Lx.next s a).2=0
 ·have e2:(Lx.next s a).1.k=0:=Classical.not_not.1 fun h2=>h ⟨e1,h2⟩;rw[if_neg (by rw[e1];simp),if_neg (fun h3=>by rw[e2] at h3;exact absurd h3.1 (by decide)),if_pos e2,if_neg (by rw[e1];simp)]
 ·rw[if_pos e1,if_pos e1]
theorem pdict_ret (s:List UInt8)(hs:s.length≤1000000000)(n:Nat)(hn:n≤23)(hsub:PObj s n):PDict s n:=by
 intro b a M w h0 h1 hr;generalize hR:Ps.dict s (Ps.obj s n) (s.length+1) a Ps.dict0 []=R;refine lent_of (fun K ho hret hpan=>S_parse_reader_dict_ok ?_) hr;unfold S_parse_reader_dict;have ho:=ho.pair;refine o_oba ho fun b4 w1 ho=>?_;refine o_mapNewB ho fun b5 w2 ho=>?_;generalize hS0:(rmE b s a M).blk=S0 at *;have ho:OwnS S0 w w2 [.mapB b5 [],obE b4 ob0 nilS nilS,rmE b s a M]:=ho;have fall:∀{W:World} {L:List Ent} {e2:Ent} {N:Mem} (e:Int),OwnS S0 w W (L++([.two e2 (.mem N)]++[]))→M.le N→R=Ps.bad e→e≠0→pk K [wrongE e] W:=by
  intro W L e2 N e ho hle he h0;subst he;exact hpan h0 e2 N W _ (ho.front).split hle
 refine loop (fun vs w'=>∃(a':Int) (m:Nat) (o:Ob) (l:List Ps.Kv) (al:List (List UInt8×Value)) (N:Mem),vs=[]∧0≤a'∧a'≤s.length∧(l.length:Int)≤a'∧l.length≤8191∧l.length+m=s.length+1 ∧
   Ps.dict s (Ps.obj s n) m a' o (l.map (·.1))=R∧M.le N∧KvR N.A N.w al l∧(l.map (·.1)).Nodup∧Ps.Made o l ∧
   OwnS S0 w w' [.mapB b5 al,obE b4 ob0 nilS nilS,rmE b s a' N]) (fun _ w=>s.length - rdAt b w)
  ⟨a,s.length+1,Ps.dict0,[],[],M,rfl,h0,h1,by simpa using h0,by simp,by simp,hR,M.le_refl,trivial,List.nodup_nil,Ps.made0,ho⟩ ?_
 clear ho hR;rintro vs w4 ⟨a',m,o,l,al,N,rfl,ha0,ha1,hla,hmx,hml,hdict,hle,hkv,hnd,hmade,ho⟩ _;simp only[S_parse_reader_dict_0];obtain⟨m,rfl⟩:∃k,m=k+1:=⟨m - 1,by omega⟩;have hall:al.length=l.length:=by simpa using congrArg List.length hkv.fst
 have hat:rdAt b w4=a'.toNat:=rdAt_is (ho.at_ 2 rfl).1;refine c_rm ho 2 rfl (pnext_ret b s a' N w4 (by omega) (ho.at_ 2 rfl)) ?_ fun e2 w5 hn ho=>?_
 rotate_left
 ·rw[dict_lacks hn] at hdict;exact fall (L:=[_,_]) _ ho hle hdict.symm lacks_pos
 rintro _ N1 w5 hhas hle1 rfl ho;have hbd:=@Lx.next_bd s a' hhas.1 hhas.2;have hge:=Lx.skip_ge s a'.toNat;obtain⟨e1,e2⟩:=hhas;rw[Ps.dict] at hdict;generalize Lx.next s a'=x at *
 rw[if_neg (by rw[e1];simp)] at hdict;refine o_tok ho fun b6 w6 ho=>?_;refine tk_put 0 ho rfl fun w7 ho=>?_;have ho:OwnS S0 w w7 [tokE b6 x.1,.mapB b5 al,obE b4 ob0 nilS nilS,rmE b s x.1.t N1]:=ho;rw[tk_v ho 0 rfl];refine c_below ho (R:=fun v=>v=.bool (decide (x.1.k=6)&&decide (x.1.s=[62,62]))) (pword_ret x.1 6 [62,62] w7) ?_;rintro _ w8 rfl ho;cases e3:(decide (x.1.k=6)&&decide (x.1.s=[62,62])) with
|true=>
  simp only[Bool.and_eq_true,decide_eq_true_eq] at e3;rw[if_pos ⟨e3.1,e3.2⟩] at hdict;simp only[i_t];have hb7:∀{PK:PKT} {K:VWP},DoX prog (mBuild 42 #[(0,(.int .i64 7))]) w8 PK K=K (obV Ps.dict0 nilS nilS) w8:=do_eq (by kernel_rfl);rw[hb7];have ho:=(ho.nilU 42 6).nilU 9 1;refine o_oba ho fun b9 w9 ho=>?_;refine ob_put (o':=Ps.dict0) (vk':=nilS) (vc':=nilS) 0 rfl rfl ho rfl fun w10 ho=>?_;have ho:OwnS S0 w w10 ([obE b9 Ps.dict0 nilS nilS,keyE nilS [],kidE nilS 0 []]++([tokE b6 x.1]++[.mapB b5 al,obE b4 ob0 nilS nilS,rmE b s x.1.t N1])):=ho;have ho:=ho.front.tail;have ho:OwnS S0 w w10 ([obE b9 Ps.dict0 nilS nilS,keyE nilS [],kidE nilS 0 []]++([.mapB b5 al]++([obE b4 ob0 nilS nilS]++[rmE b s x.1.t N1]))):=ho;have ho:OwnS S0 w w10 [obE b9 Ps.dict0 nilS nilS,keyE nilS [],kidE nilS 0 [],obE b4 ob0 nilS nilS,.mapB b5 al,rmE b s x.1.t N1]:=
   ho.perm (List.Perm.append_left [obE b9 Ps.dict0 nilS nilS,keyE nilS [],kidE nilS 0 []] (List.Perm.swap _ _ _))
  refine pbuild (hkv.le hle1) hnd hmade hmx ho fun W N2 L v ho hle2 hv=>?_;subst hdict;exact hret rfl v N2 W L ho ((hle.trans hle1).trans hle2) hv
|false=>
 have e3':¬(x.1.k=6∧x.1.s=[62,62]):=fun h=>by
  rw[decide_eq_true h.1,decide_eq_true h.2] at e3;exact absurd e3 (by decide)
 rw[if_neg e3',if_neg e2] at hdict;simp only[i_f,fa_t4',tk_s ho 0 rfl];rw[lookT 1 ho rfl];simp only[ex];have hlook:∃o' vk vc,(lookA al x.1.s).getD (obV ob0 nilS nilS)=obV o' vk vc∧vk.oneCell'=true∧vc.oneCell'=true:=by
  cases hl:lookA al x.1.s with
 |none=>exact⟨ob0,nilS,nilS,rfl,rfl,rfl⟩
 |some v=>
   have hm:(x.1.s,v)∈al:=by
    unfold lookA at hl;obtain⟨p,hp,hpv⟩:=Option.map_eq_some_iff.1 hl;have h1:=List.find?_some hp;have h2:=List.mem_of_find?_eq_some hp;simp only[decide_eq_true_eq] at h1;rw[←h1,←hpv];exact h2
   obtain⟨q,_,hq⟩:=hkv.mem hm;obtain⟨vk,vc,cs,he,ha⟩:=hq.open;exact⟨q,vk,vc,he,ha.keys.one,ha.kids.one⟩
 obtain⟨o',vk7,vc7,hlv,ok7,oc7⟩:=hlook;rw[hlv];refine o_oba ho fun b7 w9 ho=>?_;refine ob_put (o':=o') 0 ok7 oc7 ho rfl fun w10 ho=>?_;have ho:=ho.tail;have ho:OwnS S0 w w10 [tokE b6 x.1,.mapB b5 al,obE b4 ob0 nilS nilS,rmE b s x.1.t N1]:=ho;have hmet:(lookA al x.1.s).isSome=decide (x.1.s∈l.map (·.1)):=by
  rw[←hkv.fst];cases hl:lookA al x.1.s with
 |none=>rw[decide_eq_false (lookA_none.1 hl)];rfl
 |some v=>
   have:¬x.1.s ∉ al.map (·.1):=fun h=>by rw[lookA_none.2 h] at hl;cases hl
   rw[decide_eq_true (Classical.not_not.1 this)];rfl
 refine join fun J hJ=>?_;rw[fa_t0,tk_k ho 0 rfl];simp only[rs];by_cases e4:x.1.k=4
 case neg=>
  rw[if_pos e4] at hdict;simp only[e4,ne_eq,not_false_eq_true,decide_true,i_t];exact throw (fall (L:=[_,_,_]) 3 ho (hle.trans hle1) hdict.symm (by decide))
 rw[if_neg (by rw[e4];simp)] at hdict;simp only[e4,ne_eq,not_true,decide_false,i_f,hmet];by_cases e5:x.1.s∈l.map (·.1)
 ·rw[if_pos e5] at hdict;simp only[decide_eq_true e5,i_t];exact throw (fall (L:=[_,_,_]) 9 ho (hle.trans hle1) hdict.symm (by decide))
 rw[if_neg e5] at hdict;simp only[decide_eq_false e5,i_f];rw[lenM 1 ho rfl,List.length_map] at *;simp only[rs];by_cases e6:l.length=8191
 ·rw[if_pos e6] at hdict;simp only[show (8191:Int)≤(al.length:Int) by omega,decide_true,i_t];exact throw (fall (L:=[_,_,_]) 6 ho (hle.trans hle1) hdict.symm (by decide))
 rw[if_neg e6] at hdict;simp only[decide_eq_false (show ¬(8191:Int)≤(al.length:Int) by omega),i_f];refine hJ _ _ fun _=>?_;unfold S_parse_reader_dict_3;have ho:=ho.drew;refine⟨fun W=>(tokE b6 x.1).is W,ho.at_ 0 rfl,?_⟩;refine hd_pure _ (fun _=>run_fa ft4) ?_;refine hd_do (.string ⟨x.1.s.toArray⟩) (fun W h=>run_load_cell nStr (cells_cell (T:=53) (cs:=tokC x.1) (i:=4) h rfl)) ?_;refine c_rm ho 3 rfl (pnext_ret b s x.1.t N1 _ (by omega) (ho.at_ 3 rfl)) ?_ fun e2 w11 hn ho=>?_
 rotate_left
 ·rw[obj_lacks hn,if_pos (show (Ps.bad (lacks s x.1.t)).2.2≠0 from lacks_pos)] at hdict;exact fun _ _ _ _ _ _=>fall (L:=[_,_,_]) _ ho (hle.trans hle1) hdict.symm lacks_pos
 rintro _ N2 w11 hhas2 hle2 rfl ho;refine⟨ho.at_ 0 rfl,?_⟩;have hbd2:=@Ps.obj_bd s n x.1.t;have hob:=hsub b x.1.t N2 w11 hhas2 (ho.at_ 3 rfl);generalize Ps.obj s n x.1.t=e at *;refine c_rm ho 3 rfl hob ?_ fun e2 w12 hz ho=>?_
 rotate_left
 ·rw[if_pos hz] at hdict;exact fun _ _ _ _ _ _=>fall (L:=[_,_,_]) _ ho ((hle.trans hle1).trans hle2) hdict.symm hz
 rintro u N3 w12 hz hle3 hu ho;have ho:OwnS S0 w w12 [tokE b6 x.1,.mapB b5 al,obE b4 ob0 nilS nilS,rmE b s e.2.1 N3]:=ho;refine⟨ho.at_ 0 rfl,?_⟩;have hln:lookA al x.1.s=none:=lookA_none.2 (by rw[hkv.fst];exact e5);refine o_mapAddB 1 Tryz.underlying182 Tryz.underlying9 ho rfl x.1.s u hln fun w13 ho=>⟨ho.at_ 0 rfl,?_⟩;rw[if_neg (by rw[hz];simp)] at hdict;have hbd3:=hbd2 hz;have hm2:=Ps.made_join (v:=e.1) hmade e5;have hnd2:((l++[(x.1.s,e.1)]).map (·.1)).Nodup:=by
  rw[List.map_append,List.nodup_append];refine⟨hnd,by simp,fun p hp q hq=>?_⟩;simp at hq;subst hq;exact fun h=>e5 (h▸hp)
 have h5:a' < e.2.1:=by
  have:=hbd3.1;omega
 refine nextX ⟨e.2.1,m,Ps.join o x.1.s e.1,l++[(x.1.s,e.1)],al++[(x.1.s,u)],N3,rfl,by omega,hbd3.2,by simp;omega,by simp;omega,by simp;omega,?_,((hle.trans hle1).trans hle2).trans hle3,(((hkv.le hle1).le hle2).le hle3).snoc hu,hnd2,hm2,ho.tail⟩ ?_
 ·rw[List.map_append];exact hdict
 ·have hat2:rdAt b w13=e.2.1.toNat:=rdAt_is (ho.at_ 3 rfl).1;show s.length - rdAt b w13 < s.length - rdAt b w4;rw[hat,hat2];exact meas ha0 h5 hbd3.2
theorem pobject_ret (s:List UInt8)(hs:s.length≤1000000000)(n:Nat)(hn:n≤24):PObj s n:=
 pobj_ret s hs (fun n hn h=>parr_ret s hs n hn h) (fun n hn h=>pdict_ret s hs n hn h) n hn
end
section
open Eng Go.RowKit
namespace Ps
theorem arr_err {s:List UInt8}{ok:Bool}{sub:Int→R}:∀(m:Nat) (a:Int) (acc:List Ob),(arr s ok sub m a acc).2.2≠0→arr s ok sub m a acc=bad (arr s ok sub m a acc).2.2
|0,_,_,_=>rfl
|m+1,a,acc,h=>by
  rw[arr] at h ⊢;split
  ·rename_i h1;rw[if_pos h1] at h;exact absurd rfl h
  rename_i h1
  rw[if_neg h1] at h;split
  ·rfl
  rename_i h2
  rw[if_neg h2] at h;split
  ·rfl
  rename_i h3
  rw[if_neg h3] at h;split
  ·rfl
  rename_i h4
  rw[if_neg h4] at h;exact arr_err m _ _ h
theorem dict_err {s:List UInt8}{sub:Int→R}:∀(m:Nat) (a:Int) (o:Ob) (met:List (List UInt8)),(dict s sub m a o met).2.2≠0→dict s sub m a o met=bad (dict s sub m a o met).2.2
|0,_,_,_,_=>rfl
|m+1,a,o,met,h=>by
  rw[dict] at h ⊢;split
  ·rfl
  rename_i h1
  rw[if_neg h1] at h;split
  ·rename_i h2;rw[if_pos h2] at h;exact absurd rfl h
  rename_i h2
  rw[if_neg h2] at h;split
  ·rfl
  rename_i h3
  rw[if_neg h3] at h;split
  ·rfl
  rename_i h4
  rw[if_neg h4] at h;split
  ·rfl
  rename_i h5
  rw[if_neg h5] at h;split
  ·rfl
  rename_i h6
  rw[if_neg h6] at h;split
  ·rfl
  rename_i h7
  rw[if_neg h7] at h;exact dict_err m _ _ _ h
theorem leaf_ok {s:List UInt8}{t:Lx.Tok}:(leaf s t).2.2=0:=by
 unfold leaf;split
 ·cases ref s t<;>rfl
 all_goals (repeat' split)<;>rfl
theorem obj_err {s:List UInt8}{n:Nat}{a:Int}(h:(obj s n a).2.2≠0):obj s n a=bad (obj s n a).2.2:=by
 have hob:obj s n a=_:=obj.eq_def s n a;simp only at hob
 revert h
 rw[hob];intro h;split
 ·rfl
 rename_i h1
 rw[if_neg h1] at h;split
 ·rfl
 rename_i h2
 rw[if_neg h2] at h;split
 ·rfl
 rename_i h3
 rw[if_neg h3] at h;cases n with
|zero=>rfl
|succ n=>
  simp only at h ⊢;split
  ·rename_i h4;rw[if_pos h4] at h;exact absurd leaf_ok h
  rename_i h4
  rw[if_neg h4] at h;split
  ·rename_i h5;rw[if_pos h5] at h;exact arr_err _ _ _ h
  ·rename_i h5;rw[if_neg h5] at h;exact dict_err _ _ _ _ h
end Ps
theorem psface_plain:plainB prog 149=true:=by kernel_rfl
theorem psread_ret (b:Nat)(s:List UInt8)(a:Int)(M:Mem)(w:World)(hs:s.length≤1000000000)(hr:(rmE b s a M).is w) :
  Ret prog 110 #[rdP b] w (fun v w'=>∃N u e2,M.le N∧v=.tuple #[u,.int .i64 (Ps.obj s 24 a).2.2]∧OV N.A N.w u (Ps.obj s 24 a).1∧((Ps.obj s 24 a).2.2=0→e2=rdE b s (Ps.obj s 24 a).2.1)∧Turn (rmE b s a M) (.two e2 (.mem N)) w w'):=by
 refine ret_of fun K hK=>S_parse_reader_read_ok ?_;unfold S_parse_reader_read;have ho:OwnS (rmE b s a M).blk w w [rmE b s a M]:=OwnS.lend hr;generalize hS0:(rmE b s a M).blk=S0 at ho;refine o_oba ho fun b2 w1 ho=>?_;refine o_new (fun b=>.pointer (some ⟨b,0,none⟩)) [.int .i64 0] 24 (fun _=>by kernel_rfl) ho fun b3 w2 ho=>?_;have ho:OwnS S0 w w2 [.cells b3 [.int .i64 0] 24,obE b2 ob0 nilS nilS,rmE b s a M]:=ho
 -- a syntax error
 have fail2:∀{W:World} {e2:Ent} {e:Int} {N:Mem},OwnS S0 w W [.cells b3 [.int .i64 0] 24,obE b2 ob0 nilS nilS,.two e2 (.mem N)]→M.le N→Ps.obj s 24 a=Ps.bad e→e≠0→S_parse_reader_read_p0 (.pointer (some ⟨b2,0,none⟩)) (.pointer (some ⟨b3,0,none⟩)) K [wrongE e] W:=by
  intro W e2 e N ho hle he h0;show pd prog _ K _ [wrongE e] W;unfold pd;refine leave_fn (by simp) psface_plain (S_parse_face_dok ?_);simp only[S_parse_face,recV,recM,wrongE,Eng.e_some Tryz.underlying20,rs,t_hit nfW,ex,i_t,i_f];refine o_store 0 ho rfl (by kernel_rfl) rfl (by simp) fun w7 ho=>?_;refine ret_v2 (rv_cell (ho.agg 1 rfl aggOb)) (rv_cell (AtV.cell nErr5 (ho.cell 0 rfl 0 rfl))) (hK _ _ ⟨N,obV ob0 nilS nilS,e2,hle,?_,?_,?_,?_⟩)
  ·rw[he];rfl
  ·rw[he];exact ob0_ov2
  ·rw[he];exact fun h=>absurd h h0
  ·have ho:OwnS S0 w w7 ([.cells b3 [.int .i64 e] 24,obE b2 ob0 nilS nilS]++([.two e2 (.mem N)]++[])):=ho;have ho:=ho.front;subst hS0;exact OwnS.back ho
 refine c_rm ho 2 rfl (pnext_ret b s a M w2 (by omega) (ho.at_ 2 rfl)) ?_ fun e2 w3 hn ho=>fail2 ho M.le_refl (obj_lacks hn) lacks_pos;rintro _ N w3 hh hle rfl ho;have hob:=pobject_ret s hs 24 (by omega) b a N w3 hh (ho.at_ 2 rfl);rw[show (24:Int) - ((24:Nat):Int)=0 by decide] at hob;refine c_rm ho 2 rfl hob ?_ fun e2 w4 hz ho=>fail2 ho hle (Ps.obj_err hz) hz;rintro u N2 w4 hz hle2 hu ho;obtain⟨xk,xc,xcs,rfl,hx⟩:=hu.open;refine ob_put 1 hx.keys.one hx.kids.one ho rfl fun w5 ho=>?_;refine o_store 0 ho rfl (by kernel_rfl) rfl (by simp) fun w6 ho=>?_;refine leave_fn (by simp) psface_plain (S_parse_face_dok ?_);simp only[S_parse_face,recV,recM,Eng.e_nil Tryz.underlying20,rs];have ho:OwnS S0 w w6 ([.cells b3 [.int .i64 0] 24,obE b2 (Ps.obj s 24 a).1 xk xc]++([.two (rdE b s (Ps.obj s 24 a).2.1) (.mem N2)]++[])):=ho;refine ret_v2 (rv_cell (ho.agg 1 rfl aggOb)) (rv_cell (AtV.cell nErr5 (ho.cell 0 rfl 0 rfl))) (hK _ _ ⟨N2,obV (Ps.obj s 24 a).1 xk xc,_,hle.trans hle2,?_,hx.ov,fun _=>rfl,?_⟩)
 ·rw[hz];rfl
 ·have ho:=ho.front;subst hS0;exact OwnS.back ho
theorem psobject_ret (s:List UInt8)(a:Int)(hs:s.length≤1000000000)(M:Mem)(w:World)(hM:M.has w):RetM prog 65 #[.string ⟨s.toArray⟩,.int .i64 a] M w (objR (Ps.object s a)):=by
 refine retM_of hM fun K hK=>S_parse_Object_ok ?_;unfold S_parse_Object;refine o_oba (OwnS.memS hM) fun b4 w1 ho=>?_;have fail:a < 0∨(s.length:Int) < a→DoX prog (mBuild 42 #[]) w1 (pk K) (fun t W=>DoX prog (mStore 42 (.pointer (some ⟨b4,0,none⟩)) t) W (pk K) fun _ W=>RetX prog [.cell (.pointer (some ⟨b4,0,none⟩)) 42,.val (.int .i64 0),.val (.int .i64 1)] W K):=by
  intro h;refine ret_bad 0 ho rfl fun w' ho=>?_;refine hK _ _ M _ 1 ho rfl M.le_refl ?_;rw[Ps.object,if_pos h];exact⟨_,rfl,ob0_ov2⟩
 by_cases h1:a < 0
 ·simp only[rs,decide_eq_true h1,g_un];exact fail (.inl h1)
 by_cases h2:(s.length:Int) < a
 ·simp only[rs,decide_eq_false h1,s_len Tryz.underlying9,decide_eq_true h2,g_un];exact fail (.inr h2)
 simp only[rs,decide_eq_false h1,s_len Tryz.underlying9,decide_eq_false h2,g_un];clear fail;have hPs:Ps.object s a=Ps.obj s 24 a:=by rw[Ps.object,if_neg (by omega)]
 rw[hPs] at hK;have hb1:∀{PK:PKT} {K:VWP},DoX prog (mBuild 144 #[(0,.string ⟨s.toArray⟩),(1,.int .i64 a)]) w1 PK K=K (.agg (rdC s a).toArray) w1:=do_eq (by kernel_rfl);rw[hb1];refine o_new (fun b=>.pointer (some ⟨b,0,none⟩)) (rdC s a) 144 (fun _=>by kernel_rfl) ho fun b22 w2 ho=>?_;have ho:OwnS M.A w w2 ([rdE b22 s a]++([obE b4 ob0 nilS nilS]++([.mem M]++[]))):=ho;have ho:OwnS M.A w w2 ([rdE b22 s a]++([.mem M]++([obE b4 ob0 nilS nilS]))):=ho.perm (List.Perm.append_left _ (List.Perm.swap _ _ _));have ho:=ho.pair;refine c_ret (psread_ret b22 s a M w2 hs (ho.at_ 0 rfl)) ?_;rintro _ w3 ⟨N,u,e2,hle,rfl,hu,he2,ht⟩;have ho:=(ho.turn 0 rfl ht).split;have ho:OwnS M.A w w3 [e2,.mem N,obE b4 ob0 nilS nilS]:=ho;simp only[ex];obtain⟨xk,xc,xcs,rfl,hx⟩:=hu.open;refine o_oba ho fun b8 w4 ho=>?_;refine ob_put 0 hx.keys.one hx.kids.one ho rfl fun w5 ho=>?_;have ho:OwnS M.A w w5 [obE b8 (Ps.obj s 24 a).1 xk xc,e2,.mem N,obE b4 ob0 nilS nilS]:=ho;simp only[rs];by_cases hz:(Ps.obj s 24 a).2.2=0
 case neg=>
  simp only[hz,ne_eq,not_false_eq_true,decide_true,i_t];refine ret_bad 3 ho rfl fun w' ho=>?_;refine hK _ _ N _ 2 ho rfl hle ?_;rw[Ps.obj_err hz];exact⟨_,rfl,ob0_ov2⟩
 simp only[hz,ne_eq,not_true,decide_false,i_f];rw[he2 hz] at ho;have ho:=ho.drew;refine⟨fun W=>(obE b8 (Ps.obj s 24 a).1 xk xc).is W∧(rdE b22 s (Ps.obj s 24 a).2.1).is W,⟨ho.at_ 0 rfl,ho.at_ 1 rfl⟩,?_⟩;refine hd_do (obV (Ps.obj s 24 a).1 xk xc) (fun W h=>run_load_at (AtV.agg aggOb (cs:=obC (Ps.obj s 24 a).1 xk xc) rfl fun j u hj=>by rw[Nat.zero_add];exact cells_cell (T:=42) h.1 hj)) ?_;refine hd_pure _ (fun _=>run_nil) (hd_pure _ (fun _=>run_fa fr1) (hd_do _ (fun W h=>rdr_a h.2) ?_));refine ob_put 3 hx.keys.one hx.kids.one ho rfl fun w6 ho=>⟨⟨ho.at_ 0 rfl,ho.at_ 1 rfl⟩,?_⟩;refine ret_v3 (rv_cell (ho.agg 3 rfl aggOb)) rv_val rv_val (hK _ _ N _ 2 ho rfl hle ?_);exact⟨_,by rw[hz];rfl,hx.ov⟩
end
end Go.Proofs.YtoofficgclghoaaGreatDoor





namespace Go.Proofs.YtoofficgclghoaaGreatDoor
section
open Go
namespace Lx
open Oc
theorem skipF_more:∀(b:Bool) (l m:List UInt8),skipF b l < l.length→skipF b (l++m)=skipF b l
|_,[],m,h=>by simp at h
|true,c::t,m,h=>by
  rw[List.cons_append,skipF,skipF,skipF_more (!eol c) t m (by rw[skipF,List.length_cons] at h;omega)]
|false,c::t,m,h=>by
  rw[List.cons_append,skipF,skipF];rw[skipF,List.length_cons] at h;by_cases h1:c=37
  ·rw[if_pos h1] at h;rw[if_pos h1,if_pos h1,skipF_more true t m (by omega)]
  ·rw[if_neg h1] at h;rw[if_neg h1,if_neg h1];by_cases h2:white c=true
   ·rw[if_pos h2] at h;rw[if_pos h2,if_pos h2,skipF_more false t m (by omega)]
   ·rw[if_neg h2,if_neg h2]
theorem skip_more {s:List UInt8}(r:List UInt8){k:Nat}(hk:k≤s.length)(h:skip s k < s.length):skip (s++r) k=skip s k:=by
 unfold skip at h ⊢;rw[List.drop_append_of_le_length hk,skipF_more false _ r (by rw[List.length_drop];omega)]
theorem runF_more:∀(l m:List UInt8),runF l < l.length→runF (l++m)=runF l
|[],m,h=>by simp at h
|c::t,m,h=>by
  rw[List.cons_append,runF,runF];rw[runF,List.length_cons] at h;by_cases h1:regular c=true
  ·rw[if_pos h1] at h;rw[if_pos h1,if_pos h1,runF_more t m (by omega)]
  ·rw[if_neg h1,if_neg h1]
theorem run_more {s:List UInt8}(r:List UInt8){k:Nat}(hk:k≤s.length)(h:run s k < s.length):run (s++r) k=run s k:=by
 unfold run at h ⊢;rw[List.drop_append_of_le_length hk,runF_more _ r (by rw[List.length_drop];omega)]
theorem cut_more {s:List UInt8}(r:List UInt8){i j:Nat}(hi:i≤s.length)(hj:j≤s.length):cut (s++r) i j=cut s i j:=by
 unfold cut;rw[List.drop_append_of_le_length hi,List.take_append_of_le_length (by rw[List.length_drop];omega)]
theorem token_more {s:List UInt8}(r:List UInt8){q:Nat}(hq:q < s.length)(h:(token s q).2=0)(hk:(token s q).1.k≠0)(ht:(token s q).1.t < s.length):token (s++r) q=token s q:=by
 have hd:=drop_cons hq;have hd2:(s++r).drop q=s[q]::(s.drop (q+1)++r):=by rw[List.drop_append_of_le_length (by omega),hd];rfl
 have hd3:(s++r).drop (q+1)=s.drop (q+1)++r:=List.drop_append_of_le_length (by omega);have hT:∀S:List UInt8,∀t:List UInt8,S.drop q=s[q]::t→token S q=if s[q]=91∨s[q]=93∨s[q]=123∨s[q]=125 then mark S q 1
  else if s[q]=60 then (if t.head?=some s[q] then mark S q 2 else hex S q)
  else if s[q]=62 then (if t.head?=some s[q] then mark S q 2 else refused 3)
  else if s[q]=47 then name S q
  else if s[q]=40 then text S q
  else if s[q]=41 then refused 3
  else word S q:=fun S t hS=>by rw[token,hS]
 rw[hT s _ hd] at h hk ht ⊢;rw[hT (s++r) _ hd2];have two:∀{c:UInt8},(s.drop (q+1)).head?=some c→q+2≤s.length∧(s.drop (q+1)++r).head?=some c:=by
  intro c hc;have hne:s.drop (q+1)≠[]:=by intro e;rw[e] at hc;cases hc
  have:=List.length_pos_iff.2 hne;rw[List.length_drop] at this;exact⟨by omega,by rw[head_app hne];exact hc⟩
 by_cases g0:s[q]=91∨s[q]=93∨s[q]=123∨s[q]=125
 ·rw[if_pos g0,if_pos g0];unfold mark;rw[cut_more r (by omega) (by omega)]
 rw[if_neg g0] at h hk ht ⊢;rw[if_neg g0];by_cases g1:s[q]=60
 ·rw[if_pos g1] at h hk ht ⊢;rw[if_pos g1];by_cases g:(s.drop (q+1)).head?=some s[q]
  ·obtain⟨h2,h3⟩:=two g;rw[if_pos g,if_pos h3];unfold mark;rw[cut_more r (by omega) h2]
  ·rw[if_neg g] at h hk ht ⊢;unfold hex at h hk ht;cases hx:hexF (-1) (s.drop (q+1)) with
  |inr e=>rw[hx] at hk;exact absurd rfl hk
  |inl y=>
    have hne:s.drop (q+1)≠[]:=by intro e;rw[e,hexF] at hx;cases hx
    rw[if_neg (by rw[head_app hne];exact g)];unfold hex;rw[hd3,hexF_ext _ _ _ r hx,hx]
 rw[if_neg g1] at h hk ht ⊢;rw[if_neg g1];by_cases g2:s[q]=62
 ·rw[if_pos g2] at h hk ht ⊢;rw[if_pos g2];by_cases g:(s.drop (q+1)).head?=some s[q]
  ·obtain⟨h2,h3⟩:=two g;rw[if_pos g,if_pos h3];unfold mark;rw[cut_more r (by omega) h2]
  ·rw[if_neg g] at hk;exact absurd rfl hk
 rw[if_neg g2] at h hk ht ⊢;rw[if_neg g2];by_cases g3:s[q]=47
 ·rw[if_pos g3] at h hk ht ⊢;rw[if_pos g3];unfold name at h hk ht ⊢;cases hx:nameF (cut s (q+1) (run s (q+1))) with
 |none=>rw[hx] at hk;exact absurd rfl hk
 |some y=>
   rw[hx] at h ht;simp only at h ht;rw[told_ok h] at ht;simp only at ht;have hr:run s (q+1) < s.length:=by omega
   rw[run_more r (by omega) hr,cut_more r (by omega) (by omega),hx]
 rw[if_neg g3] at h hk ht ⊢;rw[if_neg g3];by_cases g4:s[q]=40
 ·rw[if_pos g4] at h hk ht ⊢;rw[if_pos g4];unfold text at h hk ht ⊢;cases hx:textG 0 1 (s.drop (q+1)) with
 |none=>rw[hx] at hk;exact absurd rfl hk
 |some y=>rw[hd3,textG_ext _ _ _ _ r hx]
 rw[if_neg g4] at h hk ht ⊢;rw[if_neg g4];by_cases g5:s[q]=41
 ·rw[if_pos g5] at hk;exact absurd rfl hk
 rw[if_neg g5] at h hk ht ⊢;rw[if_neg g5];unfold word at h hk ht ⊢;rw[(wordT_ok h).2.2] at ht;have hr:run s q < s.length:=by omega
 rw[run_more r (by omega) hr,cut_more r (by omega) (by omega)]
theorem next_more {s:List UInt8}(r:List UInt8){a:Int}(h:(next s a).2=0)(hk:(next s a).1.k≠0)(ht:(next s a).1.t < s.length):next (s++r) a=next s a:=by
 obtain⟨b1,b2,b3,b4,b5⟩:=next_bd h hk;have hq:skip s a.toNat < s.length:=by omega
 have e1:next s a=token s (skip s a.toNat):=by unfold next;rw[if_neg (by omega)]
 have e2:next (s++r) a=token (s++r) (skip s a.toNat):=by
  unfold next
  rw[if_neg (by rw[List.length_append];omega),skip_more r (by omega) hq]
 rw[e1] at h hk ht ⊢;rw[e2,token_more r hq h hk ht]
end Lx
end
section
open Go
namespace Ps
open Lx (next Tok next_more)
def RefNot (s t:List UInt8)(p:Int):Prop:=∀x:Tok,x.t=p→ref s x=none→ref t x=none
def Look (s:List UInt8)(p e:Int):Prop:=(next s p).2=0∧(next s p).1.k≠0∧(next s p).1.t≤e∧((next s p).1.k=1→(next s (next s p).1.t).2=0∧(next s (next s p).1.t).1.k≠0∧(next s (next s p).1.t).1.t≤e)
def Good2 (s:List UInt8)(sub:Int→R):Prop:=∀a,(sub a).2.2=0→(next s a).2=0∧(next s a).1.k≠0∧(next s a).1.t≤(sub a).2.1 ∧
 ((next s a).1.k=1→(sub a).2.1=(next s a).1.t∨((next s (next s a).1.t).2=0∧(next s (next s a).1.t).1.k≠0∧(next s (next s a).1.t).1.t≤(sub a).2.1))
end Ps
end
section
open Go
namespace Bd
open Lx (next Tok next_more)
theorem object_bd {s:List UInt8}{a:Int}(h:(Ps.object s a).2.2=0):a < (Ps.object s a).2.1∧(Ps.object s a).2.1≤s.length:=by
 unfold Ps.object at h ⊢;by_cases g:a < 0∨(s.length:Int) < a
 ·rw[if_pos g] at h;exact absurd h (by decide)
 rw[if_neg g] at h ⊢;exact Ps.obj_bd h
end Bd
end
end Go.Proofs.YtoofficgclghoaaGreatDoor


namespace Go.Proofs.YtoofficgclghoaaGreatDoor
section
open Go
structure Cop where
 name:List UInt8
 args:List Ob
 data:List UInt8
namespace Cs
open Lx (next Tok)
def constant (s:List UInt8):Bool:=decide (s=Ps.tru)||decide (s=Ps.fal)||decide (s=Ps.nul)
 mutual
def refers:Ob→Bool
|.mk k _ _ _ _ kids=>decide (k=8)||refersL kids
def refersL:List Ob→Bool
|[]=>false
|o::l=>refers o||refersL l
end
 mutual
def depth:Ob→Nat
|.mk _ _ _ _ _ kids=>depthL kids+1
def depthL:List Ob→Nat
|[]=>0
|o::l=>max (depth o) (depthL l)
end
theorem refers_eq (o:Ob):refers o=(decide (o.k=8)||refersL o.kids):=by cases o;rw[refers];rfl
theorem depth_eq (o:Ob):depth o=depthL o.kids+1:=by cases o;rw[depth];rfl
def whiteAt (s:List UInt8)(a:Int):Bool:=decide (0≤a)&&((s[a.toNat]?).any Oc.white)
def ends (s:List UInt8)(a:Nat):Bool:=
 match s.drop a with
|w::e::i::r=>Oc.white w&&decide (e=69)&&decide (i=73)&&(r.isEmpty||r.head?.any Oc.white)
|_=>false
def findE (s:List UInt8):Nat→Nat→Option Nat
|0,_=>none
|m+1,a=>if s.length≤a then none else if ends s a then some a else findE s m (a+1)
structure Flt where
 at_:Int
 e:Int
def ok:Flt:=⟨0,0⟩
def idW:List UInt8:=[73,68]
def eiW:List UInt8:=[69,73]
def biW:List UInt8:=[66,73]
def rW:List UInt8:=[82]
def keys (s:List UInt8):Nat→Int→Ob→List (List UInt8)→Ob×Int×Flt
|0,_,_,_=>(Vl.ob0,0,⟨0,99⟩)
|m+1,a,o,met=>
  if (next s a).2≠0 then (Vl.ob0,0,⟨Lx.skipI s a,(next s a).2⟩)
  else if (next s a).1.k=0 then (Vl.ob0,0,⟨s.length,4⟩)
  else if (next s a).1.k=5∧(next s a).1.s=idW then (o,(next s a).1.t,ok)
  else if (next s a).1.k≠4 then (Vl.ob0,0,⟨(next s a).1.a,3⟩)
  else if (next s a).1.s∈met then (Vl.ob0,0,⟨(next s a).1.a,9⟩)
  else if met.length=8191 then (Vl.ob0,0,⟨(next s a).1.a,6⟩)
  else if (next s (next s a).1.t).2≠0 then (Vl.ob0,0,⟨Lx.skipI s (next s a).1.t,(next s (next s a).1.t).2⟩)
  else if (next s (next s a).1.t).1.k=0 then (Vl.ob0,0,⟨s.length,4⟩)
  else if (Ps.object s (next s a).1.t).2.2≠0 then (Vl.ob0,0,⟨(next s (next s a).1.t).1.a,(Ps.object s (next s a).1.t).2.2⟩)
  else if refers (Ps.object s (next s a).1.t).1 then (Vl.ob0,0,⟨(next s (next s a).1.t).1.a,3⟩)
  else if 24≤depth (Ps.object s (next s a).1.t).1 then (Vl.ob0,0,⟨(next s (next s a).1.t).1.a,7⟩)
  else keys s m (Ps.object s (next s a).1.t).2.1 (Ps.join o (next s a).1.s (Ps.object s (next s a).1.t).1) (met++[(next s a).1.s])
def op0:Cop:=⟨[],[],[]⟩
def image (s:List UInt8)(a:Int):Cop×Int×Flt:=
 let d:=keys s (s.length+1) a Ps.dict0 []
 if d.2.2.e≠0 then (op0,0,d.2.2)
 else if whiteAt s d.2.1=false then (op0,0,⟨d.2.1,3⟩)
 else match findE s (s.length+1) (d.2.1.toNat+1) with
 |none=>(op0,0,⟨s.length,4⟩)
 |some i=>(⟨biW,[d.1],(s.drop (d.2.1.toNat+1)).take (i - (d.2.1.toNat+1))⟩,(i:Int)+3,ok)
def operator (s:List UInt8)(t:Tok)(n:Nat)(args:List Ob):Cop×Int×Flt:=
 if 8191≤n then (op0,0,⟨t.a,6⟩)
 else if t.s=biW then (if args≠[] then (op0,0,⟨t.a,3⟩) else image s t.t)
 else if t.s=idW∨t.s=eiW∨t.s=rW then (op0,0,⟨t.a,3⟩)
 else (⟨t.s,args,[]⟩,t.t,ok)
def readG (s:List UInt8):Nat→Int→List Cop→List Ob→List Cop×Flt
|0,_,_,_=>([],⟨0,99⟩)
|m+1,a,l,args=>
  if (next s a).2≠0 then ([],⟨Lx.skipI s a,(next s a).2⟩)
  else if (next s a).1.k=0 then (if args≠[] then ([],⟨s.length,4⟩) else (l,ok))
  else if (next s a).1.k=5∧constant (next s a).1.s=false then
   (if (operator s (next s a).1 l.length args).2.2.e≠0 then ([],(operator s (next s a).1 l.length args).2.2)
    else readG s m (operator s (next s a).1 l.length args).2.1 (l++[(operator s (next s a).1 l.length args).1]) [])
  else if (Ps.object s a).2.2≠0 then ([],⟨(next s a).1.a,(Ps.object s a).2.2⟩)
  else if refers (Ps.object s a).1 then ([],⟨(next s a).1.a,3⟩)
  else if 32≤args.length then ([],⟨(next s a).1.a,6⟩)
  else readG s m (Ps.object s a).2.1 l (args++[(Ps.object s a).1])
def read (s:List UInt8):List Cop×Flt:=readG s (s.length+1) 0 [] []
def named (s:List UInt8):Bool:=
 decide ((next s 0).2=0)&&decide ((next s 0).1.k=5)&&decide ((next s 0).1.a=0)&&decide ((next s 0).1.t=s.length)&&!constant s&&!decide (s=rW)&&!decide (s=biW)&&!decide (s=idW)&&!decide (s=eiW)
def shown (s:List UInt8):Bool:=(List.range s.length).all fun i=>!ends s i
def form (o:Cop):Bool:=
 if o.name=biW then (match o.args with|[d]=>decide (d.k=7)&&shown o.data|_=>false)
 else named o.name&&decide (o.args.length≤32)&&decide (o.data=[])
def firstE:List Ob→Int
|[]=>0
|o::l=>if Vl.check 1 o≠0 then Vl.check 1 o else firstE l
def may (o:Cop):Int:=
 if form o=false then 3
 else if firstE o.args≠0 then firstE o.args
 else if o.args.any (fun x=>refers x||decide (x.k=9)) then 10 else 0
def pairs:List (List UInt8)→List Ob→List (List UInt8)
|k::ks,o::os=>(Pl.pName k).1::(Wr.text o).1::pairs ks os
|_,_=>[]
def parts (o:Cop):List (List UInt8):=
 if o.name=biW then (match o.args with|d::_=>biW::pairs d.keys d.kids++[idW]|[]=>[biW,idW])
 else o.args.map (fun x=>(Wr.text x).1)++[o.name]
def one (o:Cop):List UInt8:=Pl.join (parts o)++[10]++(if o.name=biW then o.data++[10]++eiW++[10] else [])
def refuse:List Cop→Int
|[]=>0
|o::l=>if may o≠0 then may o else refuse l
def text (l:List Cop):List UInt8×Int:=
 if 8191 < l.length then ([],6) else if refuse l≠0 then ([],refuse l) else (l.flatMap one,0)
def sizeA:List Ob→Nat
|[]=>0
|o::l=>Vl.size o+sizeA l
def size:List Cop→Nat
|[]=>0
|o::l=>1+o.data.length / 100+sizeA o.args+size l
end Cs
end
section
open Go
namespace Cs
open Lx (next Tok Single token skip)
theorem drop_pre (p s:List UInt8)(i:Nat):(p++s).drop (p.length+i)=s.drop i:=by rw[←List.drop_drop,List.drop_left]
open Ps (R bad)
end Cs
end
section
open Go
namespace Cs
open Lx (next Tok Single token skip)
theorem keys_ok {s:List UInt8}{m:Nat}{a:Int}{o:Ob}{met:List (List UInt8)}(h:(keys s (m+1) a o met).2.2.e=0):(next s a).2=0∧(next s a).1.k≠0 ∧
  ((((next s a).1.k=5∧(next s a).1.s=idW)∧keys s (m+1) a o met=(o,(next s a).1.t,ok)) ∨
   ((next s a).1.k=4∧(next s a).1.s ∉ met∧met.length≠8191∧(next s (next s a).1.t).2=0∧(next s (next s a).1.t).1.k≠0∧(Ps.object s (next s a).1.t).2.2=0∧refers (Ps.object s (next s a).1.t).1=false∧depth (Ps.object s (next s a).1.t).1 < 24 ∧
   keys s (m+1) a o met=keys s m (Ps.object s (next s a).1.t).2.1 (Ps.join o (next s a).1.s (Ps.object s (next s a).1.t).1) (met++[(next s a).1.s]))):=by
 rw[keys] at h ⊢;by_cases h1:(next s a).2≠0
 ·rw[if_pos h1] at h;exact absurd h h1
 rw[if_neg h1] at h ⊢;by_cases h2:(next s a).1.k=0
 ·rw[if_pos h2] at h;simp at h
 rw[if_neg h2] at h ⊢;refine⟨Classical.not_not.1 h1,h2,?_⟩;by_cases h3:(next s a).1.k=5∧(next s a).1.s=idW
 ·rw[if_pos h3];exact .inl ⟨h3,rfl⟩
 rw[if_neg h3] at h ⊢;by_cases h4:(next s a).1.k≠4
 ·rw[if_pos h4] at h;simp at h
 rw[if_neg h4] at h ⊢;by_cases h5:(next s a).1.s∈met
 ·rw[if_pos h5] at h;simp at h
 rw[if_neg h5] at h ⊢;by_cases h6:met.length=8191
 ·rw[if_pos h6] at h;simp at h
 rw[if_neg h6] at h ⊢;by_cases h7:(next s (next s a).1.t).2≠0
 ·rw[if_pos h7] at h;exact absurd h h7
 rw[if_neg h7] at h ⊢;by_cases h8:(next s (next s a).1.t).1.k=0
 ·rw[if_pos h8] at h;simp at h
 rw[if_neg h8] at h ⊢;by_cases h9:(Ps.object s (next s a).1.t).2.2≠0
 ·rw[if_pos h9] at h;exact absurd h h9
 rw[if_neg h9] at h ⊢;by_cases h10:refers (Ps.object s (next s a).1.t).1=true
 ·rw[if_pos h10] at h;simp at h
 rw[if_neg h10] at h ⊢;by_cases h11:24≤depth (Ps.object s (next s a).1.t).1
 ·rw[if_pos h11] at h;simp at h
 rw[if_neg h11];exact .inr ⟨Classical.not_not.1 h4,h5,h6,Classical.not_not.1 h7,h8,Classical.not_not.1 h9,by simpa using h10,by omega,rfl⟩
theorem keys_bd {s:List UInt8}:∀(m:Nat) {a:Int} {o:Ob} {met:List (List UInt8)},(keys s m a o met).2.2.e=0→0≤a∧a < (keys s m a o met).2.1∧(keys s m a o met).2.1≤s.length
|0,a,o,met,h=>by simp[keys] at h
|m+1,a,o,met,h=>by
  obtain⟨h1,h2,h3⟩:=keys_ok h;have b:=Lx.next_bd h1 h2;have:=Lx.skip_ge s a.toNat;rcases h3 with ⟨_,e⟩|⟨_,_,_,g1,g2,g3,_,_,e⟩
  ·rw[e];exact⟨by omega,by show a < (next s a).1.t;omega,b.2.2.2.2⟩
  ·rw[e] at h ⊢;have c:=Bd.object_bd g3;have:=keys_bd m h;omega
theorem findE_ok {s:List UInt8}:∀(m:Nat) {a i:Nat},findE s m a=some i→a≤i∧ends s i=true∧∀j,a≤j→j < i→ends s j=false
|0,a,i,h=>by simp[findE] at h
|m+1,a,i,h=>by
  rw[findE] at h;split at h
  ·cases h
  split at h
  ·rename_i h1
   cases h;exact⟨Nat.le_refl _,h1,fun j h2 h3=>by omega⟩
  ·rename_i h1
   obtain⟨g1,g2,g3⟩:=findE_ok m h;refine⟨by omega,g2,fun j h2 h3=>?_⟩;by_cases hj:j=a
   ·subst hj;simpa using h1
   ·exact g3 j (by omega) h3
theorem ends_len {s:List UInt8}{a:Nat}(h:ends s a=true):a+3≤s.length:=by
 unfold ends at h;split at h
 ·rename_i w e i r hd
  have:=congrArg List.length hd;rw[List.length_drop] at this;simp only[List.length_cons] at this;omega
 ·cases h
theorem findE_is {s:List UInt8}{i:Nat}(hi:ends s i=true):∀(m a:Nat),a≤i→(∀j,a≤j→j < i→ends s j=false)→i < a+m→findE s m a=some i
|0,a,h1,_,h=>by omega
|m+1,a,h1,h2,h=>by
  have:=ends_len hi;rw[findE,if_neg (by omega)];by_cases he:a=i
  ·subst he;rw[if_pos hi]
  ·rw[if_neg (by rw[h2 a (by omega) (by omega)];decide)];exact findE_is hi m (a+1) (by omega) (fun j h3 h4=>h2 j (by omega) h4) (by omega)
theorem image_ok {s:List UInt8}{a:Int}(h:(image s a).2.2.e=0):(keys s (s.length+1) a Ps.dict0 []).2.2.e=0∧whiteAt s (keys s (s.length+1) a Ps.dict0 []).2.1=true ∧
  ∃i,findE s (s.length+1) ((keys s (s.length+1) a Ps.dict0 []).2.1.toNat+1)=some i∧image s a=(⟨biW,[(keys s (s.length+1) a Ps.dict0 []).1],(s.drop ((keys s (s.length+1) a Ps.dict0 []).2.1.toNat+1)).take (i - ((keys s (s.length+1) a Ps.dict0 []).2.1.toNat+1))⟩,(i:Int)+3,ok):=by
 unfold image at h ⊢;simp only at h ⊢;split at h
 ·rename_i h1;exact absurd h h1
 rename_i h1
 rw[if_neg h1];split at h
 ·simp at h
 rename_i h2
 rw[if_neg h2];refine⟨Classical.not_not.1 h1,by simpa using h2,?_⟩;cases hf:findE s (s.length+1) ((keys s (s.length+1) a Ps.dict0 []).2.1.toNat+1) with
|none=>rw[hf] at h;simp at h
|some i=>exact⟨i,rfl,rfl⟩
theorem image_bd {s:List UInt8}{a:Int}(h:(image s a).2.2.e=0):0≤a∧a < (image s a).2.1∧(image s a).2.1≤s.length:=by
 obtain⟨h1,h2,i,h3,h4⟩:=image_ok h;have b:=keys_bd _ h1;obtain⟨f1,f2,_⟩:=findE_ok _ h3;have:=ends_len f2;rw[h4];show 0≤a∧a < (i:Int)+3∧(i:Int)+3≤s.length;omega
theorem operator_ok {s:List UInt8}{t:Tok}{n:Nat}{args:List Ob}(h:(operator s t n args).2.2.e=0):n < 8191 ∧
  ((t.s=biW∧args=[]∧operator s t n args=image s t.t)∨(t.s≠biW∧t.s≠idW∧t.s≠eiW∧t.s≠rW∧operator s t n args=(⟨t.s,args,[]⟩,t.t,ok))):=by
 unfold operator at h ⊢;split at h
 ·simp at h
 rename_i h1
 rw[if_neg h1];refine⟨by omega,?_⟩;split at h
 ·rename_i h2
  rw[if_pos h2];split at h
  ·simp at h
  ·rename_i h3
   rw[if_neg h3];exact .inl ⟨h2,Classical.not_not.1 h3,rfl⟩
 rename_i h2
 rw[if_neg h2];split at h
 ·simp at h
 rename_i h3
 rw[if_neg h3];simp only[not_or] at h3;exact .inr ⟨h2,h3.1,h3.2.1,h3.2.2,rfl⟩
theorem operator_bd {s:List UInt8}{a:Int}{n:Nat}{args:List Ob}(h1:(next s a).2=0)(h2:(next s a).1.k≠0)(h:(operator s (next s a).1 n args).2.2.e=0):0≤a∧a < (operator s (next s a).1 n args).2.1∧(operator s (next s a).1 n args).2.1≤s.length:=by
 have b:=Lx.next_bd h1 h2;have:=Lx.skip_ge s a.toNat;obtain⟨_,h3⟩:=operator_ok h;rcases h3 with ⟨_,_,e⟩|⟨_,_,_,_,e⟩
 ·rw[e] at h ⊢;have:=image_bd h;omega
 ·rw[e];exact⟨by omega,by show a < (next s a).1.t;omega,b.2.2.2.2⟩
theorem readG_ok {s:List UInt8}{m:Nat}{a:Int}{l:List Cop}{args:List Ob}(h:(readG s (m+1) a l args).2.e=0):(next s a).2=0 ∧
  (((next s a).1.k=0∧args=[]∧readG s (m+1) a l args=(l,ok)) ∨
   ((next s a).1.k=5∧constant (next s a).1.s=false∧(operator s (next s a).1 l.length args).2.2.e=0 ∧
    readG s (m+1) a l args=readG s m (operator s (next s a).1 l.length args).2.1 (l++[(operator s (next s a).1 l.length args).1]) []) ∨
   ((next s a).1.k≠0∧¬((next s a).1.k=5∧constant (next s a).1.s=false)∧(Ps.object s a).2.2=0∧refers (Ps.object s a).1=false∧args.length < 32 ∧
    readG s (m+1) a l args=readG s m (Ps.object s a).2.1 l (args++[(Ps.object s a).1]))):=by
 rw[readG] at h ⊢;split at h
 ·rename_i h1;exact absurd h h1
 rename_i h1
 rw[if_neg h1];refine⟨Classical.not_not.1 h1,?_⟩;split at h
 ·rename_i h2
  rw[if_pos h2];split at h
  ·simp at h
  rename_i h3
  rw[if_neg h3];exact .inl ⟨h2,Classical.not_not.1 h3,rfl⟩
 rename_i h2
 rw[if_neg h2];split at h
 ·rename_i h3
  rw[if_pos h3];split at h
  ·rename_i h4;exact absurd h h4
  rename_i h4
  rw[if_neg h4];exact .inr (.inl ⟨h3.1,h3.2,Classical.not_not.1 h4,rfl⟩)
 rename_i h3
 rw[if_neg h3];split at h
 ·rename_i h4;exact absurd h h4
 rename_i h4
 rw[if_neg h4];split at h
 ·simp at h
 rename_i h5
 rw[if_neg h5];split at h
 ·simp at h
 rename_i h6
 rw[if_neg h6];exact .inr (.inr ⟨h2,h3,Classical.not_not.1 h4,by simpa using h5,by omega,rfl⟩)
theorem readG_err {s:List UInt8}:∀(m:Nat) {a:Int} {l:List Cop} {args:List Ob},(readG s m a l args).2.e≠0→(readG s m a l args).1=[]
|0,a,l,args,h=>rfl
|m+1,a,l,args,h=>by
  rw[readG] at h ⊢;split at h
  ·rename_i h1;rw[if_pos h1]
  rename_i h1
  rw[if_neg h1];split at h
  ·rename_i h2
   rw[if_pos h2];split at h
   ·rename_i h3;rw[if_pos h3]
   ·simp[ok] at h
  rename_i h2
  rw[if_neg h2];split at h
  ·rename_i h3
   rw[if_pos h3];split at h
   ·rename_i h4;rw[if_pos h4]
   ·rename_i h4;rw[if_neg h4];exact readG_err m h
  rename_i h3
  rw[if_neg h3];split at h
  ·rename_i h4;rw[if_pos h4]
  rename_i h4
  rw[if_neg h4];split at h
  ·rename_i h5;rw[if_pos h5]
  rename_i h5
  rw[if_neg h5];split at h
  ·rename_i h6;rw[if_pos h6]
  rename_i h6
  rw[if_neg h6];exact readG_err m h
theorem ends_pre (p s:List UInt8)(a:Nat):ends (p++s) (p.length+a)=ends s a:=by unfold ends;rw[drop_pre]
end Cs
end
section
open Go
namespace Cs
open Lx (next Tok token skip run cut)
open Ps (R bad Good2 Look RefNot ref leaf)
section
variable {s t:List UInt8}
end
theorem readG_at {t:List UInt8}{a b:Int}(h0:0≤a∧a≤t.length)(h1:0≤b∧b≤t.length)(h:skip t a.toNat=skip t b.toNat)(m:Nat)(l:List Cop)(args:List Ob):readG t m a l args=readG t m b l args:=by
 have e1:next t a=next t b:=by unfold Lx.next;rw[if_neg (by omega),if_neg (by omega),h]
 have e2:Lx.skipI t a=Lx.skipI t b:=by unfold Lx.skipI;rw[if_neg (by omega),if_neg (by omega),h]
 have e3:Ps.object t a=Ps.object t b:=by unfold Ps.object;rw[if_neg (by omega),if_neg (by omega),Ps.obj,Ps.obj,e1]
 cases m with
|zero=>rfl
|succ m=>rw[readG,readG,e1,e2,e3]
theorem readG_fault0 {s:List UInt8}:∀(m:Nat) {a:Int} {l:List Cop} {args:List Ob},(readG s m a l args).2.e=0→(readG s m a l args).2=ok
|0,a,l,args,h=>by simp[readG] at h
|m+1,a,l,args,h=>by
  obtain⟨h1,h2⟩:=readG_ok h;rcases h2 with ⟨_,_,e⟩|⟨_,_,_,e⟩|⟨_,_,_,_,_,e⟩
  ·rw[e]
  ·rw[e] at h ⊢;exact readG_fault0 m h
  ·rw[e] at h ⊢;exact readG_fault0 m h
end Cs
end
section
open Go
namespace Cs
open Lx (next Tok token skip run cut Single joinR gap)
open Ps (At Toks NoRef)
theorem gap_head (last c:UInt8)(t u:List UInt8):gap last (c::t)=gap last (c::u):=by rw[Lx.gap_cons,Lx.gap_cons]
theorem gap_32 (p:List UInt8):gap 32 p=[]:=by
 unfold Lx.gap;rw[if_neg];intro h;have:Oc.regular 32=false:=by decide
 simp[this] at h
theorem glue_join {acc:List UInt8}{qs:List (List UInt8)}(h0:qs≠[])(h:∀q∈qs,q≠[]):Pl.glue acc (Pl.join qs)=qs.foldl Pl.glue acc:=by
 cases qs with
|nil=>exact absurd rfl h0
|cons q t=>
  have hq:=h q List.mem_cons_self;rw[Lx.foldl_joinR _ _ h,Lx.join_joinR _ h];cases q with
 |nil=>exact absurd rfl hq
 |cons c u=>
   have e:joinR 32 ((c::u)::t)=c::(u++joinR (Pl.lastC (c::u)) t):=by rw[Lx.joinR,gap_32];rfl
   rw[e,Lx.glue_gap _ _ (by simp),Lx.joinR,gap_head _ c _ u];simp
theorem foldl_join:∀(Q:List (List (List UInt8))) (acc:List UInt8),(∀qs∈Q,qs≠[]∧∀q∈qs,q≠[])→(Q.map Pl.join).foldl Pl.glue acc=Q.flatten.foldl Pl.glue acc
|[],acc,_=>rfl
|qs::Q,acc,h=>by
  obtain⟨h0,h1⟩:=h qs List.mem_cons_self;rw[List.map_cons,List.foldl_cons,glue_join h0 h1,foldl_join Q _ (fun x hx=>h x (List.mem_cons_of_mem _ hx)),List.flatten_cons,List.foldl_append]
theorem join_flat {Q:List (List (List UInt8))}(h:∀qs∈Q,qs≠[]∧∀q∈qs,q≠[]):Pl.join (Q.map Pl.join)=Pl.join Q.flatten:=foldl_join Q [] h
theorem join_one {x:List UInt8}(h:x≠[]):Pl.join [x]=x:=by
 rw[Lx.join_joinR _ (by simpa using h),Lx.joinR,gap_32,Lx.joinR];simp
theorem text_ok {x:Ob}(h:Vl.check 1 x=0)(h9:x.k≠9):Wr.text x=(Pl.join (Wr.parts x),0):=by
 unfold Wr.text;rw[if_neg (by simp[h]),if_neg h9]
theorem parts_ne {x:Ob}{d:Nat}(h:Vl.check d x=0):Wr.parts x≠[]∧∀q∈Wr.parts x,q≠[]:=by
 refine⟨fun e=>?_,fun q hq=>?_⟩
 ·have:=Ps.parts_pos x;rw[e] at this;simp at this
 ·obtain⟨y,hy⟩:=Wr.parts_single x d h q hq;exact Ps.single_ne hy
theorem join_args {args:List Ob}{name:List UInt8}(h:∀x∈args,Vl.check 1 x=0∧x.k≠9)(hn:name≠[]):Pl.join (args.map (fun x=>(Wr.text x).1)++[name])=joinR 32 (args.flatMap Wr.parts++[name]):=by
 have e:args.map (fun x=>(Wr.text x).1)++[name]=(args.map Wr.parts++[[name]]).map Pl.join:=by
  rw[List.map_append,List.map_map]
  congr 1
  ·refine List.map_congr_left fun x hx=>?_;rw[text_ok (h x hx).1 (h x hx).2];rfl
  ·rw[List.map_cons,List.map_nil,join_one hn]
 have hQ:∀qs∈args.map Wr.parts++[[name]],qs≠[]∧∀q∈qs,q≠[]:=by
  intro qs hqs;rcases List.mem_append.1 hqs with g|g
  ·obtain⟨x,hx,rfl⟩:=List.mem_map.1 g;exact parts_ne (h x hx).1
  ·rw[List.mem_singleton] at g;subst g;exact⟨by simp,by simpa using hn⟩
 have ef:(args.map Wr.parts++[[name]]).flatten=args.flatMap Wr.parts++[name]:=by rw[List.flatten_append,List.flatMap_def];simp
 rw[e,join_flat hQ,Lx.join_joinR _ ?_,ef];intro p hp;obtain⟨qs,h1,h2⟩:=List.mem_flatten.1 hp;exact (hQ qs h1).2 p h2
theorem name_ne {k:List UInt8}(h:Vl.name k=true):(Pl.pName k).1≠[]:=Ps.single_ne (Ps.tk_name h)
theorem pairs_flat:∀(ks:List (List UInt8)) (os:List Ob),(∀x∈os,Vl.check 1 x=0∧x.k≠9)→(∀k∈ks,Vl.name k=true)→∃Q:List (List (List UInt8)),pairs ks os=Q.map Pl.join∧Q.flatten=Wr.partsD ks os∧∀qs∈Q,qs≠[]∧∀q∈qs,q≠[]
|[],[],_,_=>⟨[],by simp[pairs],by simp[Wr.partsD],by simp⟩
|[],o::os,_,_=>⟨[],by simp[pairs],by simp[Wr.partsD],by simp⟩
|k::ks,[],_,_=>⟨[],by simp[pairs],by simp[Wr.partsD],by simp⟩
|k::ks,o::os,ho,hk=>by
  obtain⟨Q,q1,q2,q3⟩:=pairs_flat ks os (fun x hx=>ho x (List.mem_cons_of_mem _ hx)) (fun x hx=>hk x (List.mem_cons_of_mem _ hx));obtain⟨o1,o9⟩:=ho o List.mem_cons_self;have hne:=name_ne (hk k List.mem_cons_self);refine⟨[(Pl.pName k).1]::Wr.parts o::Q,?_,?_,?_⟩
  ·rw[pairs,q1,text_ok o1 o9,List.map_cons,List.map_cons,join_one hne]
  ·rw[List.flatten_cons,List.flatten_cons,q2,Wr.partsD];rfl
  ·intro qs hqs;rcases List.mem_cons.1 hqs with rfl|g
   ·exact⟨by simp,by simpa using hne⟩
   rcases List.mem_cons.1 g with rfl|g
   ·exact parts_ne o1
   ·exact q3 qs g
theorem join_pairs {ks:List (List UInt8)}{os:List Ob}(ho:∀x∈os,Vl.check 1 x=0∧x.k≠9)(hk:∀k∈ks,Vl.name k=true):Pl.join (biW::pairs ks os++[idW])=joinR 32 (biW::(Wr.partsD ks os++[idW])):=by
 obtain⟨Q,q1,q2,q3⟩:=pairs_flat ks os ho hk;have e:biW::pairs ks os++[idW]=([biW]::(Q++[[idW]])).map Pl.join:=by
  rw[List.map_cons,List.map_append,q1,join_one (by decide),List.map_cons,List.map_nil,join_one (by decide)];rfl
 have hQ:∀qs∈[biW]::(Q++[[idW]]),qs≠[]∧∀q∈qs,q≠[]:=by
  intro qs hqs;rcases List.mem_cons.1 hqs with rfl|g
  ·exact⟨by simp,by simp[biW]⟩
  rcases List.mem_append.1 g with g|g
  ·exact q3 qs g
  ·rw[List.mem_singleton] at g;subst g;exact⟨by simp,by simp[idW]⟩
 have ef:([biW]::(Q++[[idW]])).flatten=biW::(Wr.partsD ks os++[idW]):=by rw[List.flatten_cons,List.flatten_append,q2];simp
 rw[e,join_flat hQ,Lx.join_joinR _ ?_,ef];intro p hp;obtain⟨qs,h1,h2⟩:=List.mem_flatten.1 hp;exact (hQ qs h1).2 p h2
theorem wordT_5 {t:List UInt8}{a b:Int}(h:(Lx.wordT t a b).2=0)(hk:(Lx.wordT t a b).1.k=5):Lx.wordT t a b=(⟨5,a,b,0,t⟩,0):=by
 unfold Lx.wordT at h hk ⊢;split at h
 ·rename_i h1
  rw[if_pos h1] at hk;split at hk<;>simp[Lx.refused,Lx.none_] at hk
 rename_i h1
 rw[if_neg h1] at hk ⊢;split at h
 ·rename_i h2
  rw[if_pos h2] at hk;simp at hk
 rename_i h2
 rw[if_neg h2] at hk ⊢;split at h
 ·simp[Lx.refused] at h
 rename_i h3
 rw[if_neg h3] at hk ⊢;exact Lx.told_ok h
theorem token_5 {s:List UInt8}{a:Nat}(h:(token s a).2=0)(hk:(token s a).1.k=5):token s a=(⟨5,a,run s a,0,cut s a (run s a)⟩,0):=by
 have told5:∀{k a t:Int} {x:List UInt8} {m:Int},(Lx.told k a t x m).1.k=5→k=5:=by
  intro k a t x m hk;unfold Lx.told at hk;split at hk
  ·simp[Lx.refused,Lx.none_] at hk
  ·exact hk
 unfold token at h hk ⊢;split at h
 ·rename_i hd;rw[hd] at hk;simp at hk
 rename_i c t hd
 rw[hd] at hk;simp only at hk;split at h
 ·rename_i h1;rw[if_pos h1] at hk;simp[Lx.mark] at hk
 rename_i h1;rw[if_neg h1] at hk ⊢
 split at h
 ·rename_i h2;rw[if_pos h2] at hk
  split at hk
  ·simp[Lx.mark] at hk
  ·unfold Lx.hex at hk;split at hk
   ·simp[Lx.refused,Lx.none_] at hk
   ·exact absurd (told5 hk) (by decide)
 rename_i h2;rw[if_neg h2] at hk ⊢
 split at h
 ·rename_i h3;rw[if_pos h3] at hk
  split at hk
  ·simp[Lx.mark] at hk
  ·simp[Lx.refused,Lx.none_] at hk
 rename_i h3;rw[if_neg h3] at hk ⊢
 split at h
 ·rename_i h4;rw[if_pos h4] at hk
  unfold Lx.name at hk;split at hk
  ·simp[Lx.refused,Lx.none_] at hk
  ·exact absurd (told5 hk) (by decide)
 rename_i h4;rw[if_neg h4] at hk ⊢
 split at h
 ·rename_i h5;rw[if_pos h5] at hk
  unfold Lx.text at hk;split at hk
  ·simp[Lx.refused,Lx.none_] at hk
  ·exact absurd (told5 hk) (by decide)
 rename_i h5;rw[if_neg h5] at hk ⊢
 split at h
 ·simp[Lx.refused] at h
 rename_i h6;rw[if_neg h6] at hk ⊢
 exact wordT_5 h hk
structure Named (s:List UInt8):Prop where
 tok:Single s ⟨5,0,s.length,0,s⟩
 con:constant s=false
 r:s≠rW
 bi:s≠biW
 id:s≠idW
 ei:s≠eiW
theorem named_tok {s:List UInt8}(h:named s=true):Named s:=by
 unfold named at h;simp only[Bool.and_eq_true,decide_eq_true_eq,Bool.not_eq_true',decide_eq_false_iff_not] at h;obtain⟨⟨⟨⟨⟨⟨⟨⟨h1,h2⟩,h3⟩,h4⟩,h5⟩,h6⟩,h7⟩,h8⟩,h9⟩:=h;refine⟨?_,h5,h6,h7,h8,h9⟩;have b:=Lx.next_bd h1 (by omega);have hs:skip s 0=0:=by have:=b.2.2.1;simp only[Int.toNat_zero] at this;omega
 have e:next s 0=token s 0:=by unfold Lx.next;rw[if_neg (by omega),Int.toNat_zero,hs]
 rw[e] at h1 h2 h4;have e2:=token_5 h1 h2;rw[e2] at h4;have h4:((run s 0:Nat):Int)=s.length:=h4;have h4:run s 0=s.length:=by omega
 refine⟨?_,by simp,rfl,rfl⟩;rw[e,e2,h4];simp[Lx.cut]
theorem Named.notR {s:List UInt8}(h:Named s):Ps.NotR s:=Ps.notR_of h.tok (by simp only;exact fun g=>h.r g.2)
theorem begins_con {x:Tok}(h:Ps.begins x=true):¬(x.k=5∧constant x.s=false):=by
 rintro⟨h1,h2⟩;unfold Ps.begins at h;rw[if_neg (by omega)] at h;unfold constant at h2;simp only[Bool.or_eq_false_iff,decide_eq_false_iff_not] at h2;simp[h1,h2] at h
theorem args_rest {args:List Ob}{name:List UInt8}(hn:Named name)(h:∀x∈args,Vl.check 1 x=0):∃q qs,args.flatMap Wr.parts++[name]=q::qs∧Ps.NotR q:=by
 cases args with
|nil=>exact⟨name,[],rfl,hn.notR⟩
|cons y args=>
  obtain⟨p,ps,hp,hpR,_,_⟩:=Ps.parts_head (h y List.mem_cons_self);exact⟨p,ps++(args.flatMap Wr.parts++[name]),by rw[List.flatMap_cons,hp];simp,hpR⟩
theorem args_back {S name:List UInt8}{l:List Cop}(hn:Named name)(hl:l.length < 8191):∀(args acc:List Ob) (M:Nat) (a b:Int),(∀x∈args,Vl.check 1 x=0∧x.k≠9∧refers x=false)→acc.length+args.length≤32→Toks S a (args.flatMap Wr.parts++[name]) b→(S.length:Int)+1≤a+M →
  ∃M':Nat,(S.length:Int)+1≤b+M'∧readG S M a l acc=readG S M' b (l++[⟨name,acc++args,[]⟩]) []
|[],acc,M,a,b,_,_,ht,hM=>by
  have ht:Toks S a [name] b:=ht;obtain⟨c,k1,k2⟩:=ht;have k2:c=b:=k2;subst k2;obtain⟨a',e⟩:=k1.next hn.tok
  have bd:=k1.bd;cases M with
 |zero=>omega
 |succ M=>
   refine⟨M,by omega,?_⟩;have eo:operator S ⟨5,a',c,0,name⟩ l.length acc=(⟨name,acc,[]⟩,c,ok):=by
    unfold operator;rw[if_neg (by omega),if_neg hn.bi,if_neg (by simp[hn.id,hn.ei,hn.r])]
   rw[readG,e];simp only;rw[if_neg (by simp),if_neg (by simp),if_pos ⟨trivial,hn.con⟩,eo,if_neg (by simp[ok]),List.append_nil]
|x::args,acc,M,a,b,ho,hlen,ht,hM=>by
  obtain⟨hc,h9,hr⟩:=ho x List.mem_cons_self;have ho2:∀y∈args,Vl.check 1 y=0∧y.k≠9∧refers y=false:=fun y hy=>ho y (List.mem_cons_of_mem _ hy);obtain⟨p,ps,hp,hpR,hpb,_⟩:=Ps.parts_head hc;have ht:Toks S a (Wr.parts x++(args.flatMap Wr.parts++[name])) b:=by rw[List.flatMap_cons,List.append_assoc] at ht;exact ht
  obtain⟨c,t1,t2⟩:=Ps.toks_app.1 ht;have hno:NoRef S c:=by
   cases args with
  |nil=>
    obtain⟨e,h3,_⟩:=(show Toks S c [name] b from t2);exact Ps.noRef_head h3 (Ps.notI_of hn.tok (by simp))
  |cons y args=>
    obtain⟨_,_,_,_,_,hno⟩:=Ps.parts_head (ho2 y List.mem_cons_self).1;obtain⟨q,qs,hq,hqR⟩:=args_rest (args:=args) hn fun z hz=>(ho2 z (List.mem_cons_of_mem _ hz)).1;rw[List.flatMap_cons,List.append_assoc,hq] at t2;exact hno q qs hqR t2
  have b1:=Ps.toks_bd (by rw[hp];simp) t1;have b2:=Ps.parts_pos x;have hobj:Ps.object S a=(x,c,0):=by
   unfold Ps.object;rw[if_neg (by omega)];exact Ps.obj_back S x.wt x 1 (Nat.le_refl _) (by omega) hc h9 a c t1 fun _=>hno
  have hbg:(next S a).2=0∧Ps.begins (next S a).1=true:=by
   rw[hp] at t1;obtain⟨e,h3,_⟩:=t1;have:=h3.bg hpb;exact⟨this.1,this.2.1⟩
  cases M with
 |zero=>omega
 |succ M=>
   obtain⟨M',m1,m2⟩:=args_back hn hl args (acc++[x]) M c b ho2 (by simp only[List.length_append,List.length_cons,List.length_nil] at hlen ⊢;omega) t2 (by omega);refine⟨M',m1,?_⟩;rw[readG,if_neg (by simp[hbg.1]),if_neg (Ps.begins_open hbg.2).1,if_neg (begins_con hbg.2),hobj,if_neg (by simp),if_neg (by simp[hr]),if_neg (by simp only[List.length_cons] at hlen;omega)];simp only;rw[m2,List.append_assoc];rfl
theorem depthL_le {B:Nat}:∀l:List Ob,(∀c∈l,depth c≤B)→depthL l≤B
|[],_=>by simp[depthL]
|o::l,h=>by
  have h1:=h o List.mem_cons_self;have h2:=depthL_le l fun c hc=>h c (List.mem_cons_of_mem _ hc);rw[depthL];omega
theorem check_depth (n:Nat):∀(o:Ob) (d:Nat),o.wt≤n→Vl.check d o=0→depth o+d≤25:=by
 induction n with
|zero=>intro o d h;have:=o.wt_pos;omega
|succ n ih=>
  intro o d hw hc;obtain⟨a1,hck⟩:=Vl.check_iff.1 hc;have:depthL o.kids≤24 - d:=by
   refine depthL_le _ fun c hc=>?_;have hcx:=hck c hc;obtain⟨i,hi,rfl⟩:=List.getElem_of_mem hc;have hkw:=kid_wt hi;have:=ih _ (d+1) (by omega) hcx;omega
  rw[depth_eq];have:=a1.1;omega
theorem check_mono (n:Nat):∀(o:Ob) (d:Nat),o.wt≤n→Vl.check (d+1) o=0→Vl.check d o=0:=by
 induction n with
|zero=>intro o d h;have:=o.wt_pos;omega
|succ n ih=>
  intro o d hw hc;obtain⟨⟨a1,a2,a3,a4,a5,a6,a7⟩,hck⟩:=Vl.check_iff.1 hc;refine Vl.check_iff.2 ⟨⟨by omega,a2,fun e=>by have:=a3 e;omega,a4,a5,a6,a7⟩,fun c hc=>?_⟩;have hcx:=hck c hc;obtain⟨i,hi,rfl⟩:=List.getElem_of_mem hc;have hkw:=kid_wt hi;exact ih _ (d+1) (by omega) hcx
theorem refersL_ok:∀(l:List Ob),refersL l=false→∀c∈l,refers c=false
|[],_,c,hc=>by cases hc
|o::l,h,c,hc=>by
  rw[refersL,Bool.or_eq_false_iff] at h;rcases List.mem_cons.1 hc with rfl|hc
  ·exact h.1
  ·exact refersL_ok l h.2 c hc
theorem refers_kids {o:Ob}(h:refers o=false):∀c∈o.kids,refers c=false:=by
 rw[refers_eq,Bool.or_eq_false_iff] at h;exact refersL_ok _ h.2
theorem tk_id:Single idW ⟨5,0,2,0,idW⟩:=by unfold Lx.Single;decide +kernel
theorem tk_bi:Single biW ⟨5,0,2,0,biW⟩:=by unfold Lx.Single;decide +kernel
theorem keys_back {S:List UInt8}:∀(ks:List (List UInt8)) (kids:List Ob) (K:List (List UInt8)) (C:List Ob) (m:Nat) (a b:Int),ks.length=kids.length→K.length=C.length→(∀k∈ks,Vl.name k=true)→Vl.Rise (K++ks) →
  (∀o∈kids,Vl.check 1 o=0∧o.k≠0∧o.k≠9∧refers o=false∧depth o < 24)→(K++ks).length≤8191→ks.length < m→Toks S a (Wr.partsD ks kids++[idW]) b→keys S m a (.mk 7 0 0 [] K C) K=(.mk 7 0 0 [] (K++ks) (C++kids),b,ok)
|[],[],K,C,m+1,a,b,_,_,_,_,_,_,_,ht=>by
  rw[Wr.partsD,List.nil_append] at ht;obtain⟨c,h1,h2⟩:=ht;have h2:c=b:=h2;subst h2;obtain⟨a',hn⟩:=h1.next tk_id
  rw[keys,hn,if_neg (by simp),if_neg (by simp),if_pos ⟨rfl,rfl⟩,List.append_nil,List.append_nil]
|key::ks,o::kids,K,C,m+1,a,b,hlen,hKC,hnm,hr,ho,hl,hm,ht=>by
  obtain⟨hc,h0,h9,hrf,hdp⟩:=ho o List.mem_cons_self;have htk:=Ps.tk_name (hnm key List.mem_cons_self);rw[Wr.partsD] at ht;simp only[List.cons_append,List.append_assoc] at ht;obtain⟨c,h1,h2⟩:=ht;obtain⟨e,h3,h4⟩:=Ps.toks_app.1 h2;obtain⟨a',hn⟩:=h1.next htk
  obtain⟨p,ps,hp,_,hpb,_⟩:=Ps.parts_head hc;have hno:NoRef S e:=by
   cases ks with
  |nil=>
    cases kids with
   |nil=>
     rw[Wr.partsD,List.nil_append] at h4;obtain⟨f,h5,_⟩:=h4;exact Ps.noRef_head h5 (Ps.notI_of tk_id (by decide))
   |cons _ _=>simp at hlen
  |cons k2 ks=>
    cases kids with
   |nil=>simp at hlen
   |cons o2 os=>
     rw[Wr.partsD,List.cons_append] at h4;obtain⟨f,h5,_⟩:=h4;exact Ps.noRef_head h5 (Ps.notI_of (Ps.tk_name (hnm k2 (by simp))) (by simp))
  have b1:=Ps.toks_bd (by rw[hp];simp) h3;have b2:=Ps.parts_pos o;have hobj:Ps.object S c=(o,e,0):=by
   unfold Ps.object;rw[if_neg (by omega)];exact Ps.obj_back S o.wt o 1 (Nat.le_refl _) (by omega) hc h9 c e h3 fun _=>hno
  have hbg:(next S c).2=0∧Ps.begins (next S c).1=true:=by
   rw[hp] at h3;obtain⟨f,h5,_⟩:=h3;have:=h5.bg hpb;exact⟨this.1,this.2.1⟩
  have hk:key ∉ K:=by
   intro hk;have:=(List.pairwise_append.1 hr).2.2 key hk key List.mem_cons_self;rw[Vl.less_irrefl] at this;cases this
  have hK:K.length≠8191:=by simp at hl;omega
  have hr1:Vl.Rise (K++[key]):=by
   refine List.Pairwise.sublist ?_ hr;exact (List.Sublist.refl K).append (List.Sublist.cons_cons key (List.nil_sublist ks))
  rw[keys,hn,if_neg (by simp),if_neg (by simp),if_neg (by simp),if_neg (by simp),if_neg (by simpa using hk),if_neg hK];simp only;rw[if_neg (by simp[hbg.1]),if_neg (Ps.begins_open hbg.2).1,hobj,if_neg (by simp),if_neg (by simp[hrf]),if_neg (by simp only;omega)];simp only;unfold Ps.join;rw[if_pos h0,Ps.put_end hr1 hKC];have:=keys_back ks kids (K++[key]) (C++[o]) m e b (by simpa using hlen) (by simp[hKC]) (fun k hk=>hnm k (List.mem_cons_of_mem _ hk)) (by rw[List.append_assoc];exact hr) (fun x hx=>ho x (List.mem_cons_of_mem _ hx)) (by rw[List.append_assoc];exact hl) (by simpa using hm) h4;rw[this,List.append_assoc,List.append_assoc];rfl
|[],_::_,_,_,_,_,_,h,_,_,_,_,_,_,_=>by simp at h
|_::_,[],_,_,_,_,_,h,_,_,_,_,_,_,_=>by simp at h
|[],[],_,_,0,_,_,_,_,_,_,_,_,h,_=>by simp at h
|_::_,_::_,_,_,0,_,_,_,_,_,_,_,_,h,_=>by simp at h
theorem ends_data {data:List UInt8}(pre rest:List UInt8){k:Nat}(hk:k < data.length):ends (pre++(data++10::69::73::10::rest)) (pre.length+k)=ends data k:=by
 rw[ends_pre];unfold ends;rw[List.drop_append_of_le_length (by omega)];have hl:1≤(data.drop k).length:=by rw[List.length_drop];omega
 generalize data.drop k=u at *
 match u,hl with
|[w],_=>simp
|[w,e],_=>simp
|[w,e,i],_=>simp[show Oc.white 10=true by decide]
|w::e::i::c::u,_=>simp
theorem ends_here (pre rest:List UInt8):ends (pre++10::69::73::10::rest) pre.length=true:=by
 unfold ends;rw[List.drop_left];simp[show Oc.white 10=true by decide]
theorem image_back {S pre data rest:List UInt8}(hS:S=pre++10::(data++10::69::73::10::rest)){a:Int}{d:Ob}(hk:keys S (S.length+1) a Ps.dict0 []=(d,(pre.length:Int),ok))(hs:shown data=true) :
  image S a=(⟨biW,[d],data⟩,(pre.length:Int)+1+data.length+3,ok):=by
 have hlen:S.length=pre.length+data.length+rest.length+5:=by rw[hS];simp only[List.length_append,List.length_cons];omega
 have hS2:S=(pre++[10])++(data++10::69::73::10::rest):=by rw[hS];simp
 have hS3:S=(pre++10::data)++10::69::73::10::rest:=by rw[hS];simp
 have hw:whiteAt S pre.length=true:=by
  unfold whiteAt;rw[decide_eq_true (by omega),Int.toNat_natCast,hS,List.getElem?_append_right (Nat.le_refl _),Nat.sub_self];simp[show Oc.white 10=true by decide]
 unfold image;simp only;rw[hk];simp only;rw[if_neg (by simp[ok]),if_neg (by simp[hw]),Int.toNat_natCast];have hf:findE S (S.length+1) (pre.length+1)=some (pre.length+1+data.length):=by
  refine findE_is ?_ _ _ (by omega) (fun j h1 h2=>?_) (by omega)
  ·have:=ends_here (pre++10::data) rest;rw[←hS3] at this;rw[show pre.length+1+data.length=(pre++10::data).length by simp only[List.length_append,List.length_cons];omega];exact this
  ·have:=ends_data (data:=data) (pre++[10]) rest (k:=j - (pre.length+1)) (by omega);rw[←hS2,show (pre++[(10:UInt8)]).length+(j - (pre.length+1))=j by simp only[List.length_append,List.length_cons,List.length_nil];omega] at this;rw[this];have:=List.all_eq_true.1 hs (j - (pre.length+1)) (List.mem_range.2 (by omega));simpa using this
 rw[hf];simp only;rw[hS2,show pre.length+1=(pre++[(10:UInt8)]).length by simp,List.drop_left,show (pre++[(10:UInt8)]).length+data.length - (pre++[(10:UInt8)]).length=data.length by omega,List.take_left];simp
theorem toks_line {ps:List (List UInt8)}(h0:ps≠[])(h:∀q∈ps,∃x,Single q x)(pre rest:List UInt8):Toks (pre++(joinR 32 ps++10::rest)) pre.length ps ((pre.length:Int)+(joinR 32 ps).length):=by
 cases ps with
|nil=>exact absurd rfl h0
|cons p ps=>
  obtain⟨x,hx⟩:=h p List.mem_cons_self;refine Ps.joins_toks ps p pre 32 (10::rest) pre.length h (Ps.ends_stop (Ps.stops_cons (by decide))) (by simp only[List.length_append];omega) ?_;obtain⟨c,u,e,h37,hw,_⟩:=Lx.single_head hx;rw[Lx.joinR,gap_32,List.append_nil,List.nil_append,e,List.cons_append,List.cons_append];exact Ps.skip_here h37 hw
theorem skip_nl (pre rest:List UInt8):skip (pre++10::rest) pre.length=skip (pre++10::rest) (pre.length+1):=by
 unfold Lx.skip;rw[←List.drop_drop,List.drop_left,Lx.skipF,if_neg (by decide),if_pos (by decide)];simp only[List.drop_succ_cons,List.drop_zero];omega
theorem readG_line {S pre rest:List UInt8}(hS:S=pre++10::rest)(m:Nat)(l:List Cop)(args:List Ob):readG S m pre.length l args=readG S m ((pre++[(10:UInt8)]).length:Nat) l args:=by
 subst hS;refine readG_at ⟨by omega,by simp only[List.length_append,List.length_cons];omega⟩ ⟨by omega,by simp only[List.length_append,List.length_cons,List.length_nil];omega⟩ ?_ m l args;rw[Int.toNat_natCast,Int.toNat_natCast,show (pre++[(10:UInt8)]).length=pre.length+1 by simp];exact skip_nl pre rest
structure May (o:Cop):Prop where
 form:form o=true
 check:∀x∈o.args,Vl.check 1 x=0
 kinds:∀x∈o.args,refers x=false∧x.k≠9
theorem firstE_ok:∀l:List Ob,firstE l=0↔∀x∈l,Vl.check 1 x=0
|[]=>by simp[firstE]
|o::l=>by
  rw[firstE];split
  ·rename_i h
   exact⟨fun e=>absurd e h,fun e=>absurd (e o List.mem_cons_self) h⟩
  ·rename_i h
   rw[firstE_ok l];exact⟨fun e x hx=>(List.mem_cons.1 hx).elim (fun g=>by rw[g];exact Classical.not_not.1 h) (fun g=>e x g),fun e x hx=>e x (List.mem_cons_of_mem _ hx)⟩
theorem may_iff {o:Cop}:may o=0↔May o:=by
 unfold may;constructor
 ·intro h;split at h
  ·simp at h
  rename_i h1
  split at h
  ·rename_i h2;exact absurd h h2
  rename_i h2
  split at h
  ·simp at h
  rename_i h3
  refine⟨by simpa using h1,(firstE_ok _).1 (Classical.not_not.1 h2),fun x hx=>?_⟩;simp only[List.any_eq_true,not_exists,not_and,Bool.not_eq_true,Bool.or_eq_false_iff,decide_eq_false_iff_not] at h3;exact h3 x hx
 ·rintro⟨h1,h2,h3⟩;rw[if_neg (by simp[h1]),if_neg (by simp[(firstE_ok _).2 h2]),if_neg];simp only[List.any_eq_true,not_exists,not_and,Bool.not_eq_true,Bool.or_eq_false_iff,decide_eq_false_iff_not];exact h3
theorem refuse_ok:∀l:List Cop,refuse l=0↔∀o∈l,may o=0
|[]=>by simp[refuse]
|o::l=>by
  rw[refuse];split
  ·rename_i h
   exact⟨fun e=>absurd e h,fun e=>absurd (e o List.mem_cons_self) h⟩
  ·rename_i h
   rw[refuse_ok l];exact⟨fun e x hx=>(List.mem_cons.1 hx).elim (fun g=>by rw[g];exact Classical.not_not.1 h) (fun g=>e x g),fun e x hx=>e x (List.mem_cons_of_mem _ hx)⟩
theorem cop_eta {o:Cop}{n:List UInt8}{a:List Ob}{d:List UInt8}(h1:o.name=n)(h2:o.args=a)(h3:o.data=d):(⟨n,a,d⟩:Cop)=o:=by subst h1;subst h2;subst h3;rfl
theorem op_back {o:Cop}(h:may o=0)(pre rest:List UInt8){l:List Cop}(hl:l.length < 8191){M:Nat}(hM:((pre++(one o++rest)).length:Int)+1≤pre.length+M) :
  ∃M':Nat,((pre++(one o++rest)).length:Int)+1≤((pre++one o).length:Nat)+M'∧readG (pre++(one o++rest)) M pre.length l []=readG (pre++(one o++rest)) M' ((pre++one o).length:Nat) (l++[o]) []:=by
 obtain⟨hf,hc,hk⟩:=may_iff.1 h;by_cases hb:o.name=biW
 ·unfold form at hf;rw[if_pos hb] at hf
  match ha:o.args,hf with
 |[],hf=>simp at hf
 |_::_::_,hf=>simp at hf
 |[d],hf=>
   rw[ha] at hc hk;simp only[Bool.and_eq_true,decide_eq_true_eq] at hf;have hd:=hc d List.mem_cons_self;obtain⟨hrf,-⟩:=hk d List.mem_cons_self;obtain⟨⟨-,a2,-,-,-,a6,a7⟩,hck⟩:=Vl.check_iff.1 hd;obtain⟨u1,u2,u3,-,-⟩:=Ps.uses_of a2 (show Vl.used d.k=_ by rw[hf.1];rfl);have eo:Ob.mk 7 0 0 [] d.keys d.kids=d:=Ps.mk_eq hf.1 (u1 rfl) (u2 rfl) (u3 rfl) rfl rfl;have hr:Vl.rising d=true:=by simpa[Vl.form,hf.1] using a7
   obtain⟨r1,r2,r3,r4⟩:=Vl.rising_iff.1 hr;have hkid:∀x∈d.kids,Vl.check 1 x=0∧x.k≠0∧x.k≠9∧refers x=false∧depth x < 24:=by
    intro x hx;have c2:=hck x hx;have:=check_depth x.wt x 2 (Nat.le_refl _) c2;exact⟨check_mono x.wt x 1 (Nat.le_refl _) c2,r4 x hx,fun e=>by have:=(Vl.check_iff.1 c2).1.2.2.1 e;omega,refers_kids hrf x hx,by omega⟩
   have hj:=join_pairs (ks:=d.keys) (os:=d.kids) (fun x hx=>⟨(hkid x hx).1,(hkid x hx).2.2.1⟩) (fun k hk=>(r3 k hk).1);obtain⟨J,hJ⟩:∃J,J=joinR 32 (biW::(Wr.partsD d.keys d.kids++[idW])):=⟨_,rfl⟩;have h1:one o=J++10::(o.data++10::69::73::[10]):=by
    unfold one parts;rw[if_pos hb,if_pos hb,ha];simp only;rw[hj,←hJ];simp[eiW]
   obtain⟨S,hS⟩:∃S,S=pre++(one o++rest):=⟨_,rfl⟩;rw[←hS] at hM ⊢;have hS1:S=pre++(J++10::(o.data++10::69::73::10::rest)):=by rw[hS,h1];simp
   have hS2:S=(pre++J)++10::(o.data++10::69::73::10::rest):=by rw[hS1];simp
   have hS3:S=(pre++(J++10::(o.data++10::69::[73])))++10::rest:=by rw[hS1];simp
   have hsing:∀q∈biW::(Wr.partsD d.keys d.kids++[idW]),∃x,Single q x:=by
    intro q hq;rcases List.mem_cons.1 hq with rfl|g
    ·exact⟨_,tk_bi⟩
    rcases List.mem_append.1 g with g|g
    ·exact Wr.parts_single d 1 hd q (by rw[Wr.parts_eq,if_neg (by omega),if_neg (by omega),if_pos hf.1];simp[g])
    ·rw[List.mem_singleton] at g;subst g;exact⟨_,tk_id⟩
   have ht:=toks_line (by simp) hsing pre (o.data++10::69::73::10::rest);rw[←hJ,←hS1] at ht;obtain⟨c,g1,g2⟩:=ht;obtain⟨a',e⟩:=g1.next tk_bi
   have bd:=g1.bd;have hlk:=Ps.partsD_pos d.keys d.kids r1;have bd2:=Ps.toks_bd (by simp) g2;simp only[List.length_append,List.length_singleton] at bd2;have hkb:=keys_back (S:=S) d.keys d.kids [] [] (S.length+1) c _ r1 rfl (fun k hk=>(r3 k hk).1) (by simpa using r2) hkid (by simp;omega) (by omega) g2;rw[List.nil_append,List.nil_append,eo,show (pre.length:Int)+J.length=((pre++J).length:Nat) by simp] at hkb;have him:=image_back hS2 hkb hf.2;cases M with
  |zero=>omega
  |succ M=>
    have hlS:S.length=pre.length+J.length+1+o.data.length+4+rest.length:=by rw[hS1];simp only[List.length_append,List.length_cons];omega
    have hl1:(one o).length=J.length+1+o.data.length+4:=by rw[h1];simp only[List.length_append,List.length_cons,List.length_nil];omega
    refine⟨M,by rw[List.length_append,hl1];omega,?_⟩;have eop:operator S ⟨5,a',c,0,biW⟩ l.length []=(o,(((pre++J).length:Nat):Int)+1+o.data.length+3,ok):=by
     unfold operator;rw[if_neg (by omega),if_pos rfl,if_neg (by simp),him,cop_eta hb ha rfl]
    rw[readG,e];simp only;rw[if_neg (by simp),if_neg (by simp),if_pos ⟨trivial,by decide⟩,eop,if_neg (by simp[ok])];simp only;have:=readG_line hS3 M (l++[o]) [];obtain⟨Q,hQ⟩:∃Q:List UInt8,Q=pre++(J++10::(o.data++10::69::[73])):=⟨_,rfl⟩;rw[←hQ] at this;have q1:(Q.length:Int)=(((pre++J).length:Nat):Int)+1+o.data.length+3:=by rw[hQ];simp only[List.length_append,List.length_cons,List.length_nil];omega
    have q2:(Q++[(10:UInt8)]).length=(pre++one o).length:=by rw[hQ,h1];simp only[List.length_append,List.length_cons,List.length_nil];omega
    rw[q1,q2] at this;exact this
 ·unfold form at hf;rw[if_neg hb] at hf;simp only[Bool.and_eq_true,decide_eq_true_eq] at hf;have hn:=named_tok hf.1.1;have hj:=join_args (args:=o.args) (name:=o.name) (fun x hx=>⟨hc x hx,(hk x hx).2⟩) (Ps.single_ne hn.tok);obtain⟨J,hJ⟩:∃J,J=joinR 32 (o.args.flatMap Wr.parts++[o.name]):=⟨_,rfl⟩;have h1:one o=J++[10]:=by
   unfold one parts;rw[if_neg hb,if_neg hb,hj,←hJ,List.append_nil]
  obtain⟨S,hS⟩:∃S,S=pre++(one o++rest):=⟨_,rfl⟩;rw[←hS] at hM ⊢;have hS1:S=pre++(J++10::rest):=by rw[hS,h1];simp
  have hS2:S=(pre++J)++10::rest:=by rw[hS1];simp
  have hsing:∀q∈o.args.flatMap Wr.parts++[o.name],∃x,Single q x:=by
   intro q hq;rcases List.mem_append.1 hq with g|g
   ·obtain⟨x,hx,g⟩:=List.mem_flatMap.1 g;exact Wr.parts_single x 1 (hc x hx) q g
   ·rw[List.mem_singleton] at g;subst g;exact⟨_,hn.tok⟩
  have ht:=toks_line (by simp) hsing pre rest;rw[←hJ,←hS1] at ht;obtain⟨M',m1,m2⟩:=args_back (S:=S) hn hl o.args [] M pre.length _ (fun x hx=>⟨hc x hx,(hk x hx).2,(hk x hx).1⟩) (by simpa using hf.1.2) ht hM;have hl1:(one o).length=J.length+1:=by rw[h1];simp
  refine⟨M',by rw[List.length_append,hl1];omega,?_⟩;rw[m2,List.nil_append,cop_eta rfl rfl hf.2];have:=readG_line hS2 M' (l++[o]) [];rw[show ((pre++J).length:Int)=(pre.length:Int)+J.length by simp,show (pre++J++[(10:UInt8)]).length=(pre++one o).length by rw[h1,List.append_assoc]] at this;exact this
theorem readG_back:∀(l acc:List Cop) (pre:List UInt8) (M:Nat),refuse l=0→acc.length+l.length≤8191→((pre++l.flatMap one).length:Int)+1≤pre.length+M→readG (pre++l.flatMap one) M pre.length acc []=(acc++l,ok)
|[],acc,pre,M,_,_,hM=>by
  have e:pre++[].flatMap one=pre:=by simp
  rw[e] at hM ⊢;have hn:next pre pre.length=(⟨0,pre.length,pre.length,0,[]⟩,0):=by
   unfold Lx.next Lx.skip
   rw[if_neg (by omega),Int.toNat_natCast,List.drop_length,Lx.skipF,Nat.add_zero];unfold Lx.token;rw[List.drop_length]
  cases M with
 |zero=>omega
 |succ M=>
   rw[readG,hn,if_neg (by simp),if_pos rfl,if_neg (by simp),List.append_nil]
|o::l,acc,pre,M,h,hl,hM=>by
  have ho:may o=0:=(refuse_ok _).1 h o List.mem_cons_self;have hr:refuse l=0:=(refuse_ok _).2 fun x hx=>(refuse_ok _).1 h x (List.mem_cons_of_mem _ hx);rw[List.flatMap_cons] at hM ⊢;rw[List.length_cons] at hl;obtain⟨M',m1,m2⟩:=op_back ho pre (l.flatMap one) (l:=acc) (by omega) hM;rw[m2];have e:pre++(one o++l.flatMap one)=(pre++one o)++l.flatMap one:=by rw[List.append_assoc]
  rw[e] at m1 ⊢;rw[readG_back l (acc++[o]) (pre++one o) M' hr (by simp only[List.length_append,List.length_cons,List.length_nil];omega) m1,List.append_assoc];rfl
theorem read_back {l:List Cop}(h:(text l).2=0):read (text l).1=(l,ok):=by
 unfold text at h ⊢;split at h
 ·simp at h
 rename_i h1
 rw[if_neg h1];split at h
 ·rename_i h2;exact absurd h h2
 rename_i h2
 rw[if_neg h2];have:=readG_back l [] [] ((l.flatMap one).length+1) (Classical.not_not.1 h2) (by simp;omega) (by simp);simpa[read] using this
theorem text_err {l:List Cop}(h:(text l).2≠0):(text l).1=[]:=by
 unfold text at h ⊢;split at h
 ·rename_i h1;rw[if_pos h1]
 rename_i h1
 rw[if_neg h1];split at h
 ·rename_i h2;rw[if_pos h2]
 ·simp at h
end Cs
end
section
open Go
namespace Cs
open Lx (next Tok token skip run cut Single)
theorem read_err {s:List UInt8}(h:(read s).2.e≠0):(read s).1=[]:=readG_err _ h
theorem read_ok {s:List UInt8}(h:(read s).2.e=0):(read s).2=ok:=readG_fault0 _ h
end Cs
end
section
open Go
namespace Lx
theorem nameF_len (n:Nat):∀(l x:List UInt8),l.length≤n→nameF l=some x→x.length≤l.length:=by
 induction n with
|zero=>
  intro l x hl h;cases l with
 |nil=>simp[nameF] at h;subst h;simp
 |cons _ _=>simp at hl
|succ n ih=>
  intro l x hl h;cases l with
 |nil=>simp[nameF] at h;subst h;simp
 |cons c t=>
   by_cases hc:c=35
   ·subst hc
    match t,hl,h with
   |[],_,h=>simp[nameF] at h
   |[a],_,h=>simp[nameF] at h
   |a::b::t,hl,h=>
     simp only[nameF,if_true] at h;split at h
     ·cases h
     ·obtain⟨y,hy,rfl⟩:=map_some h;have:=ih t y (by simp at hl;omega) hy;simp only[List.length_cons];omega
   ·rw[nameF_ne hc] at h;obtain⟨y,hy,rfl⟩:=map_some h;have:=ih t y (by simpa using hl) hy;simp only[List.length_cons];omega
theorem hexF_len:∀(l:List UInt8) (h:Int) (r:List UInt8×Nat),hexF h l=.inl r→r.1.length≤r.2
|[],_,r,h=>by rw[hexF] at h;cases h
|c::t,h,r,he=>by
  rw[hexF] at he;split at he
  ·cases he;simp only;split<;>simp
  ·split at he
   ·cases hh:hexF h t with
   |inr e=>rw[hh] at he;cases he
   |inl q=>rw[hh] at he;cases he;have:=hexF_len t _ q hh;simp only;omega
   ·split at he
    ·cases he
    ·split at he
     ·cases hh:hexF (digit c) t with
     |inr e=>rw[hh] at he;cases he
     |inl q=>rw[hh] at he;cases he;have:=hexF_len t _ q hh;simp only;omega
     ·cases hh:hexF (-1) t with
     |inr e=>rw[hh] at he;cases he
     |inl q=>rw[hh] at he;cases he;have:=hexF_len t _ q hh;simp only[List.length_cons];omega
theorem escF_one (l:List UInt8):(escF l).1.length≤1:=by
 cases l with
|nil=>simp[escF]
|cons c t=>
  simp only[escF];split
  ·simp
  ·split
   ·simp
   ·split<;>simp
theorem textG_len:∀(l:List UInt8) (k o:Nat) (r:List UInt8×Nat),textG k o l=some r→r.1.length+1≤r.2
|[],k,o,r,h=>by
  cases k<;>(rw[textG] at h;cases h)
|c::t,k+1,o,r,h=>by
  rw[textG] at h;cases hh:textG k o t with
 |none=>rw[hh] at h;cases h
 |some q=>rw[hh] at h;cases h;have:=textG_len t k o q hh;simp only;omega
|c::t,0,o,r,h=>by
  rw[textG] at h;have step:∀(k o:Nat) (f:List UInt8→List UInt8),(∀x,(f x).length≤x.length+1)→(textG k o t).map (fun r=>(f r.1,r.2+1))=some r→r.1.length+1≤r.2:=by
   intro k o f hf h;cases hh:textG k o t with
  |none=>rw[hh] at h;cases h
  |some q=>rw[hh] at h;cases h;have:=textG_len t k o q hh;have:=hf q.1;simp only;omega
  have h1:=escF_one t;split at h
  ·exact step _ _ _ (fun x=>by simp) h
  ·split at h
   ·split at h
    ·cases h
    ·exact step _ _ (fun x=>(escF t).1++x) (fun x=>by rw[List.length_append];omega) h
   ·split at h
    ·exact step _ _ (fun x=>c::x) (fun x=>by simp) h
    ·split at h
     ·split at h
      ·cases h;simp
      ·exact step _ _ (fun x=>c::x) (fun x=>by simp) h
     ·exact step _ _ (fun x=>c::x) (fun x=>by simp) h
theorem cut_len (s:List UInt8)(i j:Nat):(cut s i j).length≤j - i:=by unfold cut;rw[List.length_take];omega
theorem token_len {s:List UInt8}{a:Nat}(h:(token s a).2=0):((token s a).1.s.length:Int)+(token s a).1.a≤(token s a).1.t:=by
 unfold token at h ⊢;split at h
 ·simp
 rename_i c t hd
 have hmk:∀n,((mark s a n).1.s.length:Int)+(mark s a n).1.a≤(mark s a n).1.t:=by
  intro n;have:=cut_len s a (a+n);simp only[mark];omega
 split at h
 ·rename_i h1;rw[if_pos h1];exact hmk 1
 rename_i h1;rw[if_neg h1]
 split at h
 ·rename_i h2;rw[if_pos h2]
  split at h
  ·rename_i h3;rw[if_pos h3];exact hmk 2
  ·rename_i h3;rw[if_neg h3]
   unfold hex at h ⊢;cases hx:hexF (-1) (s.drop (a+1)) with
  |inr e=>simp[refused,none_]
  |inl y=>
    rw[hx] at h;have:=hexF_len _ _ _ hx;simp only at h ⊢;rw[told_ok h];simp only;omega
 rename_i h2;rw[if_neg h2]
 split at h
 ·rename_i h3;rw[if_pos h3]
  split at h
  ·rename_i h4;rw[if_pos h4];exact hmk 2
  ·simp[refused] at h
 rename_i h3;rw[if_neg h3]
 split at h
 ·rename_i h4;rw[if_pos h4]
  unfold name at h ⊢;cases hx:nameF (cut s (a+1) (run s (a+1))) with
 |none=>simp[refused,none_]
 |some y=>
   rw[hx] at h;have:=nameF_len _ _ _ (Nat.le_refl _) hx;have:=cut_len s (a+1) (run s (a+1));have:a+1≤run s (a+1):=by unfold run;omega
   simp only at h ⊢;rw[told_ok h];simp only;omega
 rename_i h4;rw[if_neg h4]
 split at h
 ·rename_i h5;rw[if_pos h5]
  unfold text at h ⊢;cases hx:textG 0 1 (s.drop (a+1)) with
 |none=>simp[refused,none_]
 |some y=>
   rw[hx] at h;have:=textG_len _ _ _ _ hx;simp only at h ⊢;rw[told_ok h];simp only;omega
 rename_i h5;rw[if_neg h5]
 split at h
 ·simp[refused] at h
 rename_i h6;rw[if_neg h6]
 have h7:a≤run s a:=by unfold run;omega
 have h8:=cut_len s a (run s a);unfold word wordT at h ⊢;split at h
 ·rename_i g;rw[if_pos g]
  split at h
  ·rename_i g2;simp[refused] at h;exact absurd h g2
  ·rename_i g2;rw[if_neg g2];simp;omega
 rename_i g;rw[if_neg g]
 split at h
 ·rename_i g2;rw[if_pos g2];simp;omega
 rename_i g2;rw[if_neg g2]
 split at h
 ·simp[refused] at h
 rename_i g3;rw[if_neg g3,told_ok h]
 simp only;omega
theorem next_len {s:List UInt8}{i:Int}(h:(next s i).2=0):((next s i).1.s.length:Int)+(next s i).1.a≤(next s i).1.t:=by
 unfold next at h ⊢
 split at h
 ·simp[refused] at h
 rename_i h1
 rw[if_neg h1];exact token_len h
end Lx
namespace Ps
open Lx (next Tok)
theorem leaf_wt8 {s:List UInt8}{a:Int}(h0:(next s a).2=0)(hk:(next s a).1.k≠0):((leaf s (next s a).1).1.wt:Int)≤8*((leaf s (next s a).1).2.1 - a):=by
 have f:=Lx.next_len h0;have b:=Lx.next_bd h0 hk;have:=Lx.skip_ge s a.toNat;have c:=(leaf_bd h0 hk).2;have hw:(leaf s (next s a).1).1.wt≤6+(next s a).1.s.length:=by
  unfold leaf
  (repeat' split)<;>simp[Ob.wt,Ob.wts,Pl.tot,Vl.ob0]<;>omega
 have ht:(next s a).1.t≤(leaf s (next s a).1).2.1:=by
  unfold leaf;split
  ·cases hr:ref s (next s a).1 with
  |some p=>have:=(ref_bd hr).1;simp only;omega
  |none=>simp only;omega
  all_goals (repeat' split)<;>simp only<;>omega
 omega
def GoodW8 (sub:Int→R):Prop:=∀a,(sub a).2.2=0→((sub a).1.wt:Int)≤8*((sub a).2.1 - a)
theorem arr_wt8 {s:List UInt8}{ok:Bool}{sub:Int→R}(hg:GoodW8 sub)(hb:Good s sub)(a0:Int):∀(m:Nat) (a:Int) (acc:List Ob),(Ob.wts acc:Int)≤8*(a - a0)→(arr s ok sub m a acc).2.2=0→((arr s ok sub m a acc).1.wt:Int)≤6+8*((arr s ok sub m a acc).2.1 - a0)
|0,a,acc,_,h=>by simp[arr,bad] at h
|m+1,a,acc,hw,h=>by
  rw[arr] at h ⊢;split at h
  ·rename_i h1
   rw[if_pos h1];have b:=Lx.next_bd h1.1 (by rw[h1.2.1];decide);have:=Lx.skip_ge s a.toNat;simp[Ob.wt,Pl.tot];omega
  rename_i h1
  rw[if_neg h1];split at h
  ·simp[bad] at h
  rename_i h2
  rw[if_neg h2];split at h
  ·rename_i h3;exact absurd h h3
  rename_i h3
  rw[if_neg h3];split at h
  ·rename_i h4;exact absurd h h4
  rename_i h4
  rw[if_neg h4];have h4:=Classical.not_not.1 h4;have g:=hg a h4;exact arr_wt8 hg hb a0 m _ _ (by rw[Vl.wts_app,Ob.wts,Ob.wts];omega) h
theorem dict_wt8 {s:List UInt8}{sub:Int→R}(hg:GoodW8 sub)(hb:Good s sub)(a0:Int):∀(m:Nat) (a:Int) (o:Ob) (met:List (List UInt8)),(o.wt:Int)≤6+8*(a - a0)→(dict s sub m a o met).2.2=0→((dict s sub m a o met).1.wt:Int)≤6+8*((dict s sub m a o met).2.1 - a0)
|0,a,o,met,_,h=>by simp[dict,bad] at h
|m+1,a,o,met,hw,h=>by
  rw[dict] at h ⊢;split at h
  ·rename_i h1;exact absurd h h1
  rename_i h1
  rw[if_neg h1];have h1:=Classical.not_not.1 h1;split at h
  ·rename_i h2
   rw[if_pos h2];have b:=Lx.next_bd h1 (by rw[h2.1];decide);have:=Lx.skip_ge s a.toNat;simp only;omega
  rename_i h2
  rw[if_neg h2];split at h
  ·simp[bad] at h
  rename_i h3
  rw[if_neg h3];split at h
  ·simp[bad] at h
  rename_i h4
  rw[if_neg h4];split at h
  ·simp[bad] at h
  rename_i h5
  rw[if_neg h5];split at h
  ·simp[bad] at h
  rename_i h6
  rw[if_neg h6];split at h
  ·rename_i h7;exact absurd h h7
  rename_i h7
  rw[if_neg h7];have h7:=Classical.not_not.1 h7;have g:=hg _ h7;have b:=Lx.next_bd h1 h3;have:=Lx.skip_ge s a.toNat;have f:=Lx.next_len h1;have hj:=join_wt (o:=o) (key:=(next s a).1.s) (v:=(sub (next s a).1.t).1);exact dict_wt8 hg hb a0 m _ _ _ (by omega) h
theorem obj_wt8 (s:List UInt8):∀n,GoodW8 (obj s n):=by
 intro n
 induction n with
|zero=>
  intro a h;obtain⟨_,_,_,m,hm,_⟩:=obj_open h;omega
|succ n ih=>
  intro a h;obtain⟨h1,h2,h3,m,hm,he⟩:=obj_open h;have hm:n=m:=by omega
  subst hm;rw[he] at h ⊢;have b:=Lx.next_bd h1 h2;have:=Lx.skip_ge s a.toNat;split at h
  ·rename_i h4
   rw[if_pos h4];exact leaf_wt8 h1 h2
  rename_i h4
  rw[if_neg h4];split at h
  ·rename_i h5
   rw[if_pos h5];have:=arr_wt8 (ok:=decide (n≠0)) ih (obj_good s n) (next s a).1.t (s.length+1) (next s a).1.t [] (by simp[Ob.wts]) h;omega
  ·rename_i h5
   rw[if_neg h5];have:=dict_wt8 ih (obj_good s n) (next s a).1.t (s.length+1) (next s a).1.t dict0 [] (by simp[dict0,Ob.wt,Ob.wts,Pl.tot]) h;omega
theorem object_wt8 {s:List UInt8}{a:Int}(h:(object s a).2.2=0):((object s a).1.wt:Int)≤8*((object s a).2.1 - a):=by
 unfold object at h ⊢;split at h
 ·simp[bad] at h
 ·rename_i g
  rw[if_neg g];exact obj_wt8 s 24 a h
end Ps
def Cop.wt (o:Cop):Nat:=10+o.name.length+o.data.length+Ob.wts o.args
namespace Cs
open Lx (next Tok)
def wts:List Cop→Nat
|[]=>0
|o::l=>o.wt+wts l
theorem pairs_tot:∀(ks:List (List UInt8)) (os:List Ob),Pl.tot (pairs ks os)≤42*Ob.wts os+4*Pl.tot ks
|[],[]=>by simp[pairs,Pl.tot]
|[],_::_=>by simp[pairs,Pl.tot]
|_::_,[]=>by simp[pairs,Pl.tot]
|k::ks,o::os=>by
  have:=pairs_tot ks os;have h1:=Wr.name_len k;have h2:=Wr.text_len o;have h3:=o.wt_pos;rw[pairs,Ob.wts];simp only[Pl.tot,List.map_cons,List.sum_cons] at this ⊢;omega
theorem argsT_tot:∀os:List Ob,Pl.tot (os.map fun x=>(Wr.text x).1)≤41*Ob.wts os
|[]=>by simp[Pl.tot]
|o::os=>by
  have:=argsT_tot os;have h2:=Wr.text_len o;have h3:=o.wt_pos;rw[Ob.wts,List.map_cons];simp only[Pl.tot,List.map_cons,List.sum_cons] at this ⊢;omega
theorem parts_tot (o:Cop):Pl.tot (parts o)≤42*o.wt:=by
 unfold parts;split
 ·split
  ·rename_i d r hd
   have h1:=pairs_tot d.keys d.kids;have h2:Ob.wts d.kids+Pl.tot d.keys≤d.wt:=by cases d;rw[Ob.wt];show Ob.wts _+Pl.tot _≤_;simp only[Ob.kids,Ob.keys];omega
   rw[show biW::pairs d.keys d.kids++[idW]=[biW]++(pairs d.keys d.kids++[idW]) by simp,Pl.tot_append,Pl.tot_append,Cop.wt,hd,Ob.wts];simp only[Pl.tot,biW,idW,List.map_cons,List.map_nil,List.sum_cons,List.sum_nil,List.length_cons,List.length_nil] at h1 h2 ⊢;omega
  ·simp[Pl.tot,biW,idW,Cop.wt];omega
 ·have:=argsT_tot o.args;rw[Pl.tot_append,Cop.wt];simp only[Pl.tot,List.map_cons,List.map_nil,List.sum_cons,List.sum_nil] at this ⊢;omega
theorem one_len (o:Cop):(one o).length≤44*o.wt:=by
 have h1:=parts_tot o;have h2:=Pl.join_len (parts o);unfold one;have h3:o.data.length+10≤o.wt:=by unfold Cop.wt;omega
 split
 ·simp only[List.length_append,List.length_cons,List.length_nil,eiW];omega
 ·simp only[List.length_append,List.length_cons,List.length_nil];omega
theorem ones_len:∀l:List Cop,(l.flatMap one).length≤44*wts l
|[]=>by simp
|o::l=>by
  have:=ones_len l;have:=one_len o;rw[List.flatMap_cons,List.length_append,wts];omega
theorem text_len (l:List Cop):(text l).1.length≤44*wts l:=by
 unfold text;split
 ·simp
 split
 ·simp
 ·exact ones_len l
end Cs
end
section
open Eng Go.RowKit
def opC (o:Cop)(va:Value):List Value:=[.string ⟨o.name.toArray⟩,va,.string ⟨o.data.toArray⟩]
def opV (o:Cop)(va:Value):Value:=.agg (opC o va).toArray
def opE (b:Nat)(o:Cop)(va:Value):Ent:=.cells b (opC o va) 44
structure OpAt (A:Nat→Prop) (w:World) (o:Cop) (va:Value) (cs:List Value):Prop where
 args:SlA A w va 6 o.args.length cs
 all:OVs A w cs o.args
def opR (A:Nat→Prop)(w:World)(a:List Value)(o:Cop):Prop:=∃va cs,a=opC o va∧OpAt A w o va cs
abbrev PVs (A:Nat→Prop)(w:World)(cs:List Value)(l:List Cop):Prop:=Rws (opR A w) cs l
def OpsV (A:Nat→Prop)(w:World)(v:Value)(l:List Cop):Prop:=∃cs,SlA A w v 3 l.length cs∧PVs A w cs l
theorem opR_len {A:Nat→Prop}{w:World}:∀a o,opR A w a o→a.length=3:=by
 rintro a o ⟨va,cs,rfl,_⟩;rfl
theorem OpAt.one {A:Nat→Prop}{w:World}{o:Cop}{va:Value}{cs:List Value}(h:OpAt A w o va cs):va.oneCell'=true:=h.args.one
theorem opC_one (o:Cop){va:Value}(ha:va.oneCell'=true):∀v∈opC o va,v.oneCell'=true:=by
 intro v hv;simp only[opC,List.mem_cons,List.not_mem_nil,or_false] at hv;rcases hv with rfl|rfl|rfl<;>first|rfl|assumption
theorem OpAt.le {M N:Mem}(h:M.le N){o:Cop}{va:Value}{cs:List Value}(ho:OpAt M.A M.w o va cs):OpAt N.A N.w o va cs:=⟨ho.args.le h,ho.all.le h⟩
theorem opR.le {M N:Mem}(h:M.le N){a:List Value}{o:Cop}(hi:opR M.A M.w a o):opR N.A N.w a o:=by
 obtain⟨va,cs,rfl,ho⟩:=hi;exact⟨va,cs,rfl,ho.le h⟩
theorem PVs.le {M N:Mem}(h:M.le N){cs:List Value}{l:List Cop}(hl:PVs M.A M.w cs l):PVs N.A N.w cs l:=Rws.mono (fun _ _=>opR.le h) hl
theorem OpsV.le {M N:Mem}(h:M.le N){v:Value}{l:List Cop}(hl:OpsV M.A M.w v l):OpsV N.A N.w v l:=by
 obtain⟨cs,h1,h2⟩:=hl;exact⟨cs,h1.le h,PVs.le h h2⟩
theorem OpsV.nil (A:Nat→Prop)(w:World):OpsV A w nilS []:=⟨[],SlA.nil _ _ _ _,.nil⟩
theorem aggOp:aggN prog 44=some 3:=by kernel_rfl
theorem szOp:(Tryz.prog.info? 44).map (·.size)=some 3:=by kernel_rfl
theorem nSlOp:notAgg prog 23=true:=by kernel_rfl
theorem fo_p0:fOff prog 44 0=some 0:=by kernel_rfl
theorem fo_p1:fOff prog 44 1=some 1:=by kernel_rfl
theorem fo_p2:fOff prog 44 2=some 2:=by kernel_rfl
section
variable {w:World}{PK:PKT}{K:VWP}{S:Nat→Prop}{w0:World}{L:List Ent}
theorem fa_p0 {b off:Nat}:DoX prog (mFA 44 (.pointer (some ⟨b,off,none⟩)) 0) w PK K=K (.pointer (some ⟨b,off,none⟩)) w:=f_addr fo_p0
theorem fa_p1 {b off:Nat}:DoX prog (mFA 44 (.pointer (some ⟨b,off,none⟩)) 1) w PK K=K (.pointer (some ⟨b,off+1,none⟩)) w:=f_addr fo_p1
theorem fa_p2 {b off:Nat}:DoX prog (mFA 44 (.pointer (some ⟨b,off,none⟩)) 2) w PK K=K (.pointer (some ⟨b,off+2,none⟩)) w:=f_addr fo_p2
theorem o_opb (o:Cop){va:Value}(ha:va.oneCell'=true)(ho:OwnS S w0 w L)(k:∀b w',OwnS S w0 w' (opE b o va::L)→K (.pointer (some ⟨b,0,none⟩)) w'):DoX prog (mBox 44 (opV o va)) w PK K:=by
 cases va<;>first|(cases ha;done)|exact o_new (fun b=>.pointer (some ⟨b,0,none⟩)) (opC o _) 44 (fun _=>by kernel_rfl) ho k
theorem o_opa (ho:OwnS S w0 w L)(k:∀b w',OwnS S w0 w' (opE b Cs.op0 nilS::L)→K (.pointer (some ⟨b,0,none⟩)) w'):DoX prog (mAlloc 44) w PK K:=
 o_new (fun b=>.pointer (some ⟨b,0,none⟩)) (opC Cs.op0 nilS) 44 (fun _=>by kernel_rfl) ho k
theorem op_put (j:Nat){b:Nat}{o o':Cop}{va va':Value}(ha:va'.oneCell'=true)(ho:OwnS S w0 w L)(hi:L[j]?=some (opE b o va))(k:∀w',OwnS S w0 w' (L.set j (opE b o' va'))→K undef w') :
  DoX prog (mStore 44 (.pointer (some ⟨b,0,none⟩)) (opV o' va')) w PK K:=o_put j ho hi (new:=opC o' va') szOp (opC_one o' ha) rfl k
theorem op_n (ho:OwnS S w0 w L)(j:Nat){b:Nat}{o:Cop}{va:Value}(hi:L[j]?=some (opE b o va)):DoX prog (mLoad 9 (.pointer (some ⟨b,0,none⟩))) w PK K=K (.string ⟨o.name.toArray⟩) w:=l_cell nStr5 (ho.cell j hi 0 rfl)
theorem op_a (ho:OwnS S w0 w L)(j:Nat){b:Nat}{o:Cop}{va:Value}(hi:L[j]?=some (opE b o va)):DoX prog (mLoad 40 (.pointer (some ⟨b,0+1,none⟩))) w PK K=K va w:=l_cell nSlOb (ho.cell j hi 1 rfl)
theorem op_d (ho:OwnS S w0 w L)(j:Nat){b:Nat}{o:Cop}{va:Value}(hi:L[j]?=some (opE b o va)):DoX prog (mLoad 9 (.pointer (some ⟨b,0+2,none⟩))) w PK K=K (.string ⟨o.data.toArray⟩) w:=l_cell nStr5 (ho.cell j hi 2 rfl)
theorem op_v (ho:OwnS S w0 w L)(j:Nat){b:Nat}{o:Cop}{va:Value}(hi:L[j]?=some (opE b o va)):DoX prog (mLoad 44 (.pointer (some ⟨b,0,none⟩))) w PK K=K (opV o va) w:=l_at (ho.agg j hi aggOp)
end
theorem op_at {M:Mem}{vl:Value}{l:List Cop}{cs:List Value}(hs:SlA M.A M.w vl 3 l.length cs)(hall:PVs M.A M.w cs l){i:Nat}(hi:i < l.length) :
  ∃(va:Value) (acs:List Value) (b off:Nat),OpAt M.A M.w l[i] va acs∧∀W,M.has W→(mIA 23 vl (.int .i64 (i:Int))).run prog W=.ok (.value (.pointer (some ⟨b,off,none⟩))) W∧∀j u,(opC l[i] va)[j]?=some u→W.cell? ⟨b,off+j,none⟩=some u:=by
 obtain⟨b,off,cap,rfl,_⟩:=sl_open hs.1 (by omega);obtain⟨a,⟨va,acs,rfl,ho⟩,hget⟩:=Rws.get opR_len i hi hall;refine⟨va,acs,b,off+i*3,ho,fun W hW=>⟨?_,fun j u hj=>?_⟩⟩
 ·have:=run_ia (P:=prog) (T:=23) (b:=b) (off:=off) (cap:=cap) (n:=l.length) (k:=.i64) (i:=(i:Int)) (w:=W) Tryz.underlying23 szOp (by omega) (by omega);rw[Int.toNat_natCast] at this;exact this
 ·have:=Sl.cellAt (hs.now hW) (i*3+j) u (hget j u hj)
  rwa [←Nat.add_assoc] at this
theorem run_op {W:World}{b off:Nat}{o:Cop}{va:Value}(h:∀j u,(opC o va)[j]?=some u→W.cell? ⟨b,off+j,none⟩=some u):(mLoad 44 (.pointer (some ⟨b,off,none⟩))).run prog W=.ok (.value (opV o va)) W:=
 run_load_at (AtV.agg aggOp (cs:=opC o va) rfl h)
end
section
open Eng
def S_ops_fail (t0 t1:Value)(w:World)(K:Ending→World→Prop):Prop:=
 DoX prog (mBuild 26 #[(0,t0),(1,t1)]) w (pk K) fun t6 w=>
 DoX prog (mIface 26 t6) w (pk K) fun t7 w=>
 DoX prog (mPanic t7) w (pk K) fun _ w=>
 K (.returned (.tuple #[])) w
theorem S_ops_fail_eq (t0 t1:Value)(w:World)(K:Ending→World→Prop):wpX prog 8 [] [] none (bodyOf Tryz.f63) (topQ prog [] K) (startX [t0,t1]) [] w=S_ops_fail t0 t1 w K:=by kernel_rfl
theorem S_ops_fail_ok {t0 t1:Value}{w:World}{K:Ending→World→Prop}(h:S_ops_fail t0 t1 w K):Calls prog 63 #[t0,t1] w K:=
 calls_of_wpX Tryz.func63 rfl rfl rfl rfl (Eq.mpr (S_ops_fail_eq t0 t1 w K) h)
def S_ops_must (t0 t1 t2:Value)(w:World)(K:Ending→World→Prop):Prop:=
 DoX prog (mUn .not t0) w (pk K) fun t7 w=>
 IfX t7 (CallX prog 63 #[t1,t2] w (pk K) fun t10 w=>
 K (.returned (.tuple #[])) w) (K (.returned (.tuple #[])) w)
theorem S_ops_must_eq (t0 t1 t2:Value)(w:World)(K:Ending→World→Prop):wpX prog 11 [] [] none (bodyOf Tryz.f37) (topQ prog [] K) (startX [t0,t1,t2]) [] w=S_ops_must t0 t1 t2 w K:=by kernel_rfl
theorem S_ops_must_ok {t0 t1 t2:Value}{w:World}{K:Ending→World→Prop}(h:S_ops_must t0 t1 t2 w K):Calls prog 37 #[t0,t1,t2] w K:=
 calls_of_wpX Tryz.func37 rfl rfl rfl rfl (Eq.mpr (S_ops_must_eq t0 t1 t2 w K) h)
def S_ops_constant (t0:Value)(w:World)(K:Ending→World→Prop):Prop:=
 DoX prog (mEq .eql 9 (.tmp 3) (.const (.string ⟨#[116,114,117,101]⟩)) t0 (.string ⟨#[116,114,117,101]⟩)) w (pk K) fun t4 w=>
 GDo t4 false (fun E=>E t0 w) w fun t6 w=>
 GDo t4 false (fun E=>DoX prog (mEq .eql 9 (.tmp 6) (.const (.string ⟨#[102,97,108,115,101]⟩)) t6 (.string ⟨#[102,97,108,115,101]⟩)) w (pk K) E) w fun t7 w=>
 DoX prog (mPick t4 (.bool true) t7) w (pk K) fun t8 w=>
 GDo t8 false (fun E=>E t0 w) w fun t10 w=>
 GDo t8 false (fun E=>DoX prog (mEq .eql 9 (.tmp 10) (.const (.string ⟨#[110,117,108,108]⟩)) t10 (.string ⟨#[110,117,108,108]⟩)) w (pk K) E) w fun t11 w=>
 DoX prog (mPick t8 (.bool true) t11) w (pk K) fun t12 w=>
 K (.returned t12) w
theorem S_ops_constant_eq (t0:Value)(w:World)(K:Ending→World→Prop):wpX prog 13 [] [] none (bodyOf Tryz.f38) (topQ prog [.tmp 2] K) (startX [t0]) [] w=S_ops_constant t0 w K:=by kernel_rfl
theorem S_ops_constant_ok {t0:Value}{w:World}{K:Ending→World→Prop}(h:S_ops_constant t0 w K):Calls prog 38 #[t0] w K:=
 calls_of_wpX Tryz.func38 rfl rfl rfl rfl (Eq.mpr (S_ops_constant_eq t0 w K) h)
def S_ops_refers (t0:Value)(w:World)(K:Ending→World→Prop):Prop:=
 DoX prog (mBox 42 t0) w (pk K) fun t1 w=>
 DoX prog (mFA 42 t1 0) w (pk K) fun t3 w=>
 DoX prog (mLoad 3 t3) w (pk K) fun t4 w=>
 DoX prog (mEq .eql 3 (.tmp 4) (.const (.int .i64 8)) t4 (.int .i64 8)) w (pk K) fun t5 w=>
 GDo t5 false (fun E=>DoX prog (mFA 42 t1 5) w (pk K) E) w fun t7 w=>
 GDo t5 false (fun E=>DoX prog (mLoad 40 t7) w (pk K) E) w fun t8 w=>
 GDo t5 false (fun E=>CallX prog 88 #[t8,(.func (.func 51) #[] #[])] w (pk K) E) w fun t9 w=>
 DoX prog (mPick t5 (.bool true) t9) w (pk K) fun t10 w=>
 K (.returned t10) w
theorem S_ops_refers_eq (t0:Value)(w:World)(K:Ending→World→Prop):wpX prog 11 [] [] none (bodyOf Tryz.f51) (topQ prog [.tmp 2] K) (startX [t0]) [] w=S_ops_refers t0 w K:=by kernel_rfl
theorem S_ops_refers_ok {t0:Value}{w:World}{K:Ending→World→Prop}(h:S_ops_refers t0 w K):Calls prog 51 #[t0] w K:=
 calls_of_wpX Tryz.func51 rfl rfl rfl rfl (Eq.mpr (S_ops_refers_eq t0 w K) h)
def S_ops_ends (t0 t1:Value)(w:World)(K:Ending→World→Prop):Prop:=
 DoX prog (mIx 9 t0 t1) w (pk K) fun t7 w=>
 CallX prog 90 #[t7] w (pk K) fun t8 w=>
 DoX prog (mUn .not t8) w (pk K) fun t9 w=>
 GDo t9 false (fun E=>E t0 w) w fun t11 w=>
 GDo t9 false (fun E=>E t1 w) w fun t12 w=>
 GDo t9 false (fun E=>DoX prog (mBin .add 3 t12 (.int .i64 1)) w (pk K) E) w fun t13 w=>
 GDo t9 false (fun E=>CallX prog 100 #[t11,(.string ⟨#[69,73]⟩),t13] w (pk K) E) w fun t14 w=>
 GDo t9 false (fun E=>DoX prog (mUn .not t14) w (pk K) E) w fun t15 w=>
 DoX prog (mPick t9 (.bool true) t15) w (pk K) fun t16 w=>
 IfX t16 (K (.returned (.bool false)) w) (DoX prog (mBin .add 3 t1 (.int .i64 3)) w (pk K) fun t18 w=>
 DoX prog (mB .len #[9] 3 #[false] #[t0]) w (pk K) fun t20 w=>
 DoX prog (mEq .eql 3 (.tmp 18) (.tmp 20) t18 t20) w (pk K) fun t21 w=>
 GDo t21 false (fun E=>E t0 w) w fun t23 w=>
 GDo t21 false (fun E=>E t1 w) w fun t24 w=>
 GDo t21 false (fun E=>DoX prog (mBin .add 3 t24 (.int .i64 3)) w (pk K) E) w fun t25 w=>
 GDo t21 false (fun E=>DoX prog (mIx 9 t23 t25) w (pk K) E) w fun t26 w=>
 GDo t21 false (fun E=>CallX prog 90 #[t26] w (pk K) E) w fun t27 w=>
 DoX prog (mPick t21 (.bool true) t27) w (pk K) fun t28 w=>
 K (.returned t28) w)
theorem S_ops_ends_eq (t0 t1:Value)(w:World)(K:Ending→World→Prop):wpX prog 29 [] [] none (bodyOf Tryz.f109) (topQ prog [.tmp 4] K) (startX [t0,t1]) [] w=S_ops_ends t0 t1 w K:=by kernel_rfl
theorem S_ops_ends_ok {t0 t1:Value}{w:World}{K:Ending→World→Prop}(h:S_ops_ends t0 t1 w K):Calls prog 109 #[t0,t1] w K:=
 calls_of_wpX Tryz.func109 rfl rfl rfl rfl (Eq.mpr (S_ops_ends_eq t0 t1 w K) h)
def S_ops_named (t0:Value)(w:World)(K:Ending→World→Prop):Prop:=
 CallX prog 61 #[t0,(.int .i64 0)] w (pk K) fun t7 w=>
 DoX prog (mExt t7 0) w (pk K) fun t8 w=>
 DoX prog (mExt t7 1) w (pk K) fun t9 w=>
 DoX prog (mAlloc 53) w (pk K) fun t3 w=>
 DoX prog (mStore 53 t3 t8) w (pk K) fun _ w=>
 DoX prog (mEq .neq 24 (.tmp 10) (.const (.int .i64 0)) t9 (.int .i64 0)) w (pk K) fun t11 w=>
 GDo t11 false (fun E=>DoX prog (mFA 53 t3 0) w (pk K) E) w fun t13 w=>
 GDo t11 false (fun E=>DoX prog (mLoad 3 t13) w (pk K) E) w fun t14 w=>
 GDo t11 false (fun E=>DoX prog (mEq .neq 3 (.tmp 14) (.const (.int .i64 5)) t14 (.int .i64 5)) w (pk K) E) w fun t15 w=>
 DoX prog (mPick t11 (.bool true) t15) w (pk K) fun t16 w=>
 GDo t16 false (fun E=>DoX prog (mFA 53 t3 1) w (pk K) E) w fun t18 w=>
 GDo t16 false (fun E=>DoX prog (mLoad 3 t18) w (pk K) E) w fun t19 w=>
 GDo t16 false (fun E=>DoX prog (mEq .neq 3 (.tmp 19) (.const (.int .i64 0)) t19 (.int .i64 0)) w (pk K) E) w fun t20 w=>
 DoX prog (mPick t16 (.bool true) t20) w (pk K) fun t21 w=>
 GDo t21 false (fun E=>DoX prog (mFA 53 t3 2) w (pk K) E) w fun t23 w=>
 GDo t21 false (fun E=>DoX prog (mLoad 3 t23) w (pk K) E) w fun t24 w=>
 GDo t21 false (fun E=>E t0 w) w fun t25 w=>
 GDo t21 false (fun E=>DoX prog (mB .len #[9] 3 #[false] #[t25]) w (pk K) E) w fun t26 w=>
 GDo t21 false (fun E=>DoX prog (mEq .neq 3 (.tmp 24) (.tmp 26) t24 t26) w (pk K) E) w fun t27 w=>
 DoX prog (mPick t21 (.bool true) t27) w (pk K) fun t28 w=>
 IfX t28 (K (.returned (.bool false)) w) (CallX prog 38 #[t0] w (pk K) fun t30 w=>
 DoX prog (mUn .not t30) w (pk K) fun t31 w=>
 GDo t31 true (fun E=>DoX prog (mBuildS 39 4 #[(0,(.string ⟨#[82]⟩)),(1,(.string ⟨#[66,73]⟩)),(2,(.string ⟨#[73,68]⟩)),(3,(.string ⟨#[69,73]⟩))]) w (pk K) E) w fun t33 w=>
 GDo t31 true (fun E=>E t0 w) w fun t34 w=>
 GDo t31 true (fun E=>CallX prog 32 #[t33,t34] w (pk K) E) w fun t35 w=>
 GDo t31 true (fun E=>DoX prog (mUn .not t35) w (pk K) E) w fun t36 w=>
 DoX prog (mPick t31 t36 (.bool false)) w (pk K) fun t37 w=>
 K (.returned t37) w)
theorem S_ops_named_eq (t0:Value)(w:World)(K:Ending→World→Prop):wpX prog 38 [] [] none (bodyOf Tryz.f84) (topQ prog [.tmp 2] K) (startX [t0]) [] w=S_ops_named t0 w K:=by kernel_rfl
theorem S_ops_named_ok {t0:Value}{w:World}{K:Ending→World→Prop}(h:S_ops_named t0 w K):Calls prog 84 #[t0] w K:=
 calls_of_wpX Tryz.func84 rfl rfl rfl rfl (Eq.mpr (S_ops_named_eq t0 w K) h)
def S_ops_shown_0 (t0 t5 t6:Value)(w:World)(N1:List Value→World→Prop)(K:Ending→World→Prop):Prop:=
 DoX prog (mBin .lss 3 t6 t5) w (pk K) fun t7 w=>
 IfX t7 (CallX prog 109 #[t0,t6] w (pk K) fun t11 w=>
 IfX t11 (K (.returned (.bool false)) w) (DoX prog (mBin .add 3 t6 (.int .i64 1)) w (pk K) fun t12 w=>
 N1 [t12] w)) (K (.returned (.bool true)) w)
def S_ops_shown (t0:Value)(w:World)(K:Ending→World→Prop):Prop:=
 DoX prog (mB .len #[9] 3 #[false] #[t0]) w (pk K) fun t5 w=>
 LoopX [(.int .i64 0)] w (fun vs1 w N1=>∀_:Sg,S_ops_shown_0 t0 t5 (vs1.getD 0 undef) w N1 K)
theorem S_ops_shown_eq (t0:Value)(w:World)(K:Ending→World→Prop):wpX prog 13 [] [(2,[6])] none (bodyOf Tryz.f83) (topQ prog [.tmp 2] K) (startX [t0]) [] w=S_ops_shown t0 w K:=by kernel_rfl
theorem S_ops_shown_ok {t0:Value}{w:World}{K:Ending→World→Prop}(h:S_ops_shown t0 w K):Calls prog 83 #[t0] w K:=
 calls_of_wpX Tryz.func83 rfl rfl rfl rfl (Eq.mpr (S_ops_shown_eq t0 w K) h)
def S_ops_form (t0:Value)(w:World)(K:Ending→World→Prop):Prop:=
 DoX prog (mBox 44 t0) w (pk K) fun t1 w=>
 DoX prog (mFA 44 t1 0) w (pk K) fun t3 w=>
 DoX prog (mLoad 9 t3) w (pk K) fun t4 w=>
 DoX prog (mEq .eql 9 (.tmp 4) (.const (.string ⟨#[66,73]⟩)) t4 (.string ⟨#[66,73]⟩)) w (pk K) fun t5 w=>
 IfX t5 (DoX prog (mFA 44 t1 1) w (pk K) fun t6 w=>
 DoX prog (mLoad 40 t6) w (pk K) fun t7 w=>
 DoX prog (mB .len #[40] 3 #[false] #[t7]) w (pk K) fun t8 w=>
 DoX prog (mEq .eql 3 (.tmp 8) (.const (.int .i64 1)) t8 (.int .i64 1)) w (pk K) fun t9 w=>
 GDo t9 true (fun E=>DoX prog (mFA 44 t1 1) w (pk K) E) w fun t11 w=>
 GDo t9 true (fun E=>DoX prog (mLoad 40 t11) w (pk K) E) w fun t12 w=>
 GDo t9 true (fun E=>DoX prog (mIA 40 t12 (.int .i64 0)) w (pk K) E) w fun t13 w=>
 GDo t9 true (fun E=>DoX prog (mFA 42 t13 0) w (pk K) E) w fun t14 w=>
 GDo t9 true (fun E=>DoX prog (mLoad 3 t14) w (pk K) E) w fun t15 w=>
 GDo t9 true (fun E=>DoX prog (mEq .eql 3 (.tmp 15) (.const (.int .i64 7)) t15 (.int .i64 7)) w (pk K) E) w fun t16 w=>
 DoX prog (mPick t9 t16 (.bool false)) w (pk K) fun t17 w=>
 GDo t17 true (fun E=>DoX prog (mFA 44 t1 2) w (pk K) E) w fun t19 w=>
 GDo t17 true (fun E=>DoX prog (mLoad 9 t19) w (pk K) E) w fun t20 w=>
 GDo t17 true (fun E=>CallX prog 83 #[t20] w (pk K) E) w fun t21 w=>
 DoX prog (mPick t17 t21 (.bool false)) w (pk K) fun t22 w=>
 K (.returned t22) w) (DoX prog (mFA 44 t1 0) w (pk K) fun t23 w=>
 DoX prog (mLoad 9 t23) w (pk K) fun t24 w=>
 CallX prog 84 #[t24] w (pk K) fun t25 w=>
 GDo t25 true (fun E=>DoX prog (mFA 44 t1 1) w (pk K) E) w fun t27 w=>
 GDo t25 true (fun E=>DoX prog (mLoad 40 t27) w (pk K) E) w fun t28 w=>
 GDo t25 true (fun E=>DoX prog (mB .len #[40] 3 #[false] #[t28]) w (pk K) E) w fun t29 w=>
 GDo t25 true (fun E=>DoX prog (mBin .leq 3 t29 (.int .i64 32)) w (pk K) E) w fun t30 w=>
 DoX prog (mPick t25 t30 (.bool false)) w (pk K) fun t31 w=>
 GDo t31 true (fun E=>DoX prog (mFA 44 t1 2) w (pk K) E) w fun t33 w=>
 GDo t31 true (fun E=>DoX prog (mLoad 9 t33) w (pk K) E) w fun t34 w=>
 GDo t31 true (fun E=>DoX prog (mEq .eql 9 (.tmp 34) (.const (.string ⟨#[]⟩)) t34 (.string ⟨#[]⟩)) w (pk K) E) w fun t35 w=>
 DoX prog (mPick t31 t35 (.bool false)) w (pk K) fun t36 w=>
 K (.returned t36) w)
theorem S_ops_form_eq (t0:Value)(w:World)(K:Ending→World→Prop):wpX prog 37 [] [] none (bodyOf Tryz.f49) (topQ prog [.tmp 2] K) (startX [t0]) [] w=S_ops_form t0 w K:=by kernel_rfl
theorem S_ops_form_ok {t0:Value}{w:World}{K:Ending→World→Prop}(h:S_ops_form t0 w K):Calls prog 49 #[t0] w K:=
 calls_of_wpX Tryz.func49 rfl rfl rfl rfl (Eq.mpr (S_ops_form_eq t0 w K) h)
def S_ops_may_1 (t25 t26 t27:Value)(w:World)(N2:List Value→World→Prop)(K:Ending→World→Prop):Prop:=
 DoX prog (mBin .lss 3 t27 t26) w (pk K) fun t28 w=>
 IfX t28 (DoX prog (mIA 40 t25 t27) w (pk K) fun t29 w=>
 DoX prog (mLoad 42 t29) w (pk K) fun t30 w=>
 DoX prog (mAlloc 42) w (pk K) fun t7 w=>
 DoX prog (mStore 42 t7 t30) w (pk K) fun _ w=>
 DoX prog (mLoad 42 t7) w (pk K) fun t31 w=>
 CallX prog 51 #[t31] w (pk K) fun t32 w=>
 GDo t32 false (fun E=>DoX prog (mFA 42 t7 0) w (pk K) E) w fun t34 w=>
 GDo t32 false (fun E=>DoX prog (mLoad 3 t34) w (pk K) E) w fun t35 w=>
 GDo t32 false (fun E=>DoX prog (mEq .eql 3 (.tmp 35) (.const (.int .i64 9)) t35 (.int .i64 9)) w (pk K) E) w fun t36 w=>
 DoX prog (mPick t32 (.bool true) t36) w (pk K) fun t37 w=>
 IfX t37 (K (.returned (.int .i64 10)) w) (DoX prog (mBin .add 3 t27 (.int .i64 1)) w (pk K) fun t38 w=>
 N2 [t38] w)) (K (.returned (.int .i64 0)) w)
def S_ops_may_0 (t1 t12 t13 t14:Value)(w:World)(N1:List Value→World→Prop)(K:Ending→World→Prop):Prop:=
 DoX prog (mBin .lss 3 t14 t13) w (pk K) fun t15 w=>
 IfX t15 (DoX prog (mIA 40 t12 t14) w (pk K) fun t16 w=>
 DoX prog (mLoad 42 t16) w (pk K) fun t17 w=>
 DoX prog (mAlloc 42) w (pk K) fun t4 w=>
 DoX prog (mStore 42 t4 t17) w (pk K) fun _ w=>
 DoX prog (mLoad 42 t4) w (pk K) fun t18 w=>
 CallX prog 50 #[t18] w (pk K) fun t19 w=>
 DoX prog (mEq .neq 24 (.tmp 20) (.const (.int .i64 0)) t19 (.int .i64 0)) w (pk K) fun t21 w=>
 IfX t21 (K (.returned t19) w) (DoX prog (mBin .add 3 t14 (.int .i64 1)) w (pk K) fun t23 w=>
 N1 [t23] w)) (DoX prog (mFA 44 t1 1) w (pk K) fun t24 w=>
 DoX prog (mLoad 40 t24) w (pk K) fun t25 w=>
 DoX prog (mB .len #[40] 3 #[false] #[t25]) w (pk K) fun t26 w=>
 LoopX [(.int .i64 0)] w (fun vs2 w N2=>∀_:Sg,S_ops_may_1 t25 t26 (vs2.getD 0 undef) w N2 K))
def S_ops_may (t0:Value)(w:World)(K:Ending→World→Prop):Prop:=
 DoX prog (mBox 44 t0) w (pk K) fun t1 w=>
 DoX prog (mLoad 44 t1) w (pk K) fun t8 w=>
 CallX prog 49 #[t8] w (pk K) fun t9 w=>
 DoX prog (mUn .not t9) w (pk K) fun t10 w=>
 IfX t10 (K (.returned (.int .i64 3)) w) (DoX prog (mFA 44 t1 1) w (pk K) fun t11 w=>
 DoX prog (mLoad 40 t11) w (pk K) fun t12 w=>
 DoX prog (mB .len #[40] 3 #[false] #[t12]) w (pk K) fun t13 w=>
 LoopX [(.int .i64 0)] w (fun vs1 w N1=>∀_:Sg,S_ops_may_0 t1 t12 t13 (vs1.getD 0 undef) w N1 K))
theorem S_ops_may_eq (t0:Value)(w:World)(K:Ending→World→Prop):wpX prog 39 [] [(4,[14]),(11,[27])] none (bodyOf Tryz.f26) (topQ prog [.tmp 2] K) (startX [t0]) [] w=S_ops_may t0 w K:=by kernel_rfl
theorem S_ops_may_ok {t0:Value}{w:World}{K:Ending→World→Prop}(h:S_ops_may t0 w K):Calls prog 26 #[t0] w K:=
 calls_of_wpX Tryz.func26 rfl rfl rfl rfl (Eq.mpr (S_ops_may_eq t0 w K) h)
def S_ops_parts_1 (t1 t3 t58 t59 t60:Value)(w:World)(N2:List Value→World→Prop)(K:Ending→World→Prop):Prop:=
 DoX prog (mBin .lss 3 t60 t59) w (pk K) fun t61 w=>
 IfX t61 (DoX prog (mIA 40 t58 t60) w (pk K) fun t62 w=>
 DoX prog (mLoad 42 t62) w (pk K) fun t63 w=>
 DoX prog (mAlloc 42) w (pk K) fun t11 w=>
 DoX prog (mStore 42 t11 t63) w (pk K) fun _ w=>
 DoX prog (mLoad 42 t11) w (pk K) fun t65 w=>
 CallX prog 56 #[t65] w (pk K) fun t66 w=>
 DoX prog (mExt t66 0) w (pk K) fun t67 w=>
 DoX prog (mExt t66 1) w (pk K) fun t68 w=>
 DoX prog (mBuildS 39 1 #[(0,t67)]) w (pk K) fun t71 w=>
 DoX prog (mB .append #[39,39] 39 #[false,false] #[t3,t71]) w (pk K) fun t72 w=>
 DoX prog (mBin .add 3 t60 (.int .i64 1)) w (pk K) fun t73 w=>
 N2 [t72,t73] w) (DoX prog (mFA 44 t1 0) w (pk K) fun t75 w=>
 DoX prog (mLoad 9 t75) w (pk K) fun t76 w=>
 DoX prog (mBuildS 39 1 #[(0,t76)]) w (pk K) fun t77 w=>
 DoX prog (mB .append #[39,39] 39 #[false,false] #[t3,t77]) w (pk K) fun t78 w=>
 K (.returned t78) w)
def S_ops_parts_0 (t1 t3 t24 t25 t26:Value)(w:World)(N1:List Value→World→Prop)(K:Ending→World→Prop):Prop:=
 DoX prog (mBin .lss 3 t26 t25) w (pk K) fun t27 w=>
 IfX t27 (DoX prog (mIA 39 t24 t26) w (pk K) fun t29 w=>
 DoX prog (mLoad 9 t29) w (pk K) fun t30 w=>
 CallX prog 55 #[t30] w (pk K) fun t33 w=>
 DoX prog (mExt t33 0) w (pk K) fun t34 w=>
 DoX prog (mExt t33 1) w (pk K) fun t35 w=>
 DoX prog (mFA 44 t1 1) w (pk K) fun t37 w=>
 DoX prog (mLoad 40 t37) w (pk K) fun t38 w=>
 DoX prog (mIA 40 t38 (.int .i64 0)) w (pk K) fun t39 w=>
 DoX prog (mFA 42 t39 5) w (pk K) fun t40 w=>
 DoX prog (mLoad 40 t40) w (pk K) fun t41 w=>
 DoX prog (mIA 40 t41 t26) w (pk K) fun t43 w=>
 DoX prog (mLoad 42 t43) w (pk K) fun t44 w=>
 CallX prog 56 #[t44] w (pk K) fun t45 w=>
 DoX prog (mExt t45 0) w (pk K) fun t46 w=>
 DoX prog (mExt t45 1) w (pk K) fun t47 w=>
 DoX prog (mBuildS 39 2 #[(0,t34),(1,t46)]) w (pk K) fun t51 w=>
 DoX prog (mB .append #[39,39] 39 #[false,false] #[t3,t51]) w (pk K) fun t52 w=>
 DoX prog (mBin .add 3 t26 (.int .i64 1)) w (pk K) fun t53 w=>
 N1 [t52,t53] w) (DoX prog (mBuildS 39 1 #[(0,(.string ⟨#[73,68]⟩))]) w (pk K) fun t55 w=>
 DoX prog (mB .append #[39,39] 39 #[false,false] #[t3,t55]) w (pk K) fun t56 w=>
 K (.returned t56) w)
def S_ops_parts (t0:Value)(w:World)(K:Ending→World→Prop):Prop:=
 DoX prog (mBox 44 t0) w (pk K) fun t1 w=>
 DoX prog (mFA 44 t1 0) w (pk K) fun t14 w=>
 DoX prog (mLoad 9 t14) w (pk K) fun t15 w=>
 DoX prog (mEq .eql 9 (.tmp 15) (.const (.string ⟨#[66,73]⟩)) t15 (.string ⟨#[66,73]⟩)) w (pk K) fun t16 w=>
 IfX t16 (DoX prog (mBuildS 39 1 #[(0,(.string ⟨#[66,73]⟩))]) w (pk K) fun t18 w=>
 DoX prog (mB .append #[39,39] 39 #[false,false] #[(.slice none 0 0),t18]) w (pk K) fun t19 w=>
 DoX prog (mFA 44 t1 1) w (pk K) fun t20 w=>
 DoX prog (mLoad 40 t20) w (pk K) fun t21 w=>
 DoX prog (mIA 40 t21 (.int .i64 0)) w (pk K) fun t22 w=>
 DoX prog (mFA 42 t22 4) w (pk K) fun t23 w=>
 DoX prog (mLoad 39 t23) w (pk K) fun t24 w=>
 DoX prog (mB .len #[39] 3 #[false] #[t24]) w (pk K) fun t25 w=>
 LoopX [t19,(.int .i64 0)] w (fun vs1 w N1=>∀_:Sg,S_ops_parts_0 t1 (vs1.getD 0 undef) t24 t25 (vs1.getD 1 undef) w N1 K)) (DoX prog (mFA 44 t1 1) w (pk K) fun t57 w=>
 DoX prog (mLoad 40 t57) w (pk K) fun t58 w=>
 DoX prog (mB .len #[40] 3 #[false] #[t58]) w (pk K) fun t59 w=>
 LoopX [(.slice none 0 0),(.int .i64 0)] w (fun vs2 w N2=>∀_:Sg,S_ops_parts_1 t1 (vs2.getD 0 undef) t58 t59 (vs2.getD 1 undef) w N2 K))
theorem S_ops_parts_eq (t0:Value)(w:World)(K:Ending→World→Prop):wpX prog 79 [] [(5,[3,26]),(13,[3,60])] none (bodyOf Tryz.f29) (topQ prog [.tmp 2] K) (startX [t0]) [] w=S_ops_parts t0 w K:=by kernel_rfl
theorem S_ops_parts_ok {t0:Value}{w:World}{K:Ending→World→Prop}(h:S_ops_parts t0 w K):Calls prog 29 #[t0] w K:=
 calls_of_wpX Tryz.func29 rfl rfl rfl rfl (Eq.mpr (S_ops_parts_eq t0 w K) h)
def S_ops_fits (t0 t1:Value)(w:World)(K:Ending→World→Prop):Prop:=
 DoX prog (mEq .eql 21 (.tmp 5) (.const (.int .i32 110)) t0 (.int .i32 110)) w (pk K) fun t7 w=>
 IfX t7 (DoX prog (mEq .eql 3 (.tmp 8) (.const (.int .i64 2)) t1 (.int .i64 2)) w (pk K) fun t9 w=>
 GDo t9 false (fun E=>E t1 w) w fun t11 w=>
 GDo t9 false (fun E=>DoX prog (mEq .eql 3 (.tmp 11) (.const (.int .i64 3)) t11 (.int .i64 3)) w (pk K) E) w fun t12 w=>
 DoX prog (mPick t9 (.bool true) t12) w (pk K) fun t13 w=>
 K (.returned t13) w) (DoX prog (mEq .eql 21 (.tmp 5) (.const (.int .i32 115)) t0 (.int .i32 115)) w (pk K) fun t15 w=>
 IfX t15 (DoX prog (mEq .eql 3 (.tmp 16) (.const (.int .i64 4)) t1 (.int .i64 4)) w (pk K) fun t17 w=>
 K (.returned t17) w) (DoX prog (mEq .eql 21 (.tmp 5) (.const (.int .i32 78)) t0 (.int .i32 78)) w (pk K) fun t19 w=>
 IfX t19 (DoX prog (mEq .eql 3 (.tmp 20) (.const (.int .i64 5)) t1 (.int .i64 5)) w (pk K) fun t21 w=>
 K (.returned t21) w) (DoX prog (mEq .eql 21 (.tmp 5) (.const (.int .i32 97)) t0 (.int .i32 97)) w (pk K) fun t23 w=>
 IfX t23 (DoX prog (mEq .eql 3 (.tmp 24) (.const (.int .i64 6)) t1 (.int .i64 6)) w (pk K) fun t25 w=>
 K (.returned t25) w) (DoX prog (mEq .eql 21 (.tmp 5) (.const (.int .i32 100)) t0 (.int .i32 100)) w (pk K) fun t27 w=>
 IfX t27 (DoX prog (mEq .eql 3 (.tmp 28) (.const (.int .i64 7)) t1 (.int .i64 7)) w (pk K) fun t29 w=>
 K (.returned t29) w) (K (.returned (.bool true)) w)))))
theorem S_ops_fits_eq (t0 t1:Value)(w:World)(K:Ending→World→Prop):wpX prog 30 [] [] none (bodyOf Tryz.f34) (topQ prog [.tmp 4] K) (startX [t0,t1]) [] w=S_ops_fits t0 t1 w K:=by kernel_rfl
theorem S_ops_fits_ok {t0 t1:Value}{w:World}{K:Ending→World→Prop}(h:S_ops_fits t0 t1 w K):Calls prog 34 #[t0,t1] w K:=
 calls_of_wpX Tryz.func34 rfl rfl rfl rfl (Eq.mpr (S_ops_fits_eq t0 t1 w K) h)
def S_ops_reader_peek_0 (t0 t2 t3 t4:Value)(w:World)(K:Ending→World→Prop):Prop:=
 QuietX w (fun C2=>
 QDo prog C2 (mEq .eql 24 (.tmp 17) (.const (.int .i64 0)) t4 (.int .i64 0)) fun t18=>
 QDo prog C2 (mNil t0) fun t20=>
 QDo prog C2 (mFA 49 t20 0) fun t21=>
 QDo prog C2 (mLoad 9 t21) fun t22=>
 QDo prog C2 (mNil t0) fun t24=>
 QDo prog C2 (mFA 49 t24 1) fun t25=>
 QDo prog C2 (mLoad 3 t25) fun t26=>
 QCall prog C2 62 #[t22,t26] fun t27=>
 ∀w,C2 w →
 CallX prog 37 #[t18,t27,t4] w (pk K) fun t29 w=>
 DoX prog (mLoad 53 t3) w (pk K) fun t30 w=>
 DoX prog (mStore 53 t2 t30) w (pk K) fun _ w=>
 RetX prog [.cell t2 53] w K)
def S_ops_reader_peek (t0:Value)(w:World)(K:Ending→World→Prop):Prop:=
 DoX prog (mAlloc 53) w (pk K) fun t2 w=>
 HeldX w (fun S1 w=>
 HDo prog (fun _=>True) (mNil t0) fun t7=>
 HDo prog (fun _=>True) (mFA 49 t7 0) fun t8=>
 HDo prog S1 (mLoad 9 t8) fun t9=>
 HDo prog (fun _=>True) (mNil t0) fun t11=>
 HDo prog (fun _=>True) (mFA 49 t11 1) fun t12=>
 HDo prog S1 (mLoad 3 t12) fun t13=>
 (CallX prog 61 #[t9,t13] w (pm1 (pm1 (pm1 (pm1 (pm1 (pm1 (pm1 (pm1 (pm1 (pm1 (pm1 (pm1 (pk K))))))))))))) fun t14 w=>
 (HDo prog (fun _=>True) (mExt t14 0) fun t15=>
 HDo prog (fun _=>True) (mExt t14 1) fun t16=>
 DoX prog (mAlloc 53) w (pm1 (pm1 (pm1 (pm1 (pm1 (pm1 (pm1 (pm1 (pm1 (pm1 (pm1 (pm1 (pk K))))))))))))) fun t3 w=>
 S1 w∧(DoX prog (mStore 53 t3 t15) w (pm1 (pm1 (pm1 (pm1 (pm1 (pm1 (pm1 (pm1 (pm1 (pm1 (pm1 (pm1 (pk K))))))))))))) fun _ w=>
 (S_ops_reader_peek_0 t0 t2 t3 t16 w K))))∧(DoX prog (mAlloc 53) w (pm1 (pm1 (pm1 (pm1 (pm1 (pm1 (pm1 (pm1 (pm1 (pm1 (pm1 (pm1 (pk K))))))))))))) fun t3_1 w=>
 S1 w∧(CallX prog 61 #[t9,t13] w (pm1 (pm1 (pm1 (pm1 (pm1 (pm1 (pm1 (pm1 (pm1 (pm1 (pm1 (pm1 (pk K))))))))))))) fun t14_1 w=>
 (HDo prog (fun _=>True) (mExt t14_1 0) fun t15_1=>
 HDo prog (fun _=>True) (mExt t14_1 1) fun t16_1=>
 DoX prog (mStore 53 t3_1 t15_1) w (pm1 (pm1 (pm1 (pm1 (pm1 (pm1 (pm1 (pm1 (pm1 (pm1 (pm1 (pm1 (pk K))))))))))))) fun _ w=>
 (S_ops_reader_peek_0 t0 t2 t3_1 t16_1 w K)))))
theorem S_ops_reader_peek_eq (t0:Value)(w:World)(K:Ending→World→Prop):wpX prog 31 [] [] none (bodyOf Tryz.f36) (topQ prog [.cell 2 53] K) (startX [t0]) [] w=S_ops_reader_peek t0 w K:=by kernel_rfl
theorem S_ops_reader_peek_ok {t0:Value}{w:World}{K:Ending→World→Prop}(h:S_ops_reader_peek t0 w K):Calls prog 36 #[t0] w K:=
 calls_of_wpX Tryz.func36 rfl rfl rfl rfl (Eq.mpr (S_ops_reader_peek_eq t0 w K) h)
def S_ops_reader_object_0 (t0 t3 t4 t5 t6 t7:Value)(w:World)(K:Ending→World→Prop):Prop:=
 DoX prog (mEq .eql 24 (.tmp 21) (.const (.int .i64 0)) t7 (.int .i64 0)) w (pk K) fun t22 w=>
 DoX prog (mFA 53 t3 1) w (pk K) fun t23 w=>
 DoX prog (mLoad 3 t23) w (pk K) fun t24 w=>
 CallX prog 37 #[t22,t24,t7] w (pk K) fun t26 w=>
 QuietX w (fun C2=>
 QDo prog C2 (mLoad 42 t5) fun t27=>
 QCall prog C2 51 #[t27] fun t28=>
 QDo prog C2 (mUn .not t28) fun t29=>
 QDo prog C2 (mFA 53 t3 1) fun t30=>
 QDo prog C2 (mLoad 3 t30) fun t31=>
 ∀w,C2 w →
 CallX prog 37 #[t29,t31,(.int .i64 3)] w (pk K) fun t32 w=>
 DoX prog (mNil t0) w (pk K) fun t35 w=>
 DoX prog (mFA 49 t35 1) w (pk K) fun t36 w=>
 DoX prog (mStore 3 t36 t6) w (pk K) fun _ w=>
 DoX prog (mLoad 42 t5) w (pk K) fun t37 w=>
 DoX prog (mStore 42 t4 t37) w (pk K) fun _ w=>
 RetX prog [.cell t4 42] w K)
def S_ops_reader_object (t0 t1:Value)(w:World)(K:Ending→World→Prop):Prop:=
 DoX prog (mBox 53 t1) w (pk K) fun t3 w=>
 DoX prog (mAlloc 42) w (pk K) fun t4 w=>
 HeldX w (fun S1 w=>
 HDo prog (fun _=>True) (mNil t0) fun t10=>
 HDo prog (fun _=>True) (mFA 49 t10 0) fun t11=>
 HDo prog S1 (mLoad 9 t11) fun t12=>
 HDo prog (fun _=>True) (mNil t0) fun t14=>
 HDo prog (fun _=>True) (mFA 49 t14 1) fun t15=>
 HDo prog S1 (mLoad 3 t15) fun t16=>
 (CallX prog 65 #[t12,t16] w (pm1 (pm1 (pm1 (pm1 (pm1 (pm1 (pm1 (pm1 (pm1 (pm1 (pm1 (pm1 (pm1 (pm1 (pk K))))))))))))))) fun t17 w=>
 (HDo prog (fun _=>True) (mExt t17 0) fun t18=>
 HDo prog (fun _=>True) (mExt t17 1) fun t19=>
 HDo prog (fun _=>True) (mExt t17 2) fun t20=>
 DoX prog (mAlloc 42) w (pm1 (pm1 (pm1 (pm1 (pm1 (pm1 (pm1 (pm1 (pm1 (pm1 (pm1 (pm1 (pm1 (pm1 (pk K))))))))))))))) fun t5 w=>
 S1 w∧(DoX prog (mStore 42 t5 t18) w (pm1 (pm1 (pm1 (pm1 (pm1 (pm1 (pm1 (pm1 (pm1 (pm1 (pm1 (pm1 (pm1 (pm1 (pk K))))))))))))))) fun _ w=>
 (S_ops_reader_object_0 t0 t3 t4 t5 t19 t20 w K))))∧(DoX prog (mAlloc 42) w (pm1 (pm1 (pm1 (pm1 (pm1 (pm1 (pm1 (pm1 (pm1 (pm1 (pm1 (pm1 (pm1 (pm1 (pk K))))))))))))))) fun t5_1 w=>
 S1 w∧(CallX prog 65 #[t12,t16] w (pm1 (pm1 (pm1 (pm1 (pm1 (pm1 (pm1 (pm1 (pm1 (pm1 (pm1 (pm1 (pm1 (pm1 (pk K))))))))))))))) fun t17_1 w=>
 (HDo prog (fun _=>True) (mExt t17_1 0) fun t18_1=>
 HDo prog (fun _=>True) (mExt t17_1 1) fun t19_1=>
 HDo prog (fun _=>True) (mExt t17_1 2) fun t20_1=>
 DoX prog (mStore 42 t5_1 t18_1) w (pm1 (pm1 (pm1 (pm1 (pm1 (pm1 (pm1 (pm1 (pm1 (pm1 (pm1 (pm1 (pm1 (pm1 (pk K))))))))))))))) fun _ w=>
 (S_ops_reader_object_0 t0 t3 t4 t5_1 t19_1 t20_1 w K)))))
theorem S_ops_reader_object_eq (t0 t1:Value)(w:World)(K:Ending→World→Prop):wpX prog 38 [] [] none (bodyOf Tryz.f40) (topQ prog [.cell 4 42] K) (startX [t0,t1]) [] w=S_ops_reader_object t0 t1 w K:=by kernel_rfl
theorem S_ops_reader_object_ok {t0 t1:Value}{w:World}{K:Ending→World→Prop}(h:S_ops_reader_object t0 t1 w K):Calls prog 40 #[t0,t1] w K:=
 calls_of_wpX Tryz.func40 rfl rfl rfl rfl (Eq.mpr (S_ops_reader_object_eq t0 t1 w K) h)
def S_ops_reader_white (t0 t1:Value)(w:World)(K:Ending→World→Prop):Prop:=
 DoX prog (mNil t0) w (pk K) fun t7 w=>
 DoX prog (mFA 49 t7 0) w (pk K) fun t8 w=>
 DoX prog (mLoad 9 t8) w (pk K) fun t9 w=>
 DoX prog (mB .len #[9] 3 #[false] #[t9]) w (pk K) fun t10 w=>
 DoX prog (mBin .lss 3 t1 t10) w (pk K) fun t11 w=>
 GDo t11 true (fun E=>E t0 w) w fun t13 w=>
 GDo t11 true (fun E=>DoX prog (mNil t13) w (pk K) E) w fun t14 w=>
 GDo t11 true (fun E=>DoX prog (mFA 49 t14 0) w (pk K) E) w fun t15 w=>
 GDo t11 true (fun E=>DoX prog (mLoad 9 t15) w (pk K) E) w fun t16 w=>
 GDo t11 true (fun E=>E t1 w) w fun t17 w=>
 GDo t11 true (fun E=>DoX prog (mIx 9 t16 t17) w (pk K) E) w fun t18 w=>
 GDo t11 true (fun E=>CallX prog 90 #[t18] w (pk K) E) w fun t19 w=>
 DoX prog (mPick t11 t19 (.bool false)) w (pk K) fun t20 w=>
 K (.returned t20) w
theorem S_ops_reader_white_eq (t0 t1:Value)(w:World)(K:Ending→World→Prop):wpX prog 21 [] [] none (bodyOf Tryz.f108) (topQ prog [.tmp 4] K) (startX [t0,t1]) [] w=S_ops_reader_white t0 t1 w K:=by kernel_rfl
theorem S_ops_reader_white_ok {t0 t1:Value}{w:World}{K:Ending→World→Prop}(h:S_ops_reader_white t0 t1 w K):Calls prog 108 #[t0,t1] w K:=
 calls_of_wpX Tryz.func108 rfl rfl rfl rfl (Eq.mpr (S_ops_reader_white_eq t0 t1 w K) h)
def S_ops_reader_keys_2 (t2 t3 t9 t108 t109 t110:Value)(w:World)(N4:List Value→World→Prop)(K:Ending→World→Prop):Prop:=
 DoX prog (mBin .lss 3 t110 t109) w (pk K) fun t111 w=>
 IfX t111 (DoX prog (mIA 39 t108 t110) w (pk K) fun t112 w=>
 DoX prog (mLoad 9 t112) w (pk K) fun t113 w=>
 DoX prog (mFA 42 t9 5) w (pk K) fun t114 w=>
 DoX prog (mLoad 40 t114) w (pk K) fun t115 w=>
 DoX prog (mLook 182 t3 t113 false) w (pk K) fun t118 w=>
 DoX prog (mBuildS 40 1 #[(0,t118)]) w (pk K) fun t119 w=>
 DoX prog (mB .append #[40,40] 40 #[false,false] #[t115,t119]) w (pk K) fun t120 w=>
 DoX prog (mFA 42 t9 5) w (pk K) fun t121 w=>
 DoX prog (mStore 40 t121 t120) w (pk K) fun _ w=>
 DoX prog (mBin .add 3 t110 (.int .i64 1)) w (pk K) fun t122 w=>
 N4 [t122] w) (DoX prog (mLoad 42 t9) w (pk K) fun t123 w=>
 DoX prog (mStore 42 t2 t123) w (pk K) fun _ w=>
 RetX prog [.cell t2 42] w K)
def S_ops_reader_keys_1 (t2 t3 t9 t89:Value)(w:World)(N3:List Value→World→Prop)(K:Ending→World→Prop):Prop:=
 DoX prog (mNext t89 false 0) w (pk K) fun t90 w=>
 DoX prog (mExt t90 0) w (pk K) fun t91 w=>
 IfX t91 (DoX prog (mEntry t89) w (pk K) fun t92 w=>
 DoX prog (mExt t92 0) w (pk K) fun t93 w=>
 DoX prog (mExt t92 1) w (pk K) fun t94 w=>
 DoX prog (mAlloc 42) w (pk K) fun t11 w=>
 DoX prog (mStore 42 t11 t94) w (pk K) fun _ w=>
 DoX prog (mFA 42 t11 0) w (pk K) fun t95 w=>
 DoX prog (mLoad 3 t95) w (pk K) fun t96 w=>
 DoX prog (mEq .neq 3 (.tmp 96) (.const (.int .i64 0)) t96 (.int .i64 0)) w (pk K) fun t97 w=>
 IfX t97 (DoX prog (mFA 42 t9 4) w (pk K) fun t98 w=>
 DoX prog (mLoad 39 t98) w (pk K) fun t99 w=>
 DoX prog (mBuildS 39 1 #[(0,t93)]) w (pk K) fun t101 w=>
 DoX prog (mB .append #[39,39] 39 #[false,false] #[t99,t101]) w (pk K) fun t102 w=>
 DoX prog (mFA 42 t9 4) w (pk K) fun t103 w=>
 DoX prog (mStore 39 t103 t102) w (pk K) fun _ w=>
 N3 [] w) (N3 [] w)) (DoX prog (mFA 42 t9 4) w (pk K) fun t104 w=>
 DoX prog (mLoad 39 t104) w (pk K) fun t105 w=>
 CallX prog 148 #[t105] w (pk K) fun t106 w=>
 DoX prog (mFA 42 t9 4) w (pk K) fun t107 w=>
 DoX prog (mLoad 39 t107) w (pk K) fun t108 w=>
 DoX prog (mB .len #[39] 3 #[false] #[t108]) w (pk K) fun t109 w=>
 LoopX [(.int .i64 0)] w (fun vs4 w N4=>∀_:Sg,S_ops_reader_keys_2 t2 t3 t9 t108 t109 (vs4.getD 0 undef) w N4 K))
def S_ops_reader_keys_0 (t0 t2 t3:Value)(w:World)(N1:List Value→World→Prop)(K:Ending→World→Prop):Prop:=
 CallX prog 36 #[t0] w (pk K) fun t16 w=>
 DoX prog (mAlloc 53) w (pk K) fun t4 w=>
 DoX prog (mStore 53 t4 t16) w (pk K) fun _ w=>
 QuietX w (fun C2=>
 QDo prog C2 (mFA 53 t4 0) fun t17=>
 QDo prog C2 (mLoad 3 t17) fun t18=>
 QDo prog C2 (mEq .neq 3 (.tmp 18) (.const (.int .i64 0)) t18 (.int .i64 0)) fun t19=>
 QDo prog C2 (mNil t0) fun t21=>
 QDo prog C2 (mFA 49 t21 0) fun t22=>
 QDo prog C2 (mLoad 9 t22) fun t23=>
 QDo prog C2 (mB .len #[9] 3 #[false] #[t23]) fun t24=>
 ∀w,C2 w →
 CallX prog 37 #[t19,t24,(.int .i64 4)] w (pk K) fun t25 w=>
 DoX prog (mFA 53 t4 2) w (pk K) fun t27 w=>
 DoX prog (mLoad 3 t27) w (pk K) fun t28 w=>
 DoX prog (mNil t0) w (pk K) fun t29 w=>
 DoX prog (mFA 49 t29 1) w (pk K) fun t30 w=>
 DoX prog (mStore 3 t30 t28) w (pk K) fun _ w=>
 DoX prog (mFA 53 t4 0) w (pk K) fun t31 w=>
 DoX prog (mLoad 3 t31) w (pk K) fun t32 w=>
 DoX prog (mEq .eql 3 (.tmp 32) (.const (.int .i64 5)) t32 (.int .i64 5)) w (pk K) fun t33 w=>
 GDo t33 true (fun E=>DoX prog (mFA 53 t4 4) w (pk K) E) w fun t35 w=>
 GDo t33 true (fun E=>DoX prog (mLoad 9 t35) w (pk K) E) w fun t36 w=>
 GDo t33 true (fun E=>DoX prog (mEq .eql 9 (.tmp 36) (.const (.string ⟨#[73,68]⟩)) t36 (.string ⟨#[73,68]⟩)) w (pk K) E) w fun t37 w=>
 DoX prog (mPick t33 t37 (.bool false)) w (pk K) fun t38 w=>
 IfX t38 (DoX prog (mBuild 42 #[(0,(.int .i64 7))]) w (pk K) fun t87 w=>
 DoX prog (mAlloc 42) w (pk K) fun t9 w=>
 DoX prog (mStore 42 t9 t87) w (pk K) fun _ w=>
 DoX prog (mRange 182 t3) w (pk K) fun t89 w=>
 LoopX [] w (fun vs3 w N3=>∀_:Sg,S_ops_reader_keys_1 t2 t3 t9 t89 w N3 K)) (DoX prog (mFA 53 t4 0) w (pk K) fun t39 w=>
 DoX prog (mLoad 3 t39) w (pk K) fun t40 w=>
 DoX prog (mEq .eql 3 (.tmp 40) (.const (.int .i64 4)) t40 (.int .i64 4)) w (pk K) fun t41 w=>
 DoX prog (mFA 53 t4 1) w (pk K) fun t42 w=>
 DoX prog (mLoad 3 t42) w (pk K) fun t43 w=>
 CallX prog 37 #[t41,t43,(.int .i64 3)] w (pk K) fun t44 w=>
 DoX prog (mFA 53 t4 4) w (pk K) fun t47 w=>
 DoX prog (mLoad 9 t47) w (pk K) fun t48 w=>
 DoX prog (mLook 182 t3 t48 true) w (pk K) fun t49 w=>
 DoX prog (mExt t49 0) w (pk K) fun t50 w=>
 DoX prog (mExt t49 1) w (pk K) fun t51 w=>
 DoX prog (mAlloc 42) w (pk K) fun t5 w=>
 DoX prog (mStore 42 t5 t50) w (pk K) fun _ w=>
 DoX prog (mUn .not t51) w (pk K) fun t53 w=>
 DoX prog (mFA 53 t4 1) w (pk K) fun t54 w=>
 DoX prog (mLoad 3 t54) w (pk K) fun t55 w=>
 CallX prog 37 #[t53,t55,(.int .i64 9)] w (pk K) fun t56 w=>
 DoX prog (mB .len #[182] 3 #[false] #[t3]) w (pk K) fun t58 w=>
 DoX prog (mBin .lss 3 t58 (.int .i64 8191)) w (pk K) fun t59 w=>
 DoX prog (mFA 53 t4 1) w (pk K) fun t60 w=>
 DoX prog (mLoad 3 t60) w (pk K) fun t61 w=>
 CallX prog 37 #[t59,t61,(.int .i64 6)] w (pk K) fun t62 w=>
 CallX prog 36 #[t0] w (pk K) fun t64 w=>
 DoX prog (mAlloc 53) w (pk K) fun t7 w=>
 DoX prog (mStore 53 t7 t64) w (pk K) fun _ w=>
 QuietX w (fun C5=>
 QDo prog C5 (mFA 53 t7 0) fun t65=>
 QDo prog C5 (mLoad 3 t65) fun t66=>
 QDo prog C5 (mEq .neq 3 (.tmp 66) (.const (.int .i64 0)) t66 (.int .i64 0)) fun t67=>
 QDo prog C5 (mNil t0) fun t69=>
 QDo prog C5 (mFA 49 t69 0) fun t70=>
 QDo prog C5 (mLoad 9 t70) fun t71=>
 QDo prog C5 (mB .len #[9] 3 #[false] #[t71]) fun t72=>
 ∀w,C5 w →
 CallX prog 37 #[t67,t72,(.int .i64 4)] w (pk K) fun t73 w=>
 DoX prog (mLoad 53 t7) w (pk K) fun t75 w=>
 CallX prog 40 #[t0,t75] w (pk K) fun t76 w=>
 DoX prog (mAlloc 42) w (pk K) fun t8 w=>
 DoX prog (mStore 42 t8 t76) w (pk K) fun _ w=>
 QuietX w (fun C6=>
 QDo prog C6 (mLoad 42 t8) fun t77=>
 QCall prog C6 147 #[t77] fun t78=>
 QDo prog C6 (mBin .lss 3 t78 (.int .i64 24)) fun t79=>
 QDo prog C6 (mFA 53 t7 1) fun t80=>
 QDo prog C6 (mLoad 3 t80) fun t81=>
 ∀w,C6 w →
 CallX prog 37 #[t79,t81,(.int .i64 7)] w (pk K) fun t82 w=>
 DoX prog (mFA 53 t4 4) w (pk K) fun t84 w=>
 DoX prog (mLoad 9 t84) w (pk K) fun t85 w=>
 DoX prog (mLoad 42 t8) w (pk K) fun t86 w=>
 DoX prog (mMapU 182 t3 t85 t86) w (pk K) fun _ w=>
 N1 [] w))))
def S_ops_reader_keys (t0:Value)(w:World)(K:Ending→World→Prop):Prop:=
 DoX prog (mAlloc 42) w (pk K) fun t2 w=>
 DoX prog (mMap 182 none) w (pk K) fun t14 w=>
 LoopX [] w (fun vs1 w N1=>∀_:Sg,S_ops_reader_keys_0 t0 t2 t14 w N1 K)
theorem S_ops_reader_keys_eq (t0:Value)(w:World)(K:Ending→World→Prop):wpX prog 124 [] [(2,[]),(17,[]),(23,[110])] none (bodyOf Tryz.f107) (topQ prog [.cell 2 42] K) (startX [t0]) [] w=S_ops_reader_keys t0 w K:=by kernel_rfl
theorem S_ops_reader_keys_ok {t0:Value}{w:World}{K:Ending→World→Prop}(h:S_ops_reader_keys t0 w K):Calls prog 107 #[t0] w K:=
 calls_of_wpX Tryz.func107 rfl rfl rfl rfl (Eq.mpr (S_ops_reader_keys_eq t0 w K) h)
def S_ops_reader_image_0 (t0 t2 t3 t4 t5:Value)(w:World)(N2:List Value→World→Prop)(K:Ending→World→Prop):Prop:=
 DoX prog (mNil t0) w (pk K) fun t27 w=>
 DoX prog (mFA 49 t27 0) w (pk K) fun t28 w=>
 DoX prog (mLoad 9 t28) w (pk K) fun t29 w=>
 DoX prog (mB .len #[9] 3 #[false] #[t29]) w (pk K) fun t30 w=>
 DoX prog (mBin .lss 3 t5 t30) w (pk K) fun t31 w=>
 IfX t31 (DoX prog (mNil t0) w (pk K) fun t35 w=>
 DoX prog (mFA 49 t35 0) w (pk K) fun t36 w=>
 DoX prog (mLoad 9 t36) w (pk K) fun t37 w=>
 CallX prog 109 #[t37,t5] w (pk K) fun t39 w=>
 IfX t39 (DoX prog (mBin .add 3 t5 (.int .i64 3)) w (pk K) fun t42 w=>
 DoX prog (mNil t0) w (pk K) fun t43 w=>
 DoX prog (mFA 49 t43 1) w (pk K) fun t44 w=>
 DoX prog (mStore 3 t44 t42) w (pk K) fun _ w=>
 HeldX w (fun S3 w=>
 HDo prog S3 (mLoad 42 t3) fun t45=>
 HDo prog (fun _=>True) (mNil t0) fun t48=>
 HDo prog (fun _=>True) (mFA 49 t48 0) fun t49=>
 HDo prog S3 (mLoad 9 t49) fun t50=>
 HDo prog (fun _=>True) (mSlice 9 t50 (some t4) (some t5) none) fun t53=>
 DoX prog (mBuildS 40 1 #[(0,t45)]) w (pm1 (pm1 (pm1 (pm1 (pm1 (pm1 (pm1 (pm1 (pm1 (pk K)))))))))) fun t46 w=>
 S3 w∧(HDo prog (fun _=>True) (mBuild 44 #[(0,(.string ⟨#[66,73]⟩)),(1,t46),(2,t53)]) fun t54=>
 DoX prog (mStore 44 t2 t54) w (pm1 (pm1 (pm1 (pm1 (pm1 (pm1 (pm1 (pm1 (pm1 (pk K)))))))))) fun _ w=>
 (RetX prog [.cell t2 44] w K)))) (DoX prog (mBin .add 3 t5 (.int .i64 1)) w (pk K) fun t33 w=>
 N2 [t33] w)) (DoX prog (mNil t0) w (pk K) fun t56 w=>
 DoX prog (mFA 49 t56 0) w (pk K) fun t57 w=>
 DoX prog (mLoad 9 t57) w (pk K) fun t58 w=>
 DoX prog (mB .len #[9] 3 #[false] #[t58]) w (pk K) fun t59 w=>
 CallX prog 63 #[t59,(.int .i64 4)] w (pk K) fun t60 w=>
 DoX prog (mBuild 44 #[]) w (pk K) fun t61 w=>
 DoX prog (mStore 44 t2 t61) w (pk K) fun _ w=>
 RetX prog [.cell t2 44] w K)
def S_ops_reader_image (t0:Value)(w:World)(K:Ending→World→Prop):Prop:=
 DoX prog (mAlloc 44) w (pk K) fun t2 w=>
 CallX prog 107 #[t0] w (pk K) fun t7 w=>
 DoX prog (mAlloc 42) w (pk K) fun t3 w=>
 DoX prog (mStore 42 t3 t7) w (pk K) fun _ w=>
 QuietX w (fun C1=>
 QDo prog C1 (mNil t0) fun t10=>
 QDo prog C1 (mFA 49 t10 1) fun t11=>
 QDo prog C1 (mLoad 3 t11) fun t12=>
 QCall prog C1 108 #[t0,t12] fun t13=>
 QDo prog C1 (mNil t0) fun t15=>
 QDo prog C1 (mFA 49 t15 1) fun t16=>
 QDo prog C1 (mLoad 3 t16) fun t17=>
 ∀w,C1 w →
 CallX prog 37 #[t13,t17,(.int .i64 3)] w (pk K) fun t18 w=>
 DoX prog (mNil t0) w (pk K) fun t20 w=>
 DoX prog (mFA 49 t20 1) w (pk K) fun t21 w=>
 DoX prog (mLoad 3 t21) w (pk K) fun t22 w=>
 DoX prog (mBin .add 3 t22 (.int .i64 1)) w (pk K) fun t23 w=>
 LoopX [t23] w (fun vs2 w N2=>∀_:Sg,S_ops_reader_image_0 t0 t2 t3 t23 (vs2.getD 0 undef) w N2 K))
theorem S_ops_reader_image_eq (t0:Value)(w:World)(K:Ending→World→Prop):wpX prog 62 [] [(5,[5])] none (bodyOf Tryz.f64) (topQ prog [.cell 2 44] K) (startX [t0]) [] w=S_ops_reader_image t0 w K:=by kernel_rfl
theorem S_ops_reader_image_ok {t0:Value}{w:World}{K:Ending→World→Prop}(h:S_ops_reader_image t0 w K):Calls prog 64 #[t0] w K:=
 calls_of_wpX Tryz.func64 rfl rfl rfl rfl (Eq.mpr (S_ops_reader_image_eq t0 w K) h)
def S_ops_reader_operator_1 (t2 t4 t6:Value)(w:World)(K:Ending→World→Prop):Prop:=
 DoX prog (mFA 53 t4 4) w (pk K) fun t40 w=>
 DoX prog (mLoad 9 t40) w (pk K) fun t41 w=>
 DoX prog (mBuild 44 #[(0,t41),(1,t2)]) w (pk K) fun t43 w=>
 DoX prog (mStore 44 t6 t43) w (pk K) fun _ w=>
 RetX prog [.cell t6 44] w K
def S_ops_reader_operator_0 (t4 t33:Value)(w:World)(J2:List Value→World→Prop)(K:Ending→World→Prop):Prop:=
 IfX t33 (DoX prog (mFA 53 t4 1) w (pk K) fun t37 w=>
 DoX prog (mLoad 3 t37) w (pk K) fun t38 w=>
 CallX prog 63 #[t38,(.int .i64 3)] w (pk K) fun t39 w=>
 J2 [] w) (J2 [] w)
def S_ops_reader_operator (t0 t1 t2:Value)(w:World)(K:Ending→World→Prop):Prop:=
 DoX prog (mBox 53 t1) w (pk K) fun t4 w=>
 DoX prog (mAlloc 44) w (pk K) fun t6 w=>
 QuietX w (fun C1=>
 QDo prog C1 (mNil t0) fun t8=>
 QDo prog C1 (mFA 49 t8 2) fun t9=>
 QDo prog C1 (mLoad 23 t9) fun t10=>
 QDo prog C1 (mB .len #[23] 3 #[false] #[t10]) fun t11=>
 QDo prog C1 (mBin .lss 3 t11 (.int .i64 8191)) fun t12=>
 QDo prog C1 (mFA 53 t4 1) fun t13=>
 QDo prog C1 (mLoad 3 t13) fun t14=>
 ∀w,C1 w →
 CallX prog 37 #[t12,t14,(.int .i64 6)] w (pk K) fun t15 w=>
 DoX prog (mFA 53 t4 2) w (pk K) fun t17 w=>
 DoX prog (mLoad 3 t17) w (pk K) fun t18 w=>
 DoX prog (mNil t0) w (pk K) fun t19 w=>
 DoX prog (mFA 49 t19 1) w (pk K) fun t20 w=>
 DoX prog (mStore 3 t20 t18) w (pk K) fun _ w=>
 JoinX (fun J2=>
 DoX prog (mFA 53 t4 4) w (pk K) fun t21 w=>
 DoX prog (mLoad 9 t21) w (pk K) fun t22 w=>
 DoX prog (mEq .eql 9 (.tmp 22) (.const (.string ⟨#[66,73]⟩)) t22 (.string ⟨#[66,73]⟩)) w (pk K) fun t24 w=>
 IfX t24 (DoX prog (mB .len #[40] 3 #[false] #[t2]) w (pk K) fun t26 w=>
 DoX prog (mEq .eql 3 (.tmp 26) (.const (.int .i64 0)) t26 (.int .i64 0)) w (pk K) fun t27 w=>
 DoX prog (mFA 53 t4 1) w (pk K) fun t28 w=>
 DoX prog (mLoad 3 t28) w (pk K) fun t29 w=>
 CallX prog 37 #[t27,t29,(.int .i64 3)] w (pk K) fun t30 w=>
 CallX prog 64 #[t0] w (pk K) fun t32 w=>
 DoX prog (mStore 44 t6 t32) w (pk K) fun _ w=>
 RetX prog [.cell t6 44] w K) (JoinX (fun J3=>
 DoX prog (mEq .eql 9 (.tmp 22) (.const (.string ⟨#[73,68]⟩)) t22 (.string ⟨#[73,68]⟩)) w (pk K) fun t34 w=>
 IfX t34 (J3 [t34] w) (DoX prog (mEq .eql 9 (.tmp 22) (.const (.string ⟨#[69,73]⟩)) t22 (.string ⟨#[69,73]⟩)) w (pk K) fun t35 w=>
 IfX t35 (J3 [t35] w) (DoX prog (mEq .eql 9 (.tmp 22) (.const (.string ⟨#[82]⟩)) t22 (.string ⟨#[82]⟩)) w (pk K) fun t36 w=>
 J3 [t36] w))) (fun vs3 w=>∀_:Sg,S_ops_reader_operator_0 t4 (vs3.getD 0 undef) w J2 K))) (fun vs2 w=>∀_:Sg,S_ops_reader_operator_1 t2 t4 t6 w K))
theorem S_ops_reader_operator_eq (t0 t1 t2:Value)(w:World)(K:Ending→World→Prop):wpX prog 44 [(10,[33]),(11,[])] [] none (bodyOf Tryz.f39) (topQ prog [.cell 6 44] K) (startX [t0,t1,t2]) [] w=S_ops_reader_operator t0 t1 t2 w K:=by kernel_rfl
theorem S_ops_reader_operator_ok {t0 t1 t2:Value}{w:World}{K:Ending→World→Prop}(h:S_ops_reader_operator t0 t1 t2 w K):Calls prog 39 #[t0,t1,t2] w K:=
 calls_of_wpX Tryz.func39 rfl rfl rfl rfl (Eq.mpr (S_ops_reader_operator_eq t0 t1 t2 w K) h)
def S_ops_reader_read_p0 (x0:Deferred)(x1:Value)(K:Ending→World→Prop):=pd prog [.cell x1 26] K [x0]
def S_ops_reader_read_0 (t0 t2 t3:Value)(d1:Deferred)(w:World)(N2:List Value→World→Prop)(K:Ending→World→Prop):Prop:=
 CallX prog 36 #[t0] w (S_ops_reader_read_p0 d1 t2 K) fun t8 w=>
 DoX prog (mAlloc 53) w (S_ops_reader_read_p0 d1 t2 K) fun t4 w=>
 DoX prog (mStore 53 t4 t8) w (S_ops_reader_read_p0 d1 t2 K) fun _ w=>
 DoX prog (mFA 53 t4 0) w (S_ops_reader_read_p0 d1 t2 K) fun t23 w=>
 DoX prog (mLoad 3 t23) w (S_ops_reader_read_p0 d1 t2 K) fun t24 w=>
 DoX prog (mEq .eql 3 (.tmp 24) (.const (.int .i64 0)) t24 (.int .i64 0)) w (S_ops_reader_read_p0 d1 t2 K) fun t25 w=>
 IfX t25 (DoX prog (mB .len #[40] 3 #[false] #[t3]) w (S_ops_reader_read_p0 d1 t2 K) fun t27 w=>
 DoX prog (mEq .eql 3 (.tmp 27) (.const (.int .i64 0)) t27 (.int .i64 0)) w (S_ops_reader_read_p0 d1 t2 K) fun t28 w=>
 DoX prog (mNil t0) w (S_ops_reader_read_p0 d1 t2 K) fun t30 w=>
 DoX prog (mFA 49 t30 0) w (S_ops_reader_read_p0 d1 t2 K) fun t31 w=>
 DoX prog (mLoad 9 t31) w (S_ops_reader_read_p0 d1 t2 K) fun t32 w=>
 DoX prog (mB .len #[9] 3 #[false] #[t32]) w (S_ops_reader_read_p0 d1 t2 K) fun t33 w=>
 CallX prog 37 #[t28,t33,(.int .i64 4)] w (S_ops_reader_read_p0 d1 t2 K) fun t34 w=>
 DoX prog (mBuild 26 #[]) w (S_ops_reader_read_p0 d1 t2 K) fun t35 w=>
 DoX prog (mStore 26 t2 t35) w (S_ops_reader_read_p0 d1 t2 K) fun _ w=>
 Leave prog [.cell t2 26] K [d1] .returning w) (DoX prog (mFA 53 t4 0) w (S_ops_reader_read_p0 d1 t2 K) fun t37 w=>
 DoX prog (mLoad 3 t37) w (S_ops_reader_read_p0 d1 t2 K) fun t38 w=>
 DoX prog (mEq .eql 3 (.tmp 38) (.const (.int .i64 5)) t38 (.int .i64 5)) w (S_ops_reader_read_p0 d1 t2 K) fun t39 w=>
 GDo t39 true (fun E=>DoX prog (mFA 53 t4 4) w (S_ops_reader_read_p0 d1 t2 K) E) w fun t41 w=>
 GDo t39 true (fun E=>DoX prog (mLoad 9 t41) w (S_ops_reader_read_p0 d1 t2 K) E) w fun t42 w=>
 GDo t39 true (fun E=>CallX prog 38 #[t42] w (S_ops_reader_read_p0 d1 t2 K) E) w fun t43 w=>
 GDo t39 true (fun E=>DoX prog (mUn .not t43) w (S_ops_reader_read_p0 d1 t2 K) E) w fun t44 w=>
 DoX prog (mPick t39 t44 (.bool false)) w (S_ops_reader_read_p0 d1 t2 K) fun t45 w=>
 IfX t45 (HeldX w (fun S3 w=>
 HDo prog (fun _=>True) (mNil t0) fun t48=>
 HDo prog (fun _=>True) (mFA 49 t48 2) fun t49=>
 HDo prog S3 (mLoad 23 t49) fun t50=>
 HDo prog S3 (mLoad 53 t4) fun t52=>
 CallX prog 39 #[t0,t52,t3] w (pm1 (pm1 (pm1 (pm1 (pm1 (pm1 (pm1 (pm1 (pm1 (pm1 (S_ops_reader_read_p0 d1 t2 K))))))))))) fun t54 w=>
 S3 w∧(DoX prog (mBuildS 23 1 #[(0,t54)]) w (pm1 (pm1 (pm1 (pm1 (pm1 (pm1 (pm1 (pm1 (pm1 (pm1 (S_ops_reader_read_p0 d1 t2 K))))))))))) fun t55 w=>
 S3 w∧(DoX prog (mB .append #[23,23] 23 #[false,false] #[t50,t55]) w (pm1 (pm1 (pm1 (pm1 (pm1 (pm1 (pm1 (pm1 (pm1 (pm1 (S_ops_reader_read_p0 d1 t2 K))))))))))) fun t56 w=>
 S3 w∧(HDo prog (fun _=>True) (mNil t0) fun t57=>
 HDo prog (fun _=>True) (mFA 49 t57 2) fun t58=>
 DoX prog (mStore 23 t58 t56) w (pm1 (pm1 (pm1 (pm1 (pm1 (pm1 (pm1 (pm1 (pm1 (pm1 (S_ops_reader_read_p0 d1 t2 K))))))))))) fun _ w=>
 (AtX [d1] [d1] (N2 [(.slice none 0 0)] w))))))) (DoX prog (mLoad 53 t4) w (S_ops_reader_read_p0 d1 t2 K) fun t10 w=>
 CallX prog 40 #[t0,t10] w (S_ops_reader_read_p0 d1 t2 K) fun t11 w=>
 DoX prog (mAlloc 42) w (S_ops_reader_read_p0 d1 t2 K) fun t5 w=>
 DoX prog (mStore 42 t5 t11) w (S_ops_reader_read_p0 d1 t2 K) fun _ w=>
 DoX prog (mB .len #[40] 3 #[false] #[t3]) w (S_ops_reader_read_p0 d1 t2 K) fun t13 w=>
 DoX prog (mBin .lss 3 t13 (.int .i64 32)) w (S_ops_reader_read_p0 d1 t2 K) fun t14 w=>
 DoX prog (mFA 53 t4 1) w (S_ops_reader_read_p0 d1 t2 K) fun t15 w=>
 DoX prog (mLoad 3 t15) w (S_ops_reader_read_p0 d1 t2 K) fun t16 w=>
 CallX prog 37 #[t14,t16,(.int .i64 6)] w (S_ops_reader_read_p0 d1 t2 K) fun t17 w=>
 DoX prog (mLoad 42 t5) w (S_ops_reader_read_p0 d1 t2 K) fun t19 w=>
 DoX prog (mBuildS 40 1 #[(0,t19)]) w (S_ops_reader_read_p0 d1 t2 K) fun t20 w=>
 DoX prog (mB .append #[40,40] 40 #[false,false] #[t3,t20]) w (S_ops_reader_read_p0 d1 t2 K) fun t21 w=>
 AtX [d1] [d1] (N2 [t21] w)))
def S_ops_reader_read (t0:Value)(w:World)(K:Ending→World→Prop):Prop:=
 DoX prog (mAlloc 26) w (pk K) fun t2 w=>
 DoX prog (mFunc (.func 35) #[] #[t2]) w (pk K) fun t6 w=>
 DfrX (dfrV t6 #[]) (fun d1=>
 LoopX [(.slice none 0 0)] w (fun vs2 w N2=>∀_:Sg,S_ops_reader_read_0 t0 t2 (vs2.getD 0 undef) d1 w N2 K))
theorem S_ops_reader_read_eq (t0:Value)(w:World)(K:Ending→World→Prop):wpX prog 59 [] [(3,[3])] none (bodyOf Tryz.f16) (topQ prog [.cell 2 26] K) (startX [t0]) [] w=S_ops_reader_read t0 w K:=by kernel_rfl
theorem S_ops_reader_read_ok {t0:Value}{w:World}{K:Ending→World→Prop}(h:S_ops_reader_read t0 w K):Calls prog 16 #[t0] w K:=
 calls_of_wpX Tryz.func16 rfl rfl rfl rfl (Eq.mpr (S_ops_reader_read_eq t0 w K) h)
def S_ops_reader_read_1 (t0 r:Value)(w:World)(K:Ending→World→Prop):Prop:=
 DoX prog (mEq .eql 20 (.tmp 4) (.const .nilIface) r .nilIface) w (pk K) fun t6 w=>
 IfX t6 (K (.returned (.tuple #[])) w) (DoX prog (mTA r 20 26 true) w (pk K) fun t7 w=>
 DoX prog (mExt t7 1) w (pk K) fun t8 w=>
 DoX prog (mExt t7 0) w (pk K) fun t9 w=>
 IfX t8 (DoX prog (mAlloc 26) w (pk K) fun t2 w=>
 DoX prog (mStore 26 t2 t9) w (pk K) fun _ w=>
 DoX prog (mLoad 26 t2) w (pk K) fun t10 w=>
 DoX prog (mStore 26 t0 t10) w (pk K) fun _ w=>
 K (.returned (.tuple #[])) w) (DoX prog (mPanic r) w (pk K) fun _ w=>
 K (.returned (.tuple #[])) w))
theorem S_ops_reader_read_1_eq (t0 r:Value)(w:World)(K:Ending→World→Prop):wpX prog 11 [] [] none (sndOf (bodyOf Tryz.f35)) (topD prog [] K) (upd (startX [t0]) 4 r) [] w=S_ops_reader_read_1 t0 r w K:=by kernel_rfl
theorem S_ops_reader_read_1_dok {t0:Value}{u:FrameMode}{w:World}{R:Ending→FrameMode→World→Prop}(h:S_ops_reader_read_1 t0 (recV u) w (fun e w=>R e (recM u) w)):CallsD prog 35 #[t0] u w R:=
 callsD_recover Tryz.func35 rfl rfl rfl rfl rfl rfl rfl rfl (Eq.mpr (S_ops_reader_read_1_eq t0 (recV u) w _) h)
def S_ops_Read (t0:Value)(w:World)(K:Ending→World→Prop):Prop:=
 DoX prog (mAlloc 26) w (pk K) fun t3 w=>
 DoX prog (mBuild 49 #[(0,t0)]) w (pk K) fun t7 w=>
 DoX prog (mBox 49 t7) w (pk K) fun t8 w=>
 CallX prog 16 #[t8] w (pk K) fun t10 w=>
 DoX prog (mAlloc 26) w (pk K) fun t5 w=>
 DoX prog (mStore 26 t5 t10) w (pk K) fun _ w=>
 DoX prog (mFA 26 t5 1) w (pk K) fun t11 w=>
 DoX prog (mLoad 24 t11) w (pk K) fun t12 w=>
 DoX prog (mEq .neq 24 (.tmp 12) (.const (.int .i64 0)) t12 (.int .i64 0)) w (pk K) fun t13 w=>
 IfX t13 (QuietX w (fun C1=>
 QDo prog C1 (mLoad 26 t5) fun t14=>
 ∀w,C1 w →
 DoX prog (mStore 26 t3 t14) w (pk K) fun _ w=>
 RetX prog [.val (.slice none 0 0),.cell t3 26] w K)) (DoX prog (mNil t8) w (pk K) fun t16 w=>
 DoX prog (mFA 49 t16 2) w (pk K) fun t17 w=>
 DoX prog (mLoad 23 t17) w (pk K) fun t18 w=>
 DoX prog (mBuild 26 #[]) w (pk K) fun t19 w=>
 DoX prog (mStore 26 t3 t19) w (pk K) fun _ w=>
 RetX prog [.val t18,.cell t3 26] w K)
theorem S_ops_Read_eq (t0:Value)(w:World)(K:Ending→World→Prop):wpX prog 20 [] [] none (bodyOf Tryz.f8) (topQ prog [.tmp 2,.cell 3 26] K) (startX [t0]) [] w=S_ops_Read t0 w K:=by kernel_rfl
theorem S_ops_Read_ok {t0:Value}{w:World}{K:Ending→World→Prop}(h:S_ops_Read t0 w K):Calls prog 8 #[t0] w K:=
 calls_of_wpX Tryz.func8 rfl rfl rfl rfl (Eq.mpr (S_ops_Read_eq t0 w K) h)
def S_ops_Text_2 (t27:Value)(w:World)(N2:List Value→World→Prop)(K:Ending→World→Prop):Prop:=
 DoX prog (mBin .add 3 t27 (.int .i64 1)) w (pk K) fun t43 w=>
 N2 [t43] w
def S_ops_Text_1 (t7 t25 t26 t27:Value)(w:World)(N2:List Value→World→Prop)(K:Ending→World→Prop):Prop:=
 DoX prog (mBin .lss 3 t27 t26) w (pk K) fun t28 w=>
 IfX t28 (JoinX (fun J3=>
 DoX prog (mIA 23 t25 t27) w (pk K) fun t29 w=>
 DoX prog (mLoad 44 t29) w (pk K) fun t30 w=>
 DoX prog (mAlloc 44) w (pk K) fun t9 w=>
 DoX prog (mStore 44 t9 t30) w (pk K) fun _ w=>
 DoX prog (mLoad 44 t9) w (pk K) fun t31 w=>
 CallX prog 29 #[t31] w (pk K) fun t32 w=>
 CallX prog 28 #[t32] w (pk K) fun t33 w=>
 DoX prog (mBin .add 9 t33 (.string ⟨#[10]⟩)) w (pk K) fun t34 w=>
 CallX prog 27 #[t7,t34] w (pk K) fun t35 w=>
 DoX prog (mFA 44 t9 0) w (pk K) fun t36 w=>
 DoX prog (mLoad 9 t36) w (pk K) fun t37 w=>
 DoX prog (mEq .eql 9 (.tmp 37) (.const (.string ⟨#[66,73]⟩)) t37 (.string ⟨#[66,73]⟩)) w (pk K) fun t38 w=>
 IfX t38 (DoX prog (mFA 44 t9 2) w (pk K) fun t39 w=>
 DoX prog (mLoad 9 t39) w (pk K) fun t40 w=>
 DoX prog (mBin .add 9 t40 (.string ⟨#[10,69,73,10]⟩)) w (pk K) fun t41 w=>
 CallX prog 27 #[t7,t41] w (pk K) fun t42 w=>
 J3 [] w) (J3 [] w)) (fun vs3 w=>∀_:Sg,S_ops_Text_2 t27 w N2 K)) (CallX prog 30 #[t7] w (pk K) fun t44 w=>
 K (.returned (.tuple #[t44,(.int .i64 0)])) w)
def S_ops_Text_0 (t0 t13 t14 t15:Value)(w:World)(N1:List Value→World→Prop)(K:Ending→World→Prop):Prop:=
 DoX prog (mBin .lss 3 t15 t14) w (pk K) fun t16 w=>
 IfX t16 (DoX prog (mIA 23 t13 t15) w (pk K) fun t17 w=>
 DoX prog (mLoad 44 t17) w (pk K) fun t18 w=>
 DoX prog (mAlloc 44) w (pk K) fun t5 w=>
 DoX prog (mStore 44 t5 t18) w (pk K) fun _ w=>
 DoX prog (mLoad 44 t5) w (pk K) fun t19 w=>
 CallX prog 26 #[t19] w (pk K) fun t20 w=>
 DoX prog (mEq .neq 24 (.tmp 21) (.const (.int .i64 0)) t20 (.int .i64 0)) w (pk K) fun t22 w=>
 IfX t22 (K (.returned (.tuple #[(.string ⟨#[]⟩),t20])) w) (DoX prog (mBin .add 3 t15 (.int .i64 1)) w (pk K) fun t24 w=>
 N1 [t24] w)) (DoX prog (mAlloc 68) w (pk K) fun t7 w=>
 DoX prog (mB .len #[23] 3 #[false] #[t0]) w (pk K) fun t26 w=>
 LoopX [(.int .i64 0)] w (fun vs2 w N2=>∀_:Sg,S_ops_Text_1 t7 t0 t26 (vs2.getD 0 undef) w N2 K))
def S_ops_Text (t0:Value)(w:World)(K:Ending→World→Prop):Prop:=
 DoX prog (mB .len #[23] 3 #[false] #[t0]) w (pk K) fun t11 w=>
 DoX prog (mBin .gtr 3 t11 (.int .i64 8191)) w (pk K) fun t12 w=>
 IfX t12 (K (.returned (.tuple #[(.string ⟨#[]⟩),(.int .i64 6)])) w) (DoX prog (mB .len #[23] 3 #[false] #[t0]) w (pk K) fun t14 w=>
 LoopX [(.int .i64 0)] w (fun vs1 w N1=>∀_:Sg,S_ops_Text_0 t0 t0 t14 (vs1.getD 0 undef) w N1 K))
theorem S_ops_Text_eq (t0:Value)(w:World)(K:Ending→World→Prop):wpX prog 45 [(17,[])] [(4,[15]),(12,[27])] none (bodyOf Tryz.f12) (topQ prog [.tmp 2,.tmp 3] K) (startX [t0]) [] w=S_ops_Text t0 w K:=by kernel_rfl
theorem S_ops_Text_ok {t0:Value}{w:World}{K:Ending→World→Prop}(h:S_ops_Text t0 w K):Calls prog 12 #[t0] w K:=
 calls_of_wpX Tryz.func12 rfl rfl rfl rfl (Eq.mpr (S_ops_Text_eq t0 w K) h)
def S_ops_Nums_0 (t4 t10 t11 t12:Value)(w:World)(N1:List Value→World→Prop)(K:Ending→World→Prop):Prop:=
 DoX prog (mBin .lss 3 t12 t11) w (pk K) fun t13 w=>
 IfX t13 (DoX prog (mIA 40 t10 t12) w (pk K) fun t14 w=>
 DoX prog (mLoad 42 t14) w (pk K) fun t15 w=>
 DoX prog (mAlloc 42) w (pk K) fun t6 w=>
 DoX prog (mStore 42 t6 t15) w (pk K) fun _ w=>
 DoX prog (mFA 42 t6 0) w (pk K) fun t16 w=>
 DoX prog (mLoad 3 t16) w (pk K) fun t17 w=>
 DoX prog (mEq .neq 3 (.tmp 17) (.const (.int .i64 2)) t17 (.int .i64 2)) w (pk K) fun t18 w=>
 GDo t18 true (fun E=>DoX prog (mFA 42 t6 0) w (pk K) E) w fun t20 w=>
 GDo t18 true (fun E=>DoX prog (mLoad 3 t20) w (pk K) E) w fun t21 w=>
 GDo t18 true (fun E=>DoX prog (mEq .neq 3 (.tmp 21) (.const (.int .i64 3)) t21 (.int .i64 3)) w (pk K) E) w fun t22 w=>
 DoX prog (mPick t18 t22 (.bool false)) w (pk K) fun t23 w=>
 IfX t23 (K (.returned (.tuple #[(.slice none 0 0),(.int .i64 10)])) w) (DoX prog (mLoad 42 t6) w (pk K) fun t25 w=>
 CallX prog 31 #[t25] w (pk K) fun t26 w=>
 DoX prog (mExt t26 0) w (pk K) fun t27 w=>
 DoX prog (mExt t26 1) w (pk K) fun t28 w=>
 DoX prog (mUn .not t28) w (pk K) fun t30 w=>
 IfX t30 (K (.returned (.tuple #[(.slice none 0 0),(.int .i64 2)])) w) (DoX prog (mBuildS 36 1 #[(0,t27)]) w (pk K) fun t33 w=>
 DoX prog (mB .append #[36,36] 36 #[false,false] #[t4,t33]) w (pk K) fun t34 w=>
 DoX prog (mBin .add 3 t12 (.int .i64 1)) w (pk K) fun t35 w=>
 N1 [t34,t35] w))) (K (.returned (.tuple #[t4,(.int .i64 0)])) w)
def S_ops_Nums (t0:Value)(w:World)(K:Ending→World→Prop):Prop:=
 DoX prog (mBox 44 t0) w (pk K) fun t1 w=>
 DoX prog (mFA 44 t1 1) w (pk K) fun t9 w=>
 DoX prog (mLoad 40 t9) w (pk K) fun t10 w=>
 DoX prog (mB .len #[40] 3 #[false] #[t10]) w (pk K) fun t11 w=>
 LoopX [(.slice none 0 0),(.int .i64 0)] w (fun vs1 w N1=>∀_:Sg,S_ops_Nums_0 (vs1.getD 0 undef) t10 t11 (vs1.getD 1 undef) w N1 K)
theorem S_ops_Nums_eq (t0:Value)(w:World)(K:Ending→World→Prop):wpX prog 37 [] [(3,[4,12])] none (bodyOf Tryz.f13) (topQ prog [.tmp 2,.tmp 3] K) (startX [t0]) [] w=S_ops_Nums t0 w K:=by kernel_rfl
theorem S_ops_Nums_ok {t0:Value}{w:World}{K:Ending→World→Prop}(h:S_ops_Nums t0 w K):Calls prog 13 #[t0] w K:=
 calls_of_wpX Tryz.func13 rfl rfl rfl rfl (Eq.mpr (S_ops_Nums_eq t0 w K) h)
def S_ops_Takes_0 (t0 t21 t22:Value)(w:World)(N1:List Value→World→Prop)(K:Ending→World→Prop):Prop:=
 DoX prog (mBin .lss 3 t22 (.int .i64 14)) w (pk K) fun t23 w=>
 IfX t23 (DoX prog (mIx 80 t21 t22) w (pk K) fun t24 w=>
 DoX prog (mAlloc 79) w (pk K) fun t5 w=>
 DoX prog (mStore 79 t5 t24) w (pk K) fun _ w=>
 DoX prog (mFA 79 t5 1) w (pk K) fun t25 w=>
 DoX prog (mLoad 9 t25) w (pk K) fun t26 w=>
 CallX prog 33 #[t26] w (pk K) fun t27 w=>
 CallX prog 32 #[t27,t0] w (pk K) fun t29 w=>
 IfX t29 (DoX prog (mFA 79 t5 0) w (pk K) fun t30 w=>
 DoX prog (mLoad 9 t30) w (pk K) fun t31 w=>
 K (.returned t31) w) (DoX prog (mBin .add 3 t22 (.int .i64 1)) w (pk K) fun t32 w=>
 N1 [t32] w)) (K (.returned (.string ⟨#[63]⟩)) w)
def S_ops_Takes (t0:Value)(w:World)(K:Ending→World→Prop):Prop:=
 DoX prog (mBuild 79 #[(0,(.string ⟨#[]⟩)),(1,(.string ⟨#[98,32,66,32,98,42,32,66,42,32,66,84,32,69,84,32,69,77,67,32,66,88,32,69,88,32,102,32,70,32,102,42,32,104,32,110,32,113,32,81,32,115,32,83,32,84,42,32,87,32,87,42]⟩))]) w (pk K) fun t6 w=>
 DoX prog (mBuild 79 #[(0,(.string ⟨#[110]⟩)),(1,(.string ⟨#[103,32,71,32,105,32,106,32,74,32,77,32,119,32,84,99,32,84,76,32,84,114,32,84,115,32,84,119,32,84,122]⟩))]) w (pk K) fun t7 w=>
 DoX prog (mBuild 79 #[(0,(.string ⟨#[110,110]⟩)),(1,(.string ⟨#[100,48,32,108,32,109,32,84,100,32,84,68]⟩))]) w (pk K) fun t8 w=>
 DoX prog (mBuild 79 #[(0,(.string ⟨#[110,110,110]⟩)),(1,(.string ⟨#[114,103,32,82,71]⟩))]) w (pk K) fun t9 w=>
 DoX prog (mBuild 79 #[(0,(.string ⟨#[110,110,110,110]⟩)),(1,(.string ⟨#[107,32,75,32,114,101,32,118,32,121]⟩))]) w (pk K) fun t10 w=>
 DoX prog (mBuild 79 #[(0,(.string ⟨#[110,110,110,110,110,110]⟩)),(1,(.string ⟨#[99,32,99,109,32,100,49,32,84,109]⟩))]) w (pk K) fun t11 w=>
 DoX prog (mBuild 79 #[(0,(.string ⟨#[78]⟩)),(1,(.string ⟨#[66,77,67,32,99,115,32,67,83,32,68,111,32,103,115,32,77,80,32,114,105,32,115,104]⟩))]) w (pk K) fun t12 w=>
 DoX prog (mBuild 79 #[(0,(.string ⟨#[78,110]⟩)),(1,(.string ⟨#[84,102]⟩))]) w (pk K) fun t13 w=>
 DoX prog (mBuild 79 #[(0,(.string ⟨#[78,42]⟩)),(1,(.string ⟨#[66,68,67,32,68,80]⟩))]) w (pk K) fun t14 w=>
 DoX prog (mBuild 79 #[(0,(.string ⟨#[115]⟩)),(1,(.string ⟨#[84,106,32,39]⟩))]) w (pk K) fun t15 w=>
 DoX prog (mBuild 79 #[(0,(.string ⟨#[110,110,115]⟩)),(1,(.string ⟨#[34]⟩))]) w (pk K) fun t16 w=>
 DoX prog (mBuild 79 #[(0,(.string ⟨#[97]⟩)),(1,(.string ⟨#[84,74]⟩))]) w (pk K) fun t17 w=>
 DoX prog (mBuild 79 #[(0,(.string ⟨#[97,110]⟩)),(1,(.string ⟨#[100]⟩))]) w (pk K) fun t18 w=>
 DoX prog (mBuild 79 #[(0,(.string ⟨#[100]⟩)),(1,(.string ⟨#[66,73]⟩))]) w (pk K) fun t19 w=>
 DoX prog (mBuild 80 #[(0,t6),(1,t7),(2,t8),(3,t9),(4,t10),(5,t11),(6,t12),(7,t13),(8,t14),(9,t15),(10,t16),(11,t17),(12,t18),(13,t19)]) w (pk K) fun t20 w=>
 DoX prog (mAlloc 80) w (pk K) fun t3 w=>
 DoX prog (mStore 80 t3 t20) w (pk K) fun _ w=>
 DoX prog (mLoad 80 t3) w (pk K) fun t21 w=>
 LoopX [(.int .i64 0)] w (fun vs1 w N1=>∀_:Sg,S_ops_Takes_0 t0 t21 (vs1.getD 0 undef) w N1 K)
theorem S_ops_Takes_eq (t0:Value)(w:World)(K:Ending→World→Prop):wpX prog 33 [] [(3,[22])] none (bodyOf Tryz.f14) (topQ prog [.tmp 2] K) (startX [t0]) [] w=S_ops_Takes t0 w K:=by kernel_rfl
theorem S_ops_Takes_ok {t0:Value}{w:World}{K:Ending→World→Prop}(h:S_ops_Takes t0 w K):Calls prog 14 #[t0] w K:=
 calls_of_wpX Tryz.func14 rfl rfl rfl rfl (Eq.mpr (S_ops_Takes_eq t0 w K) h)
def S_ops_Check_0 (t1 t20:Value)(w:World)(N1:List Value→World→Prop)(K:Ending→World→Prop):Prop:=
 DoX prog (mNext t20 true 0) w (pk K) fun t21 w=>
 DoX prog (mExt t21 0) w (pk K) fun t22 w=>
 IfX t22 (DoX prog (mExt t21 1) w (pk K) fun t23 w=>
 DoX prog (mExt t21 2) w (pk K) fun t24 w=>
 DoX prog (mFA 44 t1 1) w (pk K) fun t26 w=>
 DoX prog (mLoad 40 t26) w (pk K) fun t27 w=>
 DoX prog (mIA 40 t27 t23) w (pk K) fun t29 w=>
 DoX prog (mFA 42 t29 0) w (pk K) fun t30 w=>
 DoX prog (mLoad 3 t30) w (pk K) fun t31 w=>
 CallX prog 34 #[t24,t31] w (pk K) fun t32 w=>
 DoX prog (mUn .not t32) w (pk K) fun t33 w=>
 IfX t33 (K (.returned (.int .i64 28)) w) (N1 [] w)) (DoX prog (mFA 44 t1 2) w (pk K) fun t34 w=>
 DoX prog (mLoad 9 t34) w (pk K) fun t35 w=>
 DoX prog (mEq .neq 9 (.tmp 35) (.const (.string ⟨#[]⟩)) t35 (.string ⟨#[]⟩)) w (pk K) fun t36 w=>
 GDo t36 true (fun E=>DoX prog (mFA 44 t1 0) w (pk K) E) w fun t38 w=>
 GDo t36 true (fun E=>DoX prog (mLoad 9 t38) w (pk K) E) w fun t39 w=>
 GDo t36 true (fun E=>DoX prog (mEq .neq 9 (.tmp 39) (.const (.string ⟨#[66,73]⟩)) t39 (.string ⟨#[66,73]⟩)) w (pk K) E) w fun t40 w=>
 DoX prog (mPick t36 t40 (.bool false)) w (pk K) fun t41 w=>
 IfX t41 (K (.returned (.int .i64 3)) w) (K (.returned (.int .i64 0)) w))
def S_ops_Check (t0:Value)(w:World)(K:Ending→World→Prop):Prop:=
 DoX prog (mBox 44 t0) w (pk K) fun t1 w=>
 DoX prog (mFA 44 t1 0) w (pk K) fun t6 w=>
 DoX prog (mLoad 9 t6) w (pk K) fun t7 w=>
 CallX prog 14 #[t7] w (pk K) fun t8 w=>
 DoX prog (mEq .eql 9 (.tmp 9) (.const (.string ⟨#[63]⟩)) t8 (.string ⟨#[63]⟩)) w (pk K) fun t10 w=>
 GDo t10 false (fun E=>E t8 w) w fun t12 w=>
 GDo t10 false (fun E=>DoX prog (mB .len #[9] 3 #[false] #[t12]) w (pk K) E) w fun t13 w=>
 GDo t10 false (fun E=>DoX prog (mFA 44 t1 1) w (pk K) E) w fun t14 w=>
 GDo t10 false (fun E=>DoX prog (mLoad 40 t14) w (pk K) E) w fun t15 w=>
 GDo t10 false (fun E=>DoX prog (mB .len #[40] 3 #[false] #[t15]) w (pk K) E) w fun t16 w=>
 GDo t10 false (fun E=>DoX prog (mEq .neq 3 (.tmp 13) (.tmp 16) t13 t16) w (pk K) E) w fun t17 w=>
 DoX prog (mPick t10 (.bool true) t17) w (pk K) fun t18 w=>
 IfX t18 (K (.returned (.int .i64 28)) w) (DoX prog (mRange 9 t8) w (pk K) fun t20 w=>
 LoopX [] w (fun vs1 w N1=>∀_:Sg,S_ops_Check_0 t1 t20 w N1 K))
theorem S_ops_Check_eq (t0:Value)(w:World)(K:Ending→World→Prop):wpX prog 42 [] [(5,[])] none (bodyOf Tryz.f15) (topQ prog [.tmp 2] K) (startX [t0]) [] w=S_ops_Check t0 w K:=by kernel_rfl
theorem S_ops_Check_ok {t0:Value}{w:World}{K:Ending→World→Prop}(h:S_ops_Check t0 w K):Calls prog 15 #[t0] w K:=
 calls_of_wpX Tryz.func15 rfl rfl rfl rfl (Eq.mpr (S_ops_Check_eq t0 w K) h)
end
section
open Eng
def S_foliantref43_Same_0 (t0 t1 t5:Value)(w:World)(N1:List Value→World→Prop)(K:Ending→World→Prop):Prop:=
 DoX prog (mB .len #[23] 3 #[false] #[t0]) w (pk K) fun t13 w=>
 DoX prog (mBin .lss 3 t5 t13) w (pk K) fun t14 w=>
 IfX t14 (QuietX w (fun C2=>
 QDo prog C2 (mIA 23 t0 t5) fun t19=>
 QDo prog C2 (mFA 44 t19 0) fun t20=>
 QDo prog C2 (mLoad 9 t20) fun t21=>
 QDo prog C2 (mIA 23 t1 t5) fun t24=>
 QDo prog C2 (mFA 44 t24 0) fun t25=>
 QDo prog C2 (mLoad 9 t25) fun t26=>
 QDo prog C2 (mEq .neq 9 (.tmp 21) (.tmp 26) t21 t26) fun t27=>
 GQ t27 false (fun E=>E t0) fun t29=>
 GQ t27 false (fun E=>E t5) fun t30=>
 GQ t27 false (fun E=>QDo prog C2 (mIA 23 t29 t30) E) fun t31=>
 GQ t27 false (fun E=>QDo prog C2 (mFA 44 t31 2) E) fun t32=>
 GQ t27 false (fun E=>QDo prog C2 (mLoad 9 t32) E) fun t33=>
 GQ t27 false (fun E=>E t1) fun t34=>
 GQ t27 false (fun E=>E t5) fun t35=>
 GQ t27 false (fun E=>QDo prog C2 (mIA 23 t34 t35) E) fun t36=>
 GQ t27 false (fun E=>QDo prog C2 (mFA 44 t36 2) E) fun t37=>
 GQ t27 false (fun E=>QDo prog C2 (mLoad 9 t37) E) fun t38=>
 GQ t27 false (fun E=>QDo prog C2 (mEq .neq 9 (.tmp 33) (.tmp 38) t33 t38) E) fun t39=>
 QDo prog C2 (mPick t27 (.bool true) t39) fun t40=>
 GQ t40 false (fun E=>E t0) fun t42=>
 GQ t40 false (fun E=>E t5) fun t43=>
 GQ t40 false (fun E=>QDo prog C2 (mIA 23 t42 t43) E) fun t44=>
 GQ t40 false (fun E=>QDo prog C2 (mFA 44 t44 1) E) fun t45=>
 GQ t40 false (fun E=>QDo prog C2 (mLoad 40 t45) E) fun t46=>
 GQ t40 false (fun E=>E t1) fun t47=>
 GQ t40 false (fun E=>E t5) fun t48=>
 GQ t40 false (fun E=>QDo prog C2 (mIA 23 t47 t48) E) fun t49=>
 GQ t40 false (fun E=>QDo prog C2 (mFA 44 t49 1) E) fun t50=>
 GQ t40 false (fun E=>QDo prog C2 (mLoad 40 t50) E) fun t51=>
 GQ t40 false (fun E=>QCall prog C2 24 #[t46,t51] E) fun t52=>
 GQ t40 false (fun E=>QDo prog C2 (mUn .not t52) E) fun t53=>
 QDo prog C2 (mPick t40 (.bool true) t53) fun t54=>
 ∀w,C2 w →
 IfX t54 (K (.returned (.bool false)) w) (DoX prog (mBin .add 3 t5 (.int .i64 1)) w (pk K) fun t16 w=>
 N1 [t16] w))) (K (.returned (.bool true)) w)
def S_foliantref43_Same (t0 t1:Value)(w:World)(K:Ending→World→Prop):Prop:=
 DoX prog (mB .len #[23] 3 #[false] #[t0]) w (pk K) fun t7 w=>
 DoX prog (mB .len #[23] 3 #[false] #[t1]) w (pk K) fun t9 w=>
 DoX prog (mEq .neq 3 (.tmp 7) (.tmp 9) t7 t9) w (pk K) fun t10 w=>
 IfX t10 (K (.returned (.bool false)) w) (LoopX [(.int .i64 0)] w (fun vs1 w N1=>∀_:Sg,S_foliantref43_Same_0 t0 t1 (vs1.getD 0 undef) w N1 K))
theorem S_foliantref43_Same_eq (t0 t1:Value)(w:World)(K:Ending→World→Prop):wpX prog 55 [] [(4,[5])] none (bodyOf Tryz.f10) (topQ prog [.tmp 4] K) (startX [t0,t1]) [] w=S_foliantref43_Same t0 t1 w K:=by kernel_rfl
theorem S_foliantref43_Same_ok {t0 t1:Value}{w:World}{K:Ending→World→Prop}(h:S_foliantref43_Same t0 t1 w K):Calls prog 10 #[t0,t1] w K:=
 calls_of_wpX Tryz.func10 rfl rfl rfl rfl (Eq.mpr (S_foliantref43_Same_eq t0 t1 w K) h)
def S_foliantref43_Size_1 (t0 t3 t4 t5:Value)(w:World)(N1 N2:List Value→World→Prop)(K:Ending→World→Prop):Prop:=
 DoX prog (mIA 23 t0 t4) w (pk K) fun t25 w=>
 DoX prog (mFA 44 t25 1) w (pk K) fun t26 w=>
 DoX prog (mLoad 40 t26) w (pk K) fun t27 w=>
 DoX prog (mB .len #[40] 3 #[false] #[t27]) w (pk K) fun t28 w=>
 DoX prog (mBin .lss 3 t5 t28) w (pk K) fun t29 w=>
 IfX t29 (DoX prog (mIA 23 t0 t4) w (pk K) fun t35 w=>
 DoX prog (mFA 44 t35 1) w (pk K) fun t36 w=>
 DoX prog (mLoad 40 t36) w (pk K) fun t37 w=>
 DoX prog (mIA 40 t37 t5) w (pk K) fun t39 w=>
 DoX prog (mLoad 42 t39) w (pk K) fun t40 w=>
 CallX prog 25 #[t40] w (pk K) fun t41 w=>
 DoX prog (mBin .add 3 t3 t41) w (pk K) fun t42 w=>
 DoX prog (mBin .add 3 t5 (.int .i64 1)) w (pk K) fun t31 w=>
 N2 [t42,t31] w) (DoX prog (mBin .add 3 t4 (.int .i64 1)) w (pk K) fun t11 w=>
 N1 [t3,t11] w)
def S_foliantref43_Size_0 (t0 t3 t4:Value)(w:World)(N1:List Value→World→Prop)(K:Ending→World→Prop):Prop:=
 DoX prog (mB .len #[23] 3 #[false] #[t0]) w (pk K) fun t8 w=>
 DoX prog (mBin .lss 3 t4 t8) w (pk K) fun t9 w=>
 IfX t9 (DoX prog (mBin .add 3 t3 (.int .i64 1)) w (pk K) fun t13 w=>
 DoX prog (mIA 23 t0 t4) w (pk K) fun t16 w=>
 DoX prog (mFA 44 t16 2) w (pk K) fun t17 w=>
 DoX prog (mLoad 9 t17) w (pk K) fun t18 w=>
 DoX prog (mB .len #[9] 3 #[false] #[t18]) w (pk K) fun t19 w=>
 DoX prog (mBin .quo 3 t19 (.int .i64 100)) w (pk K) fun t20 w=>
 DoX prog (mBin .add 3 t13 t20) w (pk K) fun t21 w=>
 LoopX [t21,(.int .i64 0)] w (fun vs2 w N2=>∀_:Sg,S_foliantref43_Size_1 t0 (vs2.getD 0 undef) t4 (vs2.getD 1 undef) w N1 N2 K)) (K (.returned t3) w)
def S_foliantref43_Size (t0:Value)(w:World)(K:Ending→World→Prop):Prop:=
 LoopX [(.int .i64 0),(.int .i64 0)] w (fun vs1 w N1=>∀_:Sg,S_foliantref43_Size_0 t0 (vs1.getD 0 undef) (vs1.getD 1 undef) w N1 K)
theorem S_foliantref43_Size_eq (t0:Value)(w:World)(K:Ending→World→Prop):wpX prog 44 [] [(3,[3,4]),(7,[3,5])] none (bodyOf Tryz.f11) (topQ prog [.tmp 2] K) (startX [t0]) [] w=S_foliantref43_Size t0 w K:=by kernel_rfl
theorem S_foliantref43_Size_ok {t0:Value}{w:World}{K:Ending→World→Prop}(h:S_foliantref43_Size t0 w K):Calls prog 11 #[t0] w K:=
 calls_of_wpX Tryz.func11 rfl rfl rfl rfl (Eq.mpr (S_foliantref43_Size_eq t0 w K) h)
end
section
open Eng
def S_value_Number_0 (t4:Value)(w:World)(K:Ending→World→Prop):Prop:=
 CallX prog 57 #[t4,(.int .i64 (-1073741824)),(.int .i64 1073741824)] w (pk K) fun t19 w=>
 DoX prog (mUn .not t19) w (pk K) fun t20 w=>
 IfX t20 (K (.returned (.tuple #[(.int .i64 0),(.bool false)])) w) (K (.returned (.tuple #[t4,(.bool true)])) w)
def S_value_Number (t0:Value)(w:World)(K:Ending→World→Prop):Prop:=
 DoX prog (mBox 42 t0) w (pk K) fun t1 w=>
 DoX prog (mFA 42 t1 1) w (pk K) fun t5 w=>
 DoX prog (mLoad 2 t5) w (pk K) fun t6 w=>
 JoinX (fun J1=>
 DoX prog (mFA 42 t1 0) w (pk K) fun t7 w=>
 DoX prog (mLoad 3 t7) w (pk K) fun t8 w=>
 DoX prog (mEq .eql 3 (.tmp 8) (.const (.int .i64 2)) t8 (.int .i64 2)) w (pk K) fun t10 w=>
 IfX t10 (CallX prog 57 #[t6,(.int .i64 (-107374)),(.int .i64 107374)] w (pk K) fun t12 w=>
 DoX prog (mUn .not t12) w (pk K) fun t13 w=>
 IfX t13 (K (.returned (.tuple #[(.int .i64 0),(.bool false)])) w) (DoX prog (mBin .mul 2 t6 (.int .i64 10000)) w (pk K) fun t15 w=>
 J1 [t15] w)) (DoX prog (mEq .eql 3 (.tmp 8) (.const (.int .i64 3)) t8 (.int .i64 3)) w (pk K) fun t17 w=>
 IfX t17 (J1 [t6] w) (K (.returned (.tuple #[(.int .i64 0),(.bool false)])) w))) (fun vs1 w=>∀_:Sg,S_value_Number_0 (vs1.getD 0 undef) w K)
theorem S_value_Number_eq (t0:Value)(w:World)(K:Ending→World→Prop):wpX prog 22 [(9,[4])] [] none (bodyOf Tryz.f31) (topQ prog [.tmp 2,.tmp 3] K) (startX [t0]) [] w=S_value_Number t0 w K:=by kernel_rfl
theorem S_value_Number_ok {t0:Value}{w:World}{K:Ending→World→Prop}(h:S_value_Number t0 w K):Calls prog 31 #[t0] w K:=
 calls_of_wpX Tryz.func31 rfl rfl rfl rfl (Eq.mpr (S_value_Number_eq t0 w K) h)
def S_value_Depth_0 (t3 t7 t8 t9:Value)(w:World)(N1:List Value→World→Prop)(K:Ending→World→Prop):Prop:=
 DoX prog (mBin .lss 3 t9 t8) w (pk K) fun t10 w=>
 IfX t10 (DoX prog (mIA 40 t7 t9) w (pk K) fun t11 w=>
 DoX prog (mLoad 42 t11) w (pk K) fun t12 w=>
 DoX prog (mAlloc 42) w (pk K) fun t5 w=>
 DoX prog (mStore 42 t5 t12) w (pk K) fun _ w=>
 DoX prog (mLoad 42 t5) w (pk K) fun t14 w=>
 CallX prog 147 #[t14] w (pk K) fun t15 w=>
 DoX prog (mB .max #[3,3] 3 #[false,false] #[t3,t15]) w (pk K) fun t16 w=>
 DoX prog (mBin .add 3 t9 (.int .i64 1)) w (pk K) fun t17 w=>
 N1 [t16,t17] w) (DoX prog (mBin .add 3 t3 (.int .i64 1)) w (pk K) fun t19 w=>
 K (.returned t19) w)
def S_value_Depth (t0:Value)(w:World)(K:Ending→World→Prop):Prop:=
 DoX prog (mBox 42 t0) w (pk K) fun t1 w=>
 DoX prog (mFA 42 t1 5) w (pk K) fun t6 w=>
 DoX prog (mLoad 40 t6) w (pk K) fun t7 w=>
 DoX prog (mB .len #[40] 3 #[false] #[t7]) w (pk K) fun t8 w=>
 LoopX [(.int .i64 0),(.int .i64 0)] w (fun vs1 w N1=>∀_:Sg,S_value_Depth_0 (vs1.getD 0 undef) t7 t8 (vs1.getD 1 undef) w N1 K)
theorem S_value_Depth_eq (t0:Value)(w:World)(K:Ending→World→Prop):wpX prog 20 [] [(3,[3,9])] none (bodyOf Tryz.f147) (topQ prog [.tmp 2] K) (startX [t0]) [] w=S_value_Depth t0 w K:=by kernel_rfl
theorem S_value_Depth_ok {t0:Value}{w:World}{K:Ending→World→Prop}(h:S_value_Depth t0 w K):Calls prog 147 #[t0] w K:=
 calls_of_wpX Tryz.func147 rfl rfl rfl rfl (Eq.mpr (S_value_Depth_eq t0 w K) h)
def S_slices_ContainsFunc_foliant_api_Object_foliant_api_Object (t0 t1:Value)(w:World)(K:Ending→World→Prop):Prop:=
 CallX prog 128 #[t0,t1] w (pk K) fun t7 w=>
 DoX prog (mBin .geq 3 t7 (.int .i64 0)) w (pk K) fun t8 w=>
 K (.returned t8) w
theorem S_slices_ContainsFunc_foliant_api_Object_foliant_api_Object_eq (t0 t1:Value)(w:World)(K:Ending→World→Prop):wpX prog 9 [] [] none (bodyOf Tryz.f88) (topQ prog [.tmp 4] K) (startX [t0,t1]) [] w=S_slices_ContainsFunc_foliant_api_Object_foliant_api_Object t0 t1 w K:=by kernel_rfl
theorem S_slices_ContainsFunc_foliant_api_Object_foliant_api_Object_ok {t0 t1:Value}{w:World}{K:Ending→World→Prop}(h:S_slices_ContainsFunc_foliant_api_Object_foliant_api_Object t0 t1 w K):Calls prog 88 #[t0,t1] w K:=
 calls_of_wpX Tryz.func88 rfl rfl rfl rfl (Eq.mpr (S_slices_ContainsFunc_foliant_api_Object_foliant_api_Object_eq t0 t1 w K) h)
def S_slices_IndexFunc_foliant_api_Object_foliant_api_Object_0 (t0 t1 t7 t8:Value)(w:World)(N1:List Value→World→Prop)(K:Ending→World→Prop):Prop:=
 DoX prog (mBin .lss 3 t8 t7) w (pk K) fun t9 w=>
 IfX t9 (DoX prog (mIA 40 t0 t8) w (pk K) fun t14 w=>
 DoX prog (mLoad 42 t14) w (pk K) fun t15 w=>
 DoX prog (mCallV t1 #[t15]) w (pk K) fun t16 w=>
 IfX t16 (K (.returned t8) w) (DoX prog (mBin .add 3 t8 (.int .i64 1)) w (pk K) fun t18 w=>
 N1 [t18] w)) (K (.returned (.int .i64 (-1))) w)
def S_slices_IndexFunc_foliant_api_Object_foliant_api_Object (t0 t1:Value)(w:World)(K:Ending→World→Prop):Prop:=
 DoX prog (mB .len #[40] 3 #[false] #[t0]) w (pk K) fun t7 w=>
 LoopX [(.int .i64 0)] w (fun vs1 w N1=>∀_:Sg,S_slices_IndexFunc_foliant_api_Object_foliant_api_Object_0 t0 t1 t7 (vs1.getD 0 undef) w N1 K)
theorem S_slices_IndexFunc_foliant_api_Object_foliant_api_Object_eq (t0 t1:Value)(w:World)(K:Ending→World→Prop):wpX prog 19 [] [(2,[8])] none (bodyOf Tryz.f128) (topQ prog [.tmp 4] K) (startX [t0,t1]) [] w=S_slices_IndexFunc_foliant_api_Object_foliant_api_Object t0 t1 w K:=by kernel_rfl
theorem S_slices_IndexFunc_foliant_api_Object_foliant_api_Object_ok {t0 t1:Value}{w:World}{K:Ending→World→Prop}(h:S_slices_IndexFunc_foliant_api_Object_foliant_api_Object t0 t1 w K):Calls prog 128 #[t0,t1] w K:=
 calls_of_wpX Tryz.func128 rfl rfl rfl rfl (Eq.mpr (S_slices_IndexFunc_foliant_api_Object_foliant_api_Object_eq t0 t1 w K) h)
end
section
open Eng Go.RowKit
theorem opconst_ret (s:List UInt8)(w:World):Ret prog 38 #[.string ⟨s.toArray⟩] w (fun v w'=>v=.bool (Cs.constant s)∧w=w'):=by
 refine ret_of fun K hK=>S_ops_constant_ok ?_;unfold S_ops_constant;have fin:∀{q:Bool},q=Cs.constant s→K (.returned (.bool q)) w:=fun e=>hK _ _ ⟨by rw[e],rfl⟩;by_cases h1:s=[116,114,117,101]
 ·simp only[rs,decide_eq_true h1,g_un];exact fin (by simp[Cs.constant,Ps.tru,h1])
 by_cases h2:s=[102,97,108,115,101]
 ·simp only[rs,decide_eq_false h1,decide_eq_true h2,g_un];exact fin (by simp[Cs.constant,Ps.fal,h2])
 simp only[rs,decide_eq_false h1,decide_eq_false h2,g_un];exact fin (by unfold Cs.constant;rw[decide_eq_false (show ¬s=Ps.tru from h1),decide_eq_false (show ¬s=Ps.fal from h2)];rfl)
namespace Cs
theorem refersL_any:∀l:List Ob,refersL l=l.any refers
|[]=>by rw[refersL];rfl
|o::l=>by rw[refersL,List.any_cons,refersL_any l]
theorem any_idx:∀l:List Ob,l.any refers=decide (l.findIdx refers < l.length)
|[]=>rfl
|o::l=>by
  rw[List.any_cons,List.findIdx_cons,any_idx l];cases h:refers o with
 |true=>simp
 |false=>simp
end Cs
theorem oprefers_plain:plainB prog 51=true:=by kernel_rfl
theorem findIdx_atO {p:Ob→Bool}{l:List Ob}{i:Nat}(hi:i < l.length)(h1:∀m (h:m < l.length),m < i→p l[m]=false)(h2:p l[i]=true):l.findIdx p=i:=by
 have hle:l.findIdx p≤i:=by
  rcases Nat.lt_or_ge i (l.findIdx p) with h|h
  ·have:=List.not_of_lt_findIdx h;rw[h2] at this;simp at this
  ·exact h
 rcases Nat.lt_or_ge (l.findIdx p) i with h|h
 ·have hlt:l.findIdx p < l.length:=by omega
  have:=h1 _ hlt h;have hp:=List.findIdx_getElem (w:=hlt);rw[this] at hp;cases hp
 ·omega
theorem ixfO_ret (l:List Ob)(vc:Value)(cs:List Value)(w:World)(hl:l.length≤10000000000)(hs:SlA (InW w) w vc 6 l.length cs)(hall:OVs (InW w) w cs l)
  (hp:∀(o:Ob) (v:Value) (W:World),o∈l→OV (InW W) W v o→Ret prog 51 #[v] W (fun v w'=>v=.bool (Cs.refers o)∧Below W.heap.size W w')) :
  Ret prog 128 #[vc,.func (.func 51) #[] #[]] w (fun v w'=>v=.int .i64 (if l.findIdx Cs.refers < l.length then (l.findIdx Cs.refers:Int) else -1)∧Below w.heap.size w w'):=by
 refine ret_of fun K hK=>S_slices_IndexFunc_foliant_api_Object_foliant_api_Object_ok ?_;unfold S_slices_IndexFunc_foliant_api_Object_foliant_api_Object;rw[sl_len Tryz.underlying40 hs.1];refine loop (fun vs W=>∃i:Nat,vs=[.int .i64 i]∧i≤l.length∧(∀m (h:m < l.length),m < i→Cs.refers l[m]=false)∧Own w W []) (fun vs _=>l.length - n0 vs) ⟨0,rfl,by omega,fun m _ h=>by omega,Own.start w⟩ ?_;rintro vs w1 ⟨i,rfl,hi,hlo,ho⟩ _;simp only[S_slices_IndexFunc_foliant_api_Object_foliant_api_Object_0,gd,rs];by_cases hlt:(i:Int) < (l.length:Int)
 ·have hi':i < l.length:=by omega
  simp only[hlt,decide_true,i_t];have hk:Kept (InW w) w w1:=OwnS.keptIn ho;refine ob_ia (hs.kept hk).1 (OVs.kept hk _ _ hall) hi' fun v hv=>?_;have hv1:OV (InW w1) w1 v l[i]:=OV.mono (fun _ hb=>Nat.lt_of_lt_of_le hb ho.size) _ v hv;refine c_val oprefers_plain (c_ret (hp l[i] v w1 (List.getElem_mem hi') hv1) ?_);rintro _ w2 ⟨rfl,hb⟩;have ho:=ho.grow hb;cases hc:Cs.refers l[i] with
 |true=>
   simp only[i_t];have:=findIdx_atO hi' hlo hc;exact hK _ _ ⟨by rw[this,if_pos hi'],ho.done⟩
 |false=>
   simp only[i_f];rw[wrap64_id (by omega) (by omega)];refine nextX ⟨i+1,rfl,by omega,fun m hm hmi=>?_,ho⟩ (by simp[n0,RowKit.intOf];omega);rcases Nat.lt_or_ge m i with h|h
   ·exact hlo m hm h
   ·have:m=i:=by omega
    subst this;exact hc
 ·simp only[hlt,decide_false,i_f];have hnot:¬l.findIdx Cs.refers < l.length:=by
   intro h;have:=hlo _ h (by omega);have hp:=List.findIdx_getElem (w:=h);rw[this] at hp;cases hp
  exact hK _ _ ⟨by rw[if_neg hnot],ho.done⟩
theorem oprefers_ret (n:Nat):∀(o:Ob) (v:Value) (w:World),o.wt≤n→o.wt≤10000000000→OV (InW w) w v o→Ret prog 51 #[v] w (fun v w'=>v=.bool (Cs.refers o)∧Below w.heap.size w w'):=by
 induction n with
|zero=>intro o v w h;have:=o.wt_pos;omega
|succ n ih=>
 intro o v w hn hb hov;obtain⟨vk,vc,cs,rfl,ha⟩:=hov.open;refine ret_of fun K hK=>S_ops_refers_ok ?_;unfold S_ops_refers;refine o_obb o ha.keys.one ha.kids.one (Own.start w) fun b w1 ho=>?_;rw[fa_o0,ob_k ho 0 rfl];simp only[rs];by_cases h8:o.k=8
 ·simp only[decide_eq_true h8,rs,g_un];exact hK _ _ ⟨by rw[Cs.refers_eq,decide_eq_true h8];rfl,ho.done⟩
 simp only[decide_eq_false h8,rs,fa_o5,ob_kids ho 0 rfl];have ha1:ObAt (InW w1) w1 o vk vc cs:=(ha.later (Own.start w) ho);have hcl:=kids_len (o:=o);refine c_told (w:=w1) (x:=.bool (Cs.refersL o.kids)) (ret_of fun K hK=>S_slices_ContainsFunc_foliant_api_Object_foliant_api_Object_ok ?_) rfl ho fun w2 ho=>?_
 ·unfold S_slices_ContainsFunc_foliant_api_Object_foliant_api_Object;refine c_ret (ixfO_ret o.kids vc cs w1 (by omega) ha1.kids ha1.all fun x v W hx hv=>ih x v W ?_ ?_ hv) ?_
  ·obtain⟨i,hi,rfl⟩:=List.getElem_of_mem hx;have:=kid_wt hi;omega
  ·obtain⟨i,hi,rfl⟩:=List.getElem_of_mem hx;have:=kid_wt hi;omega
  ·rintro _ w2 ⟨rfl,hb⟩;simp only[rs];refine hK _ _ ⟨?_,hb⟩;rw[Cs.refersL_any,Cs.any_idx];by_cases hf:o.kids.findIdx Cs.refers < o.kids.length
   ·rw[if_pos hf,decide_eq_true hf,decide_eq_true (by omega)]
   ·rw[if_neg hf,decide_eq_false hf,decide_eq_false (by omega)]
 ·try simp only[rs]
  exact hK _ _ ⟨by rw[Cs.refers_eq,decide_eq_false h8,Bool.false_or],ho.done⟩
theorem b_max64 {T U:TypeId}{cb:Array Bool}{a b:Int}{P:Program}{w:World}{PK:PKT}{K:VWP}:DoX P (mB .max #[T,T] U cb #[.int .i64 a,.int .i64 b]) w PK K=K (.int .i64 (max a b)) w:=by
 refine do_eq ?_;simp[mB,builtin,Builtin.max_,Builtin.max2];rw[Int.max_def];split<;>split<;>omega
namespace Cs
theorem depthL_snoc:∀(l:List Ob) (o:Ob),depthL (l++[o])=max (depthL l) (depth o)
|[],o=>by simp[depthL]
|a::l,o=>by rw[List.cons_append,depthL,depthL_snoc l o,depthL];omega
theorem depthL_take:∀(l:List Ob) (i:Nat),depthL (l.take i)≤depthL l
|[],i=>by simp
|a::l,0=>by simp[depthL]
|a::l,i+1=>by
  have:=depthL_take l i;rw[List.take_succ_cons,depthL,depthL];omega
 mutual
theorem depth_wt:∀o:Ob,depth o≤o.wt
|.mk k n g s keys kids=>by
  have:=depthL_wt kids;rw[depth,Ob.wt];omega
theorem depthL_wt:∀l:List Ob,depthL l≤Ob.wts l
|[]=>by simp[depthL]
|o::l=>by
  have:=depth_wt o;have:=depthL_wt l;rw[depthL,Ob.wts];omega
end
end Cs
theorem vdepth_ret (n:Nat):∀(o:Ob) (v:Value) (w:World),o.wt≤n→o.wt≤10000000000→OV (InW w) w v o→Ret prog 147 #[v] w (fun v w'=>v=.int .i64 (Cs.depth o:Nat)∧Below w.heap.size w w'):=by
 induction n with
|zero=>intro o v w h;have:=o.wt_pos;omega
|succ n ih=>
 intro o v w hn hb hov;obtain⟨vk,vc,cs,rfl,ha⟩:=hov.open;refine ret_of fun K hK=>S_value_Depth_ok ?_;unfold S_value_Depth;refine o_obb o ha.keys.one ha.kids.one (Own.start w) fun b w1 ho=>?_;have hcl:=kids_len (o:=o);have hdw:=Cs.depth_wt o;have hde:=Cs.depth_eq o;rw[fa_o5,ob_kids ho 0 rfl,sl_len Tryz.underlying40 (ha.own ho).kids.1];refine loop (fun vs w'=>∃(i:Nat) (m:Int),vs=[.int .i64 m,.int .i64 i]∧i≤o.kids.length∧m=((Cs.depthL (o.kids.take i):Nat):Int)∧Own w w' [obE b o vk vc]) (fun vs _=>o.kids.length - n1 vs) ⟨0,_,rfl,by omega,by simp[Cs.depthL],ho⟩ ?_;rintro vs w3 ⟨i,m,rfl,hi2,rfl,ho⟩ _;simp only[S_value_Depth_0,gd,rs];have hdt:=Cs.depthL_take o.kids i;by_cases hlt:(i:Int) < (o.kids.length:Int)
 ·have hi':i < o.kids.length:=by omega
  simp only[hlt,decide_true,i_t];have hai:=ha.own ho;refine ob_ia hai.kids.1 hai.all hi' fun v hv=>?_;obtain⟨vk',vc',cs',rfl,hkid⟩:=hv.open;have ho6:=ho;refine o_oba ho fun b7 w7 ho=>?_;refine ob_put 0 hkid.keys.one hkid.kids.one ho rfl fun w8 ho=>?_;have ho:Own w w8 [obE b7 o.kids[i] vk' vc',obE b o vk vc]:=ho;rw[ob_v ho 0 rfl];have hkw:=kid_wt hi';refine c_told (ih o.kids[i] _ w8 (by omega) (by omega) (hkid.later ho6 ho).ov) rfl ho fun w9 ho=>?_;have hd2:=Cs.depthL_take o.kids (i+1);have hss:Cs.depthL (o.kids.take (i+1))=max (Cs.depthL (o.kids.take i)) (Cs.depth o.kids[i]):=by rw[List.take_succ_eq_append_getElem hi',Cs.depthL_snoc]
  rw[b_max64]
  try simp only[rs]
  rw[wrap64_id (by omega) (by omega)];exact nextX ⟨i+1,_,rfl,by omega,by rw[hss];omega,ho.tail⟩ (by simp[n1,RowKit.intOf];omega)
 ·simp only[hlt,decide_false,i_f,rs];have hil:i=o.kids.length:=by omega
  subst hil;rw[List.take_length] at hdt ⊢;rw[wrap64_id (by omega) (by omega)];exact hK _ _ ⟨by rw[hde];rfl,ho.done⟩
end
section
open Eng Go.RowKit
namespace Cs
theorem ends_eq {s:List UInt8}{a:Nat}(ha:a < s.length):ends s a=(Oc.white s[a]&&[69,73].isPrefixOf (s.drop (a+1))&&(decide (a+3=s.length)||(s[a+3]?).any Oc.white)):=by
 unfold ends;rw[Lx.drop_cons ha];have hd:(s.drop (a+1)).drop 2=s.drop (a+3):=by rw[List.drop_drop]
 have hl:(s.drop (a+1)).length=s.length - (a+1):=List.length_drop;generalize hu:s.drop (a+1)=u at *
 match u with
|[]=>simp
|[x]=>simp[List.isPrefixOf]
|x::y::r=>
  have hr:r=s.drop (a+3):=by rw[←hd];rfl
  have he:r.isEmpty=decide (a+3=s.length):=by
   simp only[List.length_cons] at hl;cases r with
  |nil=>rw[decide_eq_true (by simp at hl;omega)];rfl
  |cons _ _=>rw[decide_eq_false (by simp at hl;omega)];rfl
  have hh:r.head?=s[a+3]?:=by rw[hr,List.head?_drop]
  simp only[he,hh,List.isPrefixOf];have e1:((69:UInt8)==x)=decide (x=69):=by
   cases h:decide (x=69) with
  |true=>have:=of_decide_eq_true h;subst this;rfl
  |false=>exact beq_eq_false_iff_ne.2 (Ne.symm (of_decide_eq_false h))
  have e2:((73:UInt8)==y)=decide (y=73):=by
   cases h:decide (y=73) with
  |true=>have:=of_decide_eq_true h;subst this;rfl
  |false=>exact beq_eq_false_iff_ne.2 (Ne.symm (of_decide_eq_false h))
  rw[e1,e2,Bool.and_true,←Bool.and_assoc]
end Cs
theorem opends_ret (s:List UInt8)(a:Nat)(w:World)(ha:a < s.length)(hs:s.length≤1099511627776):Ret prog 109 #[.string ⟨s.toArray⟩,.int .i64 (a:Int)] w (fun v w'=>v=.bool (Cs.ends s a)∧w=w'):=by
 refine ret_of fun K hK=>S_ops_ends_ok ?_;unfold S_ops_ends;have fin:∀{q:Bool},q=Cs.ends s a→K (.returned (.bool q)) w:=fun e=>hK _ _ ⟨by rw[e],rfl⟩;rw[s_ix (c:=s[a]) Tryz.underlying9 (by omega) (by simp[ha])];refine c_eq (white_ret s[a] w) ?_;rw[Cs.ends_eq ha] at fin;have hbg:begins s [69,73] ((a:Int)+1)=[69,73].isPrefixOf (s.drop (a+1)):=by
  unfold begins;rw[decide_eq_true (by omega),decide_eq_true (by omega),show ((a:Int)+1).toNat=a+1 by omega];rfl
 cases hw:Oc.white s[a] with
|false=>
  simp only[rs,Bool.not_false,g_un];exact fin (by rw[hw];rfl)
|true=>
  simp only[rs,Bool.not_true];rw[wrap64_id (by omega) (by omega)];refine c_eq (begins_ret s [69,73] ((a:Int)+1) w) ?_;rw[hbg];cases hp:[69,73].isPrefixOf (s.drop (a+1)) with
 |false=>
   simp only[rs,Bool.not_false];exact fin (by rw[hw,hp];rfl)
 |true=>
   have hlen:a+3≤s.length:=by
    have:=(List.isPrefixOf_iff_prefix.1 hp).length_le;simp only[List.length_cons,List.length_nil,List.length_drop] at this;omega
   simp only[rs,Bool.not_true,s_len Tryz.underlying9];rw[wrap64_id (by omega) (by omega)];by_cases h3:(a:Int)+3=(s.length:Int)
   ·simp only[decide_eq_true h3,rs,g_un];exact fin (by rw[hw,hp,decide_eq_true (show a+3=s.length by omega)];rfl)
   ·simp only[decide_eq_false h3,rs];rw[wrap64_id (by omega) (by omega),s_ix (c:=s[a+3]'(by omega)) Tryz.underlying9 (by omega) (by rw[show ((a:Int)+3).toNat=a+3 by omega];exact List.getElem?_eq_getElem (by omega))];refine c_eq (white_ret (s[a+3]'(by omega)) w) ?_
    try simp only[rs]
    refine fin ?_;rw[hw,hp,decide_eq_false (show ¬a+3=s.length by omega),List.getElem?_eq_getElem (by omega)];rfl
def fltP (a e:Int):PanicEntry:={ v:=.iface 26 (fltV (a,e)),recovered:=false }
theorem nfF:notIface prog 26=true:=by kernel_rfl
theorem opfail_pan (a e:Int)(w:World):Pan prog 63 #[.int .i64 a,.int .i64 e] w (fun c w'=>c=[fltP a e]∧w=w'):=by
 refine pan_of fun K hK=>S_ops_fail_ok ?_;unfold S_ops_fail;have hb:∀{PK:PKT} {K:VWP},DoX prog (mBuild 26 #[(0,.int .i64 a),(1,.int .i64 e)]) w PK K=K (fltV (a,e)) w:=do_eq (by kernel_rfl);rw[hb,m_iface nfF,m_panic];exact hK _ _ ⟨rfl,rfl⟩
theorem opmust_t (a e:Int)(w:World):Ret prog 37 #[.bool true,.int .i64 a,.int .i64 e] w (fun v w'=>v=.tuple #[]∧w=w'):=by
 refine ret_of fun K hK=>S_ops_must_ok ?_;unfold S_ops_must;simp only[rs,Bool.not_true];exact hK _ _ ⟨rfl,rfl⟩
theorem opmust_f (a e:Int)(w:World):Pan prog 37 #[.bool false,.int .i64 a,.int .i64 e] w (fun c w'=>c=[fltP a e]∧w=w'):=by
 refine pan_of fun K hK=>S_ops_must_ok ?_;unfold S_ops_must;simp only[rs,Bool.not_false];exact c_pan (opfail_pan a e w) fun c w' ⟨hc,hw⟩=>by subst hc;subst hw;exact hK _ _ ⟨rfl,rfl⟩
section
variable {w:World}{PK:PKT}{K:VWP}{S:Nat→Prop}{w0:World}{L:List Ent}
theorem c_opmust {q:Bool}{a e:Int}(kt:q=true→K (.tuple #[]) w)(kf:q=false→PK [fltP a e] w):CallX prog 37 #[.bool q,.int .i64 a,.int .i64 e] w PK K:=by
 cases q with
|true=>exact c_eq (opmust_t a e w) (kt rfl)
|false=>exact c_pan (opmust_f a e w) fun c w' ⟨hc,hw⟩=>by subst hc;subst hw;exact kf rfl
end
def orC (s:List UInt8)(a:Int)(vl:Value):List Value:=[.string ⟨s.toArray⟩,.int .i64 a,vl]
abbrev orE (b:Nat)(s:List UInt8)(a:Int)(vl:Value):Ent:=.cells b (orC s a vl) 49
theorem for0:fOff prog 49 0=some 0:=by kernel_rfl
theorem for1:fOff prog 49 1=some 1:=by kernel_rfl
theorem for2:fOff prog 49 2=some 2:=by kernel_rfl
section
variable {w:World}{PK:PKT}{K:VWP}{S:Nat→Prop}{w0:World}{L:List Ent}
theorem fa_or0 {b:Nat}:DoX prog (mFA 49 (.pointer (some ⟨b,0,none⟩)) 0) w PK K=K (.pointer (some ⟨b,0,none⟩)) w:=f_addr for0
theorem fa_or1 {b:Nat}:DoX prog (mFA 49 (.pointer (some ⟨b,0,none⟩)) 1) w PK K=K (.pointer (some ⟨b,1,none⟩)) w:=f_addr for1
theorem fa_or2 {b:Nat}:DoX prog (mFA 49 (.pointer (some ⟨b,0,none⟩)) 2) w PK K=K (.pointer (some ⟨b,2,none⟩)) w:=f_addr for2
theorem or_s {b:Nat}{s:List UInt8}{a:Int}{vl:Value}(h:(orE b s a vl).is w):DoX prog (mLoad 9 (.pointer (some ⟨b,0,none⟩))) w PK K=K (.string ⟨s.toArray⟩) w:=l_cell nStr5 (cells_cell (T:=49) (cs:=orC s a vl) (i:=0) h rfl)
theorem or_a {b:Nat}{s:List UInt8}{a:Int}{vl:Value}(h:(orE b s a vl).is w):DoX prog (mLoad 3 (.pointer (some ⟨b,1,none⟩))) w PK K=K (.int .i64 a) w:=l_cell nInt5 (cells_cell (T:=49) (cs:=orC s a vl) (i:=1) h rfl)
theorem or_l {b:Nat}{s:List UInt8}{a:Int}{vl:Value}(h:(orE b s a vl).is w):DoX prog (mLoad 23 (.pointer (some ⟨b,2,none⟩))) w PK K=K vl w:=l_cell nSlOp (cells_cell (T:=49) (cs:=orC s a vl) (i:=2) h rfl)
theorem orr_s {b:Nat}{s:List UInt8}{a:Int}{vl:Value}(h:(orE b s a vl).is w):(mLoad 9 (.pointer (some ⟨b,0,none⟩))).run prog w=.ok (.value (.string ⟨s.toArray⟩)) w:=run_load_cell nStr5 (cells_cell (T:=49) (cs:=orC s a vl) (i:=0) h rfl)
theorem orr_a {b:Nat}{s:List UInt8}{a:Int}{vl:Value}(h:(orE b s a vl).is w):(mLoad 3 (.pointer (some ⟨b,1,none⟩))).run prog w=.ok (.value (.int .i64 a)) w:=run_load_cell nInt5 (cells_cell (T:=49) (cs:=orC s a vl) (i:=1) h rfl)
theorem or_put (i:Nat){b:Nat}{s:List UInt8}{a a':Int}{vl:Value}(ho:OwnS S w0 w L)(hi:L[i]?=some (orE b s a vl))(k:∀w',OwnS S w0 w' (L.set i (orE b s a' vl))→K undef w'):DoX prog (mStore 3 (.pointer (some ⟨b,1,none⟩)) (.int .i64 a')) w PK K:=
 o_store i ho hi (by kernel_rfl) rfl (show 1 < 3 by omega) k
theorem c_oppeek {b:Nat}{s:List UInt8}{a:Int}{vl:Value}(ho:OwnS S w0 w L)(hr:(orE b s a vl).is w)(hs:s.length≤1099511627776)
  (kr:(Lx.next s a).2=0→∀w',OwnS S w0 w' L→K (tokV (Lx.next s a).1) w') (kp:(Lx.next s a).2≠0→∀w',OwnS S w0 w' L→PK [fltP (Lx.skipI s a) (Lx.next s a).2] w'):CallX prog 36 #[rdP b] w PK K:=by
 have body:∀KE:Ending→World→Prop,((Lx.next s a).2=0→∀w',Below w.heap.size w w'→KE (.returned (tokV (Lx.next s a).1)) w')→((Lx.next s a).2≠0→∀w',Below w.heap.size w w'→KE (.panicked [fltP (Lx.skipI s a) (Lx.next s a).2]) w')→S_ops_reader_peek (rdP b) w KE:=by
  intro KE hret hpan;unfold S_ops_reader_peek;refine o_tok (Own.start w) fun b2 w1 ho=>?_;have hr1:∀{W:World} {L:List Ent},Own w W L→(orE b s a vl).is W:=fun ho=>Ent.below (e:=orE b s a vl) hr ho.done;have two:∀{W:World} {b3:Nat} {t2:Lx.Tok},Own w W [tokE b3 (Lx.next s a).1,tokE b2 t2]→S_ops_reader_peek_0 (rdP b) (.pointer (some ⟨b2,0,none⟩)) (.pointer (some ⟨b3,0,none⟩)) (.int .i64 (Lx.next s a).2) W KE:=by
   intro W b3 t2 ho;unfold S_ops_reader_peek_0;refine quiet (q_eq ?_);refine q_do _ (fun _=>run_nil) (q_do _ (fun _=>run_fa for0) (q_at _ (fun _ hb=>orr_s (hr1 (ho.grow hb))) ?_));refine q_do _ (fun _=>run_nil) (q_do _ (fun _=>run_fa for1) (q_at _ (fun _ hb=>orr_a (hr1 (ho.grow hb))) ?_));refine q_call (.int .i64 (Lx.skipI s a)) (fun W hb=>Ret.mono (skip_ret s a W (by omega)) fun v w' h=>⟨h.1,h.2▸hb⟩) ?_;intro w2 hb;have ho:=ho.grow hb;refine c_opmust (fun h=>?_) fun h=>hpan (of_decide_eq_false h) _ ho.done;rw[tk_v ho 0 rfl];refine tk_put 1 ho rfl fun w3 ho=>?_;exact ret_v1 (rv_cell (ho.agg 1 rfl aggTok)) (hret (of_decide_eq_true h) _ ho.done)
  have ho:=ho.drew;refine⟨fun W=>(orE b s a vl).is W,hr1 ho,?_⟩;refine hd_pure _ (fun _=>run_nil) (hd_pure _ (fun _=>run_fa for0) (hd_do _ (fun W h=>orr_s h) ?_));refine hd_pure _ (fun _=>run_nil) (hd_pure _ (fun _=>run_fa for1) (hd_do _ (fun W h=>orr_a h) ?_));refine⟨?_,?_⟩
  ·refine c_below ho (R:=fun v=>v=tokR (Lx.next s a)) (next_ret s a _ hs) ?_;rintro _ w2 rfl ho;refine hd_pure _ (fun _=>run_ext0) (hd_pure _ (fun _=>run_ext1) ?_);refine o_tok ho fun b3 w3 ho=>⟨hr1 ho,?_⟩;refine tk_put 0 ho rfl fun w4 ho=>?_;exact two ho
  ·refine o_tok ho fun b3 w3 ho=>⟨hr1 ho,?_⟩;refine c_below ho (R:=fun v=>v=tokR (Lx.next s a)) (next_ret s a _ hs) ?_;rintro _ w2 rfl ho;refine hd_pure _ (fun _=>run_ext0) (hd_pure _ (fun _=>run_ext1) ?_);refine tk_put 0 ho rfl fun w4 ho=>?_;exact two ho
 by_cases h:(Lx.next s a).2=0
 ·refine c_ret (R:=fun v w'=>v=tokV (Lx.next s a).1∧Below w.heap.size w w') (ret_of fun KE hKE=>S_ops_reader_peek_ok (body KE (fun _ w' hb=>hKE _ _ ⟨rfl,hb⟩) fun hn=>absurd h hn)) ?_;rintro _ w' ⟨rfl,hb⟩;exact kr h w' (ho.grow hb)
 ·refine c_pan (R:=fun c w'=>c=[fltP (Lx.skipI s a) (Lx.next s a).2]∧Below w.heap.size w w') (pan_of fun KE hKE=>S_ops_reader_peek_ok (body KE (fun hz=>absurd hz h) fun _ w' hb=>hKE _ _ ⟨rfl,hb⟩)) ?_;rintro _ w' ⟨rfl,hb⟩;exact kp h w' (ho.grow hb)
end
end
section
open Eng Go.RowKit
namespace Eng
section
variable {S:Nat→Prop}{P:Program}{w w0:World}{L:List Ent}{PK:PKT}{K:VWP}
theorem c_rmS {f:Nat}{args:Array Value}{e e':Ent}{M:Mem}{ok:Prop}{R:Value→Mem→Prop}{c:List PanicEntry}(A:List Ent){B:List Ent}(ho:OwnS S w0 w (A++(e::.mem M::B)))(h:(Ent.two e (.mem M)).is w→Lent P f args e M w ok e' R c)
  (kr:∀v N w',ok→M.le N→R v N→OwnS S w0 w' (A++(e'::.mem N::B))→K v w') (kp:∀e2 w',¬ok→OwnS S w0 w' (A++(e2::.mem M::B))→PK c w'):CallX P f args w PK K:=by
 have ho:OwnS S w0 w (A++([e,.mem M]++B)):=ho;have ho:OwnS S w0 w (.two e (.mem M)::(A++B)):=OwnS.pair ho.front;refine c_rm ho 0 rfl (h (ho.at_ 0 rfl)) (fun v N w' hk hle hR ho=>kr v N w' hk hle hR ?_) fun e2 w' hk ho=>kp e2 w' hk ?_
 ·have ho:OwnS S w0 w' (.two e' (.mem N)::(A++B)):=ho;have ho:OwnS S w0 w' ([e',.mem N]++(A++B)):=ho.split;exact ho.front
 ·have ho:OwnS S w0 w' (.two e2 (.mem M)::(A++B)):=ho;have ho:OwnS S w0 w' ([e2,.mem M]++(A++B)):=ho.split;exact ho.front
end
end Eng
theorem run_ext2o {a b c:Value}{w:World}:(mExt (.tuple #[a,b,c]) 2).run prog w=.ok (.value c) w:=by kernel_rfl
theorem run_ext0o {a b c:Value}{w:World}:(mExt (.tuple #[a,b,c]) 0).run prog w=.ok (.value a) w:=by kernel_rfl
theorem run_ext1o {a b c:Value}{w:World}:(mExt (.tuple #[a,b,c]) 1).run prog w=.ok (.value b) w:=by kernel_rfl
theorem run_notO {P:Program}{W:World}{b:Bool}:(mUn .not (.bool b)).run P W=.ok (.value (.bool (!b))) W:=mv_run (by simp[Op.unary])
def ObOk (s:List UInt8)(a:Int):Prop:=(Ps.object s a).2.2=0∧Cs.refers (Ps.object s a).1=false
def obBad (s:List UInt8)(a:Int):Int:=if (Ps.object s a).2.2≠0 then (Ps.object s a).2.2 else 3
theorem opobject_ret (b:Nat)(s:List UInt8)(a:Int)(vl:Value)(t:Lx.Tok)(M:Mem)(w:World)(hs:s.length≤1000000000)(hr:(Ent.two (orE b s a vl) (.mem M)).is w) :
  Lent prog 40 #[rdP b,tokV t] (orE b s a vl) M w (ObOk s a) (orE b s (Ps.object s a).2.1 vl) (fun v N=>OV N.A N.w v (Ps.object s a).1) [fltP t.a (obBad s a)]:=by
 refine lent_of (fun K ho hret hpan=>S_ops_reader_object_ok ?_) hr;unfold S_ops_reader_object;generalize (Ent.two (orE b s a vl) (.mem M)).blk=S0 at *;refine o_tkb t ho fun b3 w1 ho=>?_;refine o_oba ho fun b4 w2 ho=>?_;have hwt:(Ps.object s a).2.2=0→(Ps.object s a).1.wt≤10000000000:=fun h=>by
  have:=Ps.object_wt8 h;have:=Bd.object_bd h;have h0:0≤a:=by
   apply Classical.byContradiction;intro hn;unfold Ps.object at h;rw[if_pos (.inl (by omega))] at h;simp[Ps.bad] at h
  omega
 have zero:∀{W:World} {N:Mem} {b5:Nat} {xk xc:Value},OwnS S0 w W [obE b5 (Ps.object s a).1 xk xc,obE b4 ob0 nilS nilS,tokE b3 t,orE b s a vl,.mem N]→M.le N→OV N.A N.w (obV (Ps.object s a).1 xk xc) (Ps.object s a).1 →
   S_ops_reader_object_0 (rdP b) (.pointer (some ⟨b3,0,none⟩)) (.pointer (some ⟨b4,0,none⟩)) (.pointer (some ⟨b5,0,none⟩)) (.int .i64 (Ps.object s a).2.1) (.int .i64 (Ps.object s a).2.2) W K:=by
  intro W N b5 xk xc ho hle hv;unfold S_ops_reader_object_0;have hko:=hv.oneK;have hco:=hv.oneC;simp only[rs,fa_t1,tk_a ho 2 rfl];refine c_opmust (fun hz=>?_) fun hz=>?_
  rotate_left
  ·have hz:¬(Ps.object s a).2.2=0:=of_decide_eq_false hz;have:=hpan (fun h=>hz h.1) _ N W _ (ho.tail.tail.tail) hle;rw[obBad,if_pos hz] at this;exact this
  have hz:(Ps.object s a).2.2=0:=of_decide_eq_true hz;refine quiet (q_at (obV (Ps.object s a).1 xk xc) (fun W hb=>run_load_at ((ho.grow hb).agg 0 rfl aggOb)) ?_);refine q_call (.bool (Cs.refers (Ps.object s a).1)) (fun W2 hb=>ret_grew (oprefers_ret _ (Ps.object s a).1 _ W2 (Nat.le_refl _) (hwt hz) (OV.inw ((ho.grow hb).hasM 4 rfl) hv)) hb) ?_;refine q_do _ (fun _=>run_notO) (q_do _ (fun _=>run_fa ft1) (q_at (.int .i64 t.a) (fun W hb=>run_load_cell nInt5 ((ho.grow hb).cell 2 rfl 1 rfl)) ?_));intro w4 hb;have ho:=ho.grow hb;refine c_opmust (fun hf=>?_) fun hf=>?_
  rotate_left
  ·have hf:Cs.refers (Ps.object s a).1=true:=by simpa using hf
   have:=hpan (fun h=>by rw[h.2] at hf;cases hf) _ N w4 _ (ho.tail.tail.tail) hle;rw[obBad,if_neg (by simp[hz])] at this;exact this
  have hf:Cs.refers (Ps.object s a).1=false:=by simpa using hf
  rw[fa_or1];refine or_put 3 ho rfl fun w5 ho=>?_;have ho:OwnS S0 w w5 [obE b5 (Ps.object s a).1 xk xc,obE b4 ob0 nilS nilS,tokE b3 t,orE b s (Ps.object s a).2.1 vl,.mem N]:=ho;rw[ob_v ho 0 rfl];refine ob_put (o':=(Ps.object s a).1) 1 hko hco ho rfl fun w6 ho=>?_;have ho:OwnS S0 w w6 [obE b5 (Ps.object s a).1 xk xc,obE b4 (Ps.object s a).1 xk xc,tokE b3 t,orE b s (Ps.object s a).2.1 vl,.mem N]:=ho;exact ret_v1 (rv_cell (ho.agg 1 rfl aggOb)) (hret ⟨hz,hf⟩ _ N w6 _ (ho.tail.tail.tail) hle hv)
 have ho:=ho.drew;refine⟨fun W=>(orE b s a vl).is W,ho.at_ 2 rfl,?_⟩;refine hd_pure _ (fun _=>run_nil) (hd_pure _ (fun _=>run_fa for0) (hd_do _ (fun W h=>orr_s h) ?_));refine hd_pure _ (fun _=>run_nil) (hd_pure _ (fun _=>run_fa for1) (hd_do _ (fun W h=>orr_a h) ?_));refine⟨?_,?_⟩
 ·refine c_mem ho 3 rfl (psobject_ret s a hs M _ (ho.hasM 3 rfl)) fun v N w4 hle hR ho=>?_;obtain⟨u,rfl,hu⟩:=hR;obtain⟨xk,xc,xcs,rfl,hx⟩:=hu.open;refine hd_pure _ (fun _=>run_ext0o) (hd_pure _ (fun _=>run_ext1o) (hd_pure _ (fun _=>run_ext2o) ?_));refine o_oba ho fun b5 w5 ho=>⟨ho.at_ 3 rfl,?_⟩;refine ob_put 0 hx.keys.one hx.kids.one ho rfl fun w6 ho=>?_;exact zero ho hle hx.ov
 ·refine o_oba ho fun b5 w5 ho=>⟨ho.at_ 3 rfl,?_⟩;refine c_mem ho 4 rfl (psobject_ret s a hs M _ (ho.hasM 4 rfl)) fun v N w4 hle hR ho=>?_;obtain⟨u,rfl,hu⟩:=hR;obtain⟨xk,xc,xcs,rfl,hx⟩:=hu.open;refine hd_pure _ (fun _=>run_ext0o) (hd_pure _ (fun _=>run_ext1o) (hd_pure _ (fun _=>run_ext2o) ?_));refine ob_put 0 hx.keys.one hx.kids.one ho rfl fun w6 ho=>?_;exact zero ho hle hx.ov
theorem opwhite_ret (b:Nat)(s:List UInt8)(a:Int)(vl:Value)(x:Int)(w:World)(h0:0≤x)(hs:s.length≤1099511627776)(hr:(orE b s a vl).is w) :
  Ret prog 108 #[rdP b,.int .i64 x] w (fun v w'=>v=.bool (Cs.whiteAt s x)∧w=w'):=by
 refine ret_of fun K hK=>S_ops_reader_white_ok ?_;unfold S_ops_reader_white;have fin:∀{q:Bool},q=Cs.whiteAt s x→K (.returned (.bool q)) w:=fun e=>hK _ _ ⟨by rw[e],rfl⟩;unfold Cs.whiteAt at fin;rw[decide_eq_true h0,Bool.true_and] at fin;rw[m_nil,fa_or0,or_s hr,s_len Tryz.underlying9];simp only[rs];by_cases hx:x < (s.length:Int)
 ·have hi:x.toNat < s.length:=by omega
  simp only[decide_eq_true hx,rs,fa_or0,or_s hr];rw[s_ix (c:=s[x.toNat]) Tryz.underlying9 h0 (by simp[hi])];refine c_eq (white_ret s[x.toNat] w) ?_
  try simp only[rs]
  refine fin ?_;rw[List.getElem?_eq_getElem hi];rfl
 ·simp only[decide_eq_false hx,rs,g_un];refine fin ?_;rw[List.getElem?_eq_none (by omega)];rfl
end
end Go.Proofs.YtoofficgclghoaaGreatDoor
