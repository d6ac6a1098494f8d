/- A part of the proof. -/
import Derived.Test.YtpgcmnabljandaaGreatDoorPa30
import Derived.Test.YtpgcmnabljandaaGreatDoorPa21
import Derived.Test.YtpgcmnabljandaaGreatDoorPa18
set_option linter.unusedVariables false
set_option linter.unusedSimpArgs false
set_option maxRecDepth 100000
set_option maxHeartbeats 16000000
set_option linter.defProp false
attribute [local simp] Go.Abs.acells Go.Abs.fin Go.Abs.zh Go.Abs.ze Go.Abs.pl1 Go.Abs.plain Go.Abs.pl2 Go.Abs.AV.atom
section
namespace Go.Proofs.YtpgcmnabljandaaGreatDoor
open Go Go.Abs
theorem qaN {α:Type}{nm:α->Str}{l:List α}{i k:Nat}{x y:α}(hx:l[i]?=some x)(hy:l[k]?=some y)(hk:k<i)(h:nm x=nm y):Z3 nm l=true:=by
 obtain⟨hi,_⟩:=qqV.1 hx;unfold Z3;rw[qq2];refine⟨i,qrC.2 hi,?_⟩;unfold qhG;rw[hx,qq2];exact⟨y,qqW (by rw[qrL,if_pos hk];exact hy),by simp[h]⟩
theorem qaO {α:Type}{nm:α->Str}{l:List α}(h:∀ (i k:Nat) (x y:α),l[i]?=some x->l[k]?=some y->k<i->nm x≠nm y):Z3 nm l=false:=by
 unfold Z3;rw[qrx];intro i hi;unfold qhG;obtain⟨x,hx⟩:∃ x,l[i]?=some x:=⟨_,qq6 (qrC.1 hi)⟩;rw[hx];simp only[qq2,not_exists,not_and];intro y hy;obtain⟨k,hk⟩:=qr3 hy;rw[qrL]at hk;split at hk
 . rename_i hki;have:=h i k x y hx hk hki;simpa using this
 . cases hk
theorem qkb (x:Fld):PZ 172 [.agg (q8 x)] (.str x.name):=by
 refine Pure.k qg Tryz.func172 rfl (by kernel_rfl) ?_;simp
theorem qex (l:List Fld)(hl:Fits l):PZ 171 [.sl 5 (l.map q8) .none,.fn 172 [] []] (.bool (Z3 Fld.name l)):=by
 refine Pure.k qg Tryz.func171 rfl (by kernel_rfl) ?_;simp;refine qv.count l.length (fun i ev O=>ev 0=.sl 5 (l.map q8) .none/\ev 1=.fn 172 [] []/\ev 8=.int .i64 l.length/\ev 9=.int .i64 i/\O=⟨[],[]⟩/\∀ j k x y,j<i->l[j]?=some x->l[k]?=some y->k<j->x.name≠y.name) (by simp) ?_ ?_
 . rintro i ev O hi ⟨h0,h1,h8,h9,rfl,hz⟩;obtain⟨x,hx⟩:∃ x,l[i]?=some x:=⟨_,qq6 hi⟩;have hx':=(qqV.1 hx).2;simp[h0,h1,h8,h9,hi];refine qv.count i (fun k ev O=>ev 0=.sl 5 (l.map q8) .none/\ev 1=.fn 172 [] []/\ev 8=.int .i64 l.length/\ev 9=.int .i64 i/\ev 5=.int .i64 i/\ev 12=.int .i64 i/\ev 13=.int .i64 k/\O=⟨[],[]⟩/\∀ m y,m<k->l[m]?=some y->x.name≠y.name) (by simp[h0,h1,h8,h9]) ?_ ?_
   . clear h0 h1 h8 h9;rintro k ev O hk ⟨h0,h1,h8,h9,h5,h12,h13,rfl,hzk⟩;have hkl:k<l.length:=(by omega);obtain⟨y,hy⟩:∃ y,l[k]?=some y:=⟨_,qq6 hkl⟩;have hy':=(qqV.1 hy).2;simp[h0,h1,h5,h12,h13,hk,hi,hkl,hx',hy'];refine qd.call (qkb x) (by simp) ?_
     try simp[h0,h1,h5,h12,h13,hk,hi,hkl,hx',hy']
     refine qd.call (qkb y) (by simp) ?_;by_cases e:x.name=y.name
     . rw[qaN hx hy hk e];simp[e]
     . simp[e,h0,h1,h8,h9,h5,h12,h13];refine⟨wr (by omega) (by omega),fun m z hm hz'=>?_⟩;rcases qrs.1 hm with hm|rfl
       . exact hzk m z hm hz'
       . rw[hy]at hz';cases hz';exact e
   . clear h0 h1 h8 h9;rintro ev O ⟨h0,h1,h8,h9,h5,h12,h13,rfl,hzk⟩;simp[h0,h1,h8,h9,h5,h12,h13];refine⟨wr (by omega) (by omega),fun j k a b hj ha hb hk=>?_⟩;rcases qrs.1 hj with hj|rfl
     . exact hz j k a b hj ha hb hk
     . rw[hx]at ha;cases ha;exact hzk k b hk hb
 . rintro ev O ⟨h0,h1,h8,h9,rfl,hz⟩;rw[qaO (nm:=Fld.name) fun i k x y hx hy hk=>hz i k x y (qqV.1 hx).1 hx hy hk];simp[h8,h9]
theorem qka (x:Blc):PZ 174 [.agg (qR x)] (.str x.name):=by
 refine Pure.k qg Tryz.func174 rfl (by kernel_rfl) ?_;simp
theorem qew (l:List Blc)(hl:Fits l):PZ 173 [.sl 2 (l.map qR) .none,.fn 174 [] []] (.bool (Z3 Blc.name l)):=by
 refine Pure.k qg Tryz.func173 rfl (by kernel_rfl) ?_;simp;refine qv.count l.length (fun i ev O=>ev 0=.sl 2 (l.map qR) .none/\ev 1=.fn 174 [] []/\ev 8=.int .i64 l.length/\ev 9=.int .i64 i/\O=⟨[],[]⟩/\∀ j k x y,j<i->l[j]?=some x->l[k]?=some y->k<j->x.name≠y.name) (by simp) ?_ ?_
 . rintro i ev O hi ⟨h0,h1,h8,h9,rfl,hz⟩;obtain⟨x,hx⟩:∃ x,l[i]?=some x:=⟨_,qq6 hi⟩;have hx':=(qqV.1 hx).2;simp[h0,h1,h8,h9,hi];refine qv.count i (fun k ev O=>ev 0=.sl 2 (l.map qR) .none/\ev 1=.fn 174 [] []/\ev 8=.int .i64 l.length/\ev 9=.int .i64 i/\ev 5=.int .i64 i/\ev 12=.int .i64 i/\ev 13=.int .i64 k/\O=⟨[],[]⟩/\∀ m y,m<k->l[m]?=some y->x.name≠y.name) (by simp[h0,h1,h8,h9]) ?_ ?_
   . clear h0 h1 h8 h9;rintro k ev O hk ⟨h0,h1,h8,h9,h5,h12,h13,rfl,hzk⟩;have hkl:k<l.length:=(by omega);obtain⟨y,hy⟩:∃ y,l[k]?=some y:=⟨_,qq6 hkl⟩;have hy':=(qqV.1 hy).2;simp[h0,h1,h5,h12,h13,hk,hi,hkl,hx',hy'];refine qd.call (qka x) (by simp) ?_
     try simp[h0,h1,h5,h12,h13,hk,hi,hkl,hx',hy']
     refine qd.call (qka y) (by simp) ?_;by_cases e:x.name=y.name
     . rw[qaN hx hy hk e];simp[e]
     . simp[e,h0,h1,h8,h9,h5,h12,h13];refine⟨wr (by omega) (by omega),fun m z hm hz'=>?_⟩;rcases qrs.1 hm with hm|rfl
       . exact hzk m z hm hz'
       . rw[hy]at hz';cases hz';exact e
   . clear h0 h1 h8 h9;rintro ev O ⟨h0,h1,h8,h9,h5,h12,h13,rfl,hzk⟩;simp[h0,h1,h8,h9,h5,h12,h13];refine⟨wr (by omega) (by omega),fun j k a b hj ha hb hk=>?_⟩;rcases qrs.1 hj with hj|rfl
     . exact hz j k a b hj ha hb hk
     . rw[hx]at ha;cases ha;exact hzk k b hk hb
 . rintro ev O ⟨h0,h1,h8,h9,rfl,hz⟩;rw[qaO (nm:=Blc.name) fun i k x y hx hy hk=>hz i k x y (qqV.1 hx).1 hx hy hk];simp[h8,h9]
theorem qj9 (x:Cls):PZ 259 [.agg (qn x)] (.str x.name):=by
 refine Pure.k qg Tryz.func259 rfl (by kernel_rfl) ?_;simp
theorem qev (l:List Cls)(hl:Fits l):PZ 258 [.sl 4 (l.map qn) .none,.fn 259 [] []] (.bool (Z3 Cls.name l)):=by
 refine Pure.k qg Tryz.func258 rfl (by kernel_rfl) ?_;simp;refine qv.count l.length (fun i ev O=>ev 0=.sl 4 (l.map qn) .none/\ev 1=.fn 259 [] []/\ev 8=.int .i64 l.length/\ev 9=.int .i64 i/\O=⟨[],[]⟩/\∀ j k x y,j<i->l[j]?=some x->l[k]?=some y->k<j->x.name≠y.name) (by simp) ?_ ?_
 . rintro i ev O hi ⟨h0,h1,h8,h9,rfl,hz⟩;obtain⟨x,hx⟩:∃ x,l[i]?=some x:=⟨_,qq6 hi⟩;have hx':=(qqV.1 hx).2;simp[h0,h1,h8,h9,hi];refine qv.count i (fun k ev O=>ev 0=.sl 4 (l.map qn) .none/\ev 1=.fn 259 [] []/\ev 8=.int .i64 l.length/\ev 9=.int .i64 i/\ev 5=.int .i64 i/\ev 12=.int .i64 i/\ev 13=.int .i64 k/\O=⟨[],[]⟩/\∀ m y,m<k->l[m]?=some y->x.name≠y.name) (by simp[h0,h1,h8,h9]) ?_ ?_
   . clear h0 h1 h8 h9;rintro k ev O hk ⟨h0,h1,h8,h9,h5,h12,h13,rfl,hzk⟩;have hkl:k<l.length:=(by omega);obtain⟨y,hy⟩:∃ y,l[k]?=some y:=⟨_,qq6 hkl⟩;have hy':=(qqV.1 hy).2;simp[h0,h1,h5,h12,h13,hk,hi,hkl,hx',hy'];refine qd.call (qj9 x) (by simp) ?_
     try simp[h0,h1,h5,h12,h13,hk,hi,hkl,hx',hy']
     refine qd.call (qj9 y) (by simp) ?_;by_cases e:x.name=y.name
     . rw[qaN hx hy hk e];simp[e]
     . simp[e,h0,h1,h8,h9,h5,h12,h13];refine⟨wr (by omega) (by omega),fun m z hm hz'=>?_⟩;rcases qrs.1 hm with hm|rfl
       . exact hzk m z hm hz'
       . rw[hy]at hz';cases hz';exact e
   . clear h0 h1 h8 h9;rintro ev O ⟨h0,h1,h8,h9,h5,h12,h13,rfl,hzk⟩;simp[h0,h1,h8,h9,h5,h12,h13];refine⟨wr (by omega) (by omega),fun j k a b hj ha hb hk=>?_⟩;rcases qrs.1 hj with hj|rfl
     . exact hz j k a b hj ha hb hk
     . rw[hx]at ha;cases ha;exact hzk k b hk hb
 . rintro ev O ⟨h0,h1,h8,h9,rfl,hz⟩;rw[qaO (nm:=Cls.name) fun i k x y hx hy hk=>hz i k x y (qqV.1 hx).1 hx hy hk];simp[h8,h9]
theorem qoi {n:Nat}(h:n<=8):(2:Int) ^ n<=256/\(0:Int)<2 ^ n:=by
 have:n=0\/n=1\/n=2\/n=3\/n=4\/n=5\/n=6\/n=7\/n=8:=by omega
 rcases this with h|h|h|h|h|h|h|h|h<;>subst h<;>decide
theorem qaA (f:Fld):PZ 169 [.agg (q8 f)] (.int .i64 (yp f)):=by
 refine Pure.k qg Tryz.func169 rfl (by kernel_rfl) ?_;simp;refine qd.call (jH f.name) rfl ?_;have hr:yp f=if qO f.name=false then 7 else if f.width<1\/8<f.width\/f.size<0\/8<f.size then 1 else if f.mode≠0/\f.mode≠1/\f.mode≠2 then 1 else if f.size≠0/\f.mode=2 then 1 else if f.init<0\/qoe f<f.init then 1 else 0:=rfl
 have ht:qoe f=if f.mode=0 then 2 ^ f.width.toNat-1 else 0:=rfl
 generalize yp f=r at hr;generalize qoe f=t at hr ht;cases hn:qO f.name
 . rw[if_pos hn]at hr;subst hr;simp
 rw[if_neg (by rw[hn];decide)]at hr;by_cases hw:1<=f.width/\f.width<=8
 . have hs:IntKind.i64.wrap (2 ^ min f.width.toNat IntKind.i64.bits)=2 ^ f.width.toNat:=shl1 (by omega) (by omega);have hw0:¬ f.width<0:=(by omega);have w1:¬ f.width<1:=(by omega);have w8:¬ 8<f.width:=(by omega);have hp:=qoi (n:=f.width.toNat) (by omega);have hs2:IntKind.i64.wrap (2 ^ f.width.toNat-1)=2 ^ f.width.toNat-1:=wr (by omega) (by omega);simp[hs,hw0,w1,w8,hs2]
   repeat' first | (refine And.intro ?_ ?_) | (intro _)
   all_goals grind
 . by_cases w1:f.width<1
   . rw[if_pos (.inl w1)]at hr;subst hr;simp[w1]
   . have w8:8<f.width:=(by omega);rw[if_pos (.inr (.inl w8))]at hr;subst hr;simp[w1,w8]
theorem qho (b:Blc):PZ 170 [.agg (qR b)] (.bool (!qO b.name)):=by
 refine Pure.k qg Tryz.func170 rfl (by kernel_rfl) ?_;simp;refine qd.call (jH b.name) (by simp) ?_;simp
theorem ja {α:Type}{f:α->Int}{d r:List α}{v:α}(hz:∀ x∈d,f x=0)(hv:f v≠0):qh f (d++v::r)=f v:=by
 rw[qT,if_pos (qr.2 hz),qh,if_neg hv]
theorem zu {α:Type}{q:α->Prop}{d:List α}{v:α}(hz:∀ x∈d,q x)(hv:q v):∀ x∈d++[v],q x:=fun x hx=>by
 rcases qre.1 hx with h|h
 . exact hz x h
 . simp at h;rw[h];exact hv
theorem Wk {α:Type}{q:α->Prop}{d:List α}{v:α}(hz:∀ x∈d,q x)(hv:q v):∀ x,x∈d\/x=v->q x:=fun x hx=>by
 rcases hx with h|rfl
 . exact hz x h
 . exact hv
theorem qi7 (c:Cls)(hf:Fits c.fields)(hb:Fits c.blocks):PZ 99 [.agg (qn c)] (.int .i64 (ZX c)):=by
 refine Pure.k qg Tryz.func99 rfl (by kernel_rfl) ?_;have hr:ZX c=if qO c.name=false\/(c.parent≠[]/\qO c.parent=false) then 7 else if 16<c.fields.length\/16<c.blocks.length then 2
  else if qh yp c.fields≠0 then qh yp c.fields else if c.blocks.any (fun b=>!qO b.name)=true then 7 else if Z3 Fld.name c.fields=true\/Z3 Blc.name c.blocks=true then 8 else 0:=rfl
 generalize ZX c=r at hr;simp;refine qd.call (jH c.name) (by simp) ?_;cases hn:qO c.name
 . rw[if_pos (.inl hn)]at hr;subst hr;simp
 simp;refine⟨fun hp=>?a,fun hp=>?b⟩
 case' b=>rw[if_neg (by simp[hn,hp])]at hr
 case' a=>
  refine qd.call (jH c.parent) (by simp) ?_;cases hn2:qO c.parent
  . rw[if_pos (.inr ⟨hp,hn2⟩)]at hr;subst hr;simp
  rw[if_neg (by simp[hn,hn2])]at hr;simp
 all_goals
  repeat' first | (refine And.intro ?_ ?_) | (intro _)
 all_goals try (rw[if_pos (by omega)]at hr;exact hr.symm)
 all_goals
  rw[if_neg (by omega)]at hr;refine qv.list c.fields (fun d ev O=>ev 1=.ptr 0 0/\ev 34=.sl 5 (c.fields.map q8) .none/\ev 35=.int .i64 c.fields.length/\ev 36=.int .i64 d.length/\(∃ t,O=⟨.cells (qn c)::t,[]⟩)/\∀ f∈d,yp f=0) (by simp) ?_ ?_
  . rintro d v l ev O hd hv hlt ⟨h1,h34,h35,h36,⟨t,rfl⟩,hz⟩;have hv':=(qqV.1 hv).2;simp[h1,h34,h35,h36,hlt,hv'];refine qd.call (qaA v) (by simp) ?_;by_cases hf0:yp v=0
    . simp[hf0,h1,h34,h35,h36];exact⟨wr (by omega) (by omega),Wk hz hf0⟩
    . have e:qh yp c.fields=yp v:=(by rw[hd];exact ja hz hf0);rw[e,if_pos hf0]at hr;subst hr;simp[hf0]
  . rintro ev O ⟨h1,h34,h35,h36,⟨t,rfl⟩,hz⟩;rw[if_neg (by rw[qr.2 hz];simp)]at hr;simp[h1,h34,h35,h36];refine qd.call (Q0 GG c.blocks (fun b=>!qO b.name) 170 [] [] hb rfl rfl fun b _=>by simpa using qho b) (by simp) ?_;cases hb0:c.blocks.any (fun b=>!qO b.name)
    . rw[if_neg (by rw[hb0];simp)]at hr;simp[h1];refine qd.call (qex c.fields hf) (by simp) ?_;cases hr1:Z3 Fld.name c.fields
      . simp[h1];refine qd.call (qew c.blocks hb) (by simp) ?_;cases hr2:Z3 Blc.name c.blocks
        . rw[if_neg (by simp[hr1,hr2])]at hr;subst hr;simp
        . rw[if_pos (.inr hr2)]at hr;subst hr;simp
      . rw[if_pos (.inl hr1)]at hr;subst hr;simp
    . rw[if_pos hb0]at hr;subst hr;simp
theorem qe6 {α:Type}{p:α->Bool}{d r:List α}{v:α}(hz:∀ x∈d,p x=false)(hv:p v=true):(d++v::r).find? p=some v:=by
 rw[qte,qsT.2 fun x hx=>by rw[hz x hx];simp];simp[hv]
theorem qbt {α:Type}{p:α->Bool}{d:List α}(hz:∀ x∈d,p x=false):d.find? p=none:=qsT.2 fun x hx=>by rw[hz x hx];simp
@[simp]theorem zCls_name:Z7.name=[]:=rfl
@[simp]theorem qoV:Z7.parent=[]:=rfl
@[simp]theorem qoW:Z7.fields=[]:=rfl
@[simp]theorem qoX:Z7.blocks=[]:=rfl
@[simp]theorem qqx:qn Z7=[.str [],.str [],.sl 5 [] .none,.sl 2 [] .none]:=rfl
theorem qe9 (src:List Cls)(hl:Fits src)(name:Str):PZ 119 [.sl 4 (src.map qn) .none,.str name] (.tup [.agg (qn (yo src name)),.bool (yI src name).isSome]):=by
 refine Pure.k qg Tryz.func119 rfl (by kernel_rfl) ?_;simp;refine qv.list src (fun d ev O=>ev 1=.str name/\ev 4=.ptr 0 0/\ev 8=.sl 4 (src.map qn) .none/\ev 9=.int .i64 src.length/\ev 10=.int .i64 d.length/\(∃ t,O=⟨.cells [.str [],.str [],.sl 0 [] .nil,.sl 0 [] .nil]::t,[]⟩)/\∀ x∈d,¬ x.name=name) (by simp) ?_ ?_
 . rintro d v r ev O hd hv hlt ⟨h1,h4,h8,h9,h10,⟨t,rfl⟩,hz⟩;have hv':=(qqV.1 hv).2;simp[h1,h4,h8,h9,h10,hlt,hv'];by_cases hn:v.name=name
   . have e:yI src name=some v:=(by rw[hd];exact qe6 (fun x hx=>by simpa using hz x hx) (by simp[hn]));simp[hn,h1,h4,yo,e]
   . simp[hn,h1,h4,h8,h9,h10];exact⟨wr (by omega) (by omega),Wk hz hn⟩
 . rintro ev O ⟨h1,h4,h8,h9,h10,⟨t,rfl⟩,hz⟩;have e:yI src name=none:=qbt fun x hx=>by simpa using hz x hx
   simp[h4,h9,h10,yo,e]
def vC {α:Type}(sz:Nat)(en:α->List AV)(pre:List α)(c:α):AV:=match pre with
 | []=>.sl sz [en c] .tight
 | a::r=>.sl sz ((a::r++[c]).map en) (.chain 0 (r.length+1))
def vl {α:Type}(pre:List α):List (Option Nat):=match pre with
 | []=>[]
 | _::r=>[some (r.length+1)]
theorem W6 (src:List Cls)(hl:src.length<=1000)(c0:Cls):PZ 120 [.sl 4 (src.map qn) .none,.agg (qn c0)] (.tup [.sl 4 ((j4 src c0).map qn) .none,.bool (yE src src.length c0).isSome]):=by
 refine Pure.k qg Tryz.func120 rfl (by kernel_rfl) ?_;simp;refine qv.gen (fun n ev O=>∃ pre c,pre.length<=src.length/\n=src.length-pre.length/\ev 0=.sl 4 (src.map qn) .none/\ev 3=.ptr 0 0/\ev 6=vC 4 qn pre c/\(∃ t,O=⟨.cells (qn c)::t,vl pre⟩)/\yE src src.length c0=(yE src n c).map (pre++·)) src.length ?_ ?_
 . exact⟨[],c0,by simp,by simp,by simp,by simp,by simp[vC],⟨[],by simp[vl]⟩,by simp⟩
 rintro n ev O R hR ⟨pre,c,hp,rfl,h0,h3,h6,⟨t,rfl⟩,ha⟩;by_cases hc:c.parent=[]
 . have e:yE src src.length c0=some (pre++[c]):=by
    rw[ha];cases src.length-pre.length<;>simp[yE,hc]
   have e2:j4 src c0=pre++[c]:=(by unfold j4;rw[e];rfl);rw[e,e2]
   cases pre with
   | nil=>simp only[vC]at h6;simp[h3,hc,h6]
   | cons a r=>simp only[vC]at h6;simp[h3,hc,h6,zd]
 . by_cases hs:pre.length=src.length
   . have e:yE src src.length c0=none:=(by rw[ha,hs,qsP];simp[yE,hc]);have e2:j4 src c0=[]:=(by unfold j4;rw[e];rfl);rw[e,e2]
     cases pre with
     | nil=>
      have hs0:src=[]:=qrQ.1 (by simpa using hs.symm);subst hs0;simp only[vC]at h6;simp[h0,h3,hc,h6]
     | cons a r=>
      have hs':src.length=r.length+1:=(by simpa using hs.symm);have hg:(r.length:Int)+1<r.length+1+1:=(by omega);simp only[vC]at h6;simp[h0,h3,hc,h6,hs',hg]
   . obtain⟨f,hf⟩:∃ f,src.length-pre.length=f+1:=⟨src.length-pre.length-1,by omega⟩;have ha':yE src src.length c0=(yE src f (yo src c.parent)).map ((pre++[c])++·):=by
      rw[ha,hf,yE,if_neg hc,Option.map_map];congr 1;funext x;simp
     have hfind:=qe9 src (by omega) c.parent;have hR:=hR f
     cases pre with
     | nil=>
      have hg:¬ (src.length:Int)<1:=(by simp at hs;omega);simp only[vC]at h6;simp[h0,h3,hc,h6,hg];refine qd.call hfind (by simp) ?_;simp[h0,h3,h6,qt];refine hR _ _ (by omega) ⟨[c],yo src c.parent,?pa,?pb,?pc,?pd,?pe,⟨?w,?pf⟩,ha'⟩
      case pf=>simp[vl];try rfl
      case pa=>simp at hp hs ⊢;omega
      case pb=>simp at hf ⊢;omega
      case pc=>simp[h0]
      case pd=>simp[h3]
      case pe=>simp[vC,vl]
     | cons a r=>
      have hg:¬ (src.length:Int)<(r.length:Int)+1+1:=(by simp at hp hs;omega);have hb:r.length+1+1+1<=1073741824:=(by simp at hp;omega);simp only[vC]at h6;simp[h0,h3,hc,h6,hg];refine qd.call hfind (by simp) ?_;simp[h0,h3,h6,qt,vl,hb];refine hR _ _ (by omega) ⟨a::r++[c],yo src c.parent,?pa,?pb,?pc,?pd,?pe,⟨?w,?pf⟩,ha'⟩
      case pf=>simp[vl];try rfl
      case pa=>simp at hp hs ⊢;omega
      case pb=>simp at hf ⊢;omega
      case pc=>simp[h0]
      case pd=>simp[h3]
      case pe=>simp[vC,vl]
end Go.Proofs.YtpgcmnabljandaaGreatDoor
end
