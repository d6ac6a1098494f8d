import Derived.Test.YtimecmegnocamaaGreatDoorPq04
import Derived.Deep.AppendSrc
import Derived.Lib.AppendZerosOnto
import Derived.Test.YtimecmegnocamaaGreatDoorPq05
import Derived.RangeFuncRecord
import Derived.Sort.LoopGhostIn
set_option linter.all false
set_option linter.defProp false
namespace Go.Abs
open Go Go.RowKit
section
variable {P:Program}{G:Nat->AV}{w0:World}{ro0:Nat->Nat->Option Value}{K:Kn}{U:St}{w w':World}{N:Nat}{env:Env}{a:Act}
def Jn(t tx ty e el)(i:TypeInfo)(ht:P.underlying t=some (.slice e))(hi:P.info? e=some i)(b sLen sCap cur)(hg:w.heap[b]?=some (.cells cur el (0,0)))
 (x n news) (hs:Src P i.size tx x n news w) (hroom:sLen+n<=sCap) (hfit:sLen*i.size+news.length<=cur.size):
 (Builtin.append_ #[t,tx] ty #[.slice (some ⟨b,0,none⟩) sLen sCap,x]).run P w=.ok (.slice (some ⟨b,0,none⟩) (sLen+n) sCap)
   (w.setRow b (cur.toList.take (sLen*i.size)++news++cur.toList.drop (sLen*i.size+news.length)).toArray):=by
 have hst:=run_storeCells_at P b (sLen*i.size) el news 0 cur w hg (by simpa using hfit) hs.one;simp only[qCy]at hst;rcases hs.kind with⟨e',hk⟩|hk<;>simp[Builtin.append_,run_underlying ht,run_underlying hk,sizeOf,typeInfo,hi,hs.len,hroom,hs.cells,Addr.add_lit,hst]
def qjm(h:WRel G w0 ro0 K U w){j:TI}{x:AV}{x':Value}(hx:qk K x x'){n:Nat}{src:List AV}(hf:Kc U j x=some (n,src))(hn:n≠0){u e':Nat}(hu:P.underlying u=some (.slice e')){size:Nat}(hsz:j.size=size):
 ∃news,ql K src news/\src.all AV.atom=true/\Src P size u x' n news w/\src.length=n*size:=by
 unfold Kc at hf;split at hf
 . rename_i sz rows tok;split at hf
   . rename_i hc;simp only[qBg,qBh]at hf;obtain⟨rfl,rfl⟩:=hf;have hne:rows≠[]:=fun e=>hn (by simp[e])
     have hsz':sz=size:=(hc.resolve_right hne).trans hsz;subst hsz';simp only[qk]at hx;rcases hx with⟨_,h2,_⟩|⟨B,off,cap,rfl,hcap,hrows,_⟩
     . exact absurd h2 hne
     obtain⟨vs,g1,g2,g3,g4,g5⟩:=wR h hrows;exact⟨vs,g1,g4,Src.ofSlice w hu _ _ _ vs g2 g3 g5,by rw[<- g1.length,g2]⟩
   cases hf
 . rename_i b off len sz;split at hf
   . rename_i hsz1;have hsz':sz=size:=hsz1.trans hsz;subst hsz';split at hf
     . rename_i c hb;obtain⟨s,hs,he⟩:=qA2.1 hf;simp only[qBh]at he;obtain⟨rfl,rfl⟩:=he;unfold cut at hs;split at hs
       . rename_i hl;simp only[qBg]at hs;subst hs;simp only[qk]at hx;obtain⟨B,cap,hm,rfl,hcap,hpos,hbs⟩:=hx;obtain⟨vs,l1,l2⟩:=qiC.of_blk h hb hm off (len*sz) hl;obtain⟨B',g1,g2,g3,⟨cs,el,g4,g5,g6,g7⟩,g8⟩:=h.blk b _ hb;have hat:((c.drop off).take (len*sz)).all AV.atom=true:=by
          rw[qA3]at g5⊢;exact fun x hx=>g5 x (qCp (qBH hx))
         have hlen:((c.drop off).take (len*sz)).length=len*sz:=(by simp;omega);exact⟨vs,l1,hat,Src.ofSlice w hu _ _ _ vs (by rw[l1.length,hlen]) (fun j v e=>by rw[jx];exact l2 j v e) (l1.oneCells hat),hlen⟩
       cases hs
     cases hf
   cases hf
 cases hf
def WRel.again(h:WRel G w0 ro0 K U w){b B c b'}(hb:U.H[b]?=some (.cells c))(hm:K.m b=some B)(hos:w'.os=w.os)(htape:w'.tape=w.tape)(hout:w'.output=w.output)
 (hsz:w'.heap.size=w.heap.size) (hother:∀k,k≠B->w'.heap[k]?=w.heap[k]?) (hb':ym K b' w'.heap[B]?) (hbs:∀cs el fr,w'.heap[B]?=some (.cells cs el fr)->cs.size=K.bs b)
 (hwas:∀cs el fr,w'.heap[B]?=some (.cells cs el fr)->∃cs0 el0 fr0,w.heap[B]?=some (.cells cs0 el0 fr0)):
 K.le (K.addM U.H.length B (K.bs b))/\WRel G w0 ro0 (K.addM U.H.length B (K.bs b)) {U with H:=U.H.set b .dead++[b']} w':=by
 have hbl:b<U.H.length:=(qAU.1 hb).1;have hle:=qFC h B (K.bs b);have h1:=h.setBlk (b':=.dead) hbl hm hos htape hout hsz hother (by simp[ym]) (by rw[hb];simp) hbs hwas;have hlen:(U.H.set b .dead).length=U.H.length:=by simp
 have alone:∀i,K.m i=some B->(U.H.set b Blk.dead)[i]?=some Blk.dead:=by
  intro i hi;by_cases hib:i=b
  . subst hib;simp[hbl]
  rw[qAX (Ne.symm hib)];rcases h.inj i b B hi hm with h2|h2|h2
  . exact absurd h2 hib
  . exact h2
  rw[hb]at h2;cases h2
 refine⟨hle,⟨h1.below,fun g=>(h1.glob g).mono (JT hle),h1.ro,h1.new,?_,?_,?_,?_,h1.chd,h1.chinj,?_,?_,?_,?_⟩⟩
 . intro i b2 e;simp only[qBO]at e;split at e
   . rename_i hi;obtain⟨B2,g1,g2,g3,g4,g5⟩:=h1.blk i b2 e;exact⟨B2,hle.m _ _ g1,g2,g3,g4.mono hle,g5⟩
   rename_i hi;have hi':i=U.H.length:=by
    rcases qEI (i-(U.H.set b .dead).length) 1 with h2|h2
    . omega
    simp[qBs (l:=[b']) (by simpa using h2)]at e
   subst hi';simp at e;subst e;obtain⟨B0,g1,g2,g3,g4,g5⟩:=h.blk b _ hb;rw[hm]at g1;cases g1;exact⟨B,by simp[Kn.addM],g2,by omega,hb'.mono hle,g5⟩
 . intro i j B2 e1 e2;simp only[Kn.addM]at e1 e2;have left:∀{i},(U.H.set b Blk.dead)[i]?=some Blk.dead->(U.H.set b Blk.dead++[b'])[i]?=some Blk.dead:=fun {i} hi=>by
    rw[qBa (qAU.1 hi).1];exact hi
   split at e1<;>split at e2
   . left;omega
   . simp at e1;subst e1;exact .inr (.inr (left (alone j e2)))
   . simp at e2;subst e2;exact .inr (.inl (left (alone i e1)))
   exact(h1.inj i j B2 e1 e2).imp_right (Or.imp left left)
 . intro i B2 e;simp only[Kn.addM]at e;simp only[qAY,qCj,qBo];split at e
   . omega
   have:=h.mlt i B2 e;omega
 . intro t k e;obtain⟨C,g1,g2,g3,g4,g5,g6,g7⟩:=h1.ch t k e;refine⟨C,g1,g2,g3,g4,g5,g6,fun i e2=>?_⟩;simp only[Kn.addM]at e2;split at e2
   . simp at e2;exact g7 b (by rw[hm,e2])
   exact g7 i e2
 . exact h1.nch
 . intro i B2 cs el fr e1 e2;simp only[Kn.addM]at e1⊢;split at e1
   . rename_i hi;simp at e1;subst e1;simp[hi];exact h1.bsz b B cs el fr hm e2
   rename_i hi;simp only[hi,if_false];exact h1.bsz i B2 cs el fr e1 e2
 . intro B2 x e;obtain⟨g1,g2,g3,g4⟩:=h1.fx B2 x e;refine⟨g1,g2,fun i e2=>?_,g4⟩;simp only[Kn.addM]at e2;split at e2
   . simp at e2;exact g3 b (by rw[hm,e2])
   exact g3 i e2
 intro n x e;have:=h.rwl n x e;simp only[qAY,qCj,qBo];omega
def qaF(h:WRel G w0 ro0 K U w){content:List AV}{vs:List Value}(hv:ql K content vs)(hat:content.all AV.atom=true){z:Array Value}{len cap sz e:Nat}(hz:z.size=sz)(hsz:0<sz)(hlen:vs.length=len*sz)(hcap:len<=cap)(h0:0<len):
 ∃K',K.le K'/\WRel G w0 ro0 K' (U.push (.cells content)) (w.alloc (.cells (vs.toArray++Builtin.zeroCells z (cap-len)) e))/\qk K' (.ms U.H.length 0 len sz) (.slice (some ⟨w.heap.size,0,none⟩) len cap):=by
 have hsize:(vs.toArray++Builtin.zeroCells z (cap-len)).size=cap*sz:=by
  simp only[Array.size_append,qD4,size_zeroCells,hz,hlen,<- qBW];congr 1;omega
 refine⟨_,qFC h _ _,h.push (o:=.cells (vs.toArray++Builtin.zeroCells z (cap-len)) e) ⟨_,e,rfl,hat,?_,fun i a ea=>?_⟩,?_⟩
 . rw[hsize,<- hv.length,hlen];exact qBU _ hcap
 . obtain⟨v,e1,e2⟩:=hv.get i a ea;have hil:i<vs.length:=(qAU.1 e1).1;exact⟨v,by rw[qDM (by simpa using hil)];simpa using e1,e2⟩
 simp only[qk];exact⟨w.heap.size,cap,by simp[Kn.addM],rfl,hcap,by omega,by simp only[Kn.addM,if_true,j9,hsize];omega⟩
def qbk(h:WRel G w0 ro0 K U w){t u:Nat}{s x v:AV}{s' x':Value}(hs:qk K s s')(hx:qk K x x')(ty:Nat){U':St}(hf:ja (Dof P) U t u s x=some (v,U')):
 Ran P G w0 ro0 K w (Builtin.append_ #[t,u] ty #[s',x']) v U':=by
 unfold ja at hf;split at hf
 case h_2=>cases hf
 rename_i i hD;obtain⟨inf,d,z,hi,hu,_,rfl⟩:=qH hD;simp only at hf;split at hf
 case h_2=>cases hf
 rename_i e hd;have hd':=QZ hd;subst hd';split at hf
 case h_2=>cases hf
 rename_i j hj;obtain⟨inf2,d2,z2,hi2,hu2,hz2,rfl⟩:=qH hj;simp only at hf;split at hf
 case isFalse=>cases hf
 rename_i hc;obtain⟨hc3,hc4,hc5⟩:=hc;have hzs:z2.cells.size=inf2.size:=by simpa using hc4
 have bound:∀m:Nat,m<=549755813888->m*inf2.bytes<=140737488355328:=fun m hm=>by
  calc m*inf2.bytes<=549755813888*256:=qCQ hm hc5
   _<=140737488355328:=by omega
 split at hf
 . -- zeros
   rename_i kn hkn;obtain⟨du,hdu,hdu2⟩:=jD hkn (by simp);have:=JW hdu2;subst this;split at hf
   case h_2=>cases hf
   rename_i sz0 k n;split at hf
   case isFalse=>cases hf
   rename_i hn;obtain⟨n0,n1,n2⟩:=hn;simp only[qBg,qBh]at hf;obtain⟨rfl,rfl⟩:=hf;simp only[qk]at hx;subst hx;have hs0:s'=.slice none 0 0:=by
    simp only[qk]at hs;rcases hs with⟨⟨a0,hs1,ha0⟩,_⟩|⟨B,off,cap,g1,g2,g3,g4⟩
    . rw[hs1,ha0.resolve_right (by simp)]
    simp[wn]at g4
   subst hs0;obtain⟨m,rfl⟩:=qBe (Int.le_of_lt n0);have hm0:0<m:=(by omega);have hm1:m<=549755813888:=(by omega);have hr:=Lib.run_append_nil_zeros (P:=P) w t u ty e inf2 z2 k kn hu hdu hi2 hz2 m hm0 hc3 (by omega) (by have:=bound m hm1;omega);have hge:=grownCap_ge w m 0 e;have hzr:=YS (K:=K) (z:=z2) (n:=m) (by omega);have hzl:((Array.range (m*z2.cells.size)).map (z2.cells[· % z2.cells.size]!)).toList.length=m*inf2.size:=(by simp[hzs]);obtain⟨K',k1,k2,k3⟩:=qaF (e:=e) h.drew hzr (by
    rw[qA3];intro x hx;obtain⟨l,hl1,hl2⟩:=qBv.1 hx;rw[(qCL.1 hl1).2]at hl2;rw[qA3]at n2;exact n2 x hl2) hzs hc3 hzl hge hm0
   refine⟨_,_,K',hr,k1,?_,?_⟩
   . simp only[qC9]at k2;exact k2
   simpa using k3
 . -- a slice
   rename_i eu heu;obtain⟨du,hdu,hdu2⟩:=jD heu (by simp);have:=QZ hdu2;subst this;split at hf
   case h_2=>cases hf
   rename_i n src hsrc;split at hf
   . cases hf
   rename_i hn;obtain⟨news,n1,n2,n3,n4⟩:=qjm (P:=P) (u:=u) (size:=inf2.size) h hx hsrc hn hdu rfl;have nl:news.length=n*inf2.size:=n3.newsLen;have fromNil:∀(total:Nat),total=n->n<=549755813888->s'=.slice none 0 0->Ran P G w0 ro0 K w (Builtin.append_ #[t,u] ty #[s',x']) (.ms U.H.length 0 total inf2.size) (U.push (.cells src)):=by
    intro total ht hb hs0;subst ht;subst hs0;have hr:=run_append_grow_src (P:=P) w t u ty e inf2 z2 hu hi2 hz2 none 0 0 [] (by simpa using run_firstCells_none (P:=P) w.drew inf2.size 0 0 0) x' total news n3 (by omega) (by omega) (growslice_fits (by omega) (by have:=bound total hb;simpa using this));have hge:=grownCap_ge w total 0 e;obtain⟨K',k1,k2,k3⟩:=qaF (e:=e) h.drew n1 n2 hzs hc3 nl hge (by omega);simp only[qCC,qBk]at hr;exact⟨_,_,K',hr,k1,k2,by simpa using k3⟩
   have qeA:∀(rows:Nat) (content:List AV) (olds:List Value) (base:Addr),ql K content olds->content.all AV.atom=true->olds.length=rows*inf2.size->(∀j v,olds[j]?=some v->w.cell? (base.add j)=some v)->rows+n<=549755813888->∀cap,cap<rows+n ->
    ∃ K',K.le K'/\WRel G w0 ro0 K' (U.push (.cells (content++src))) (w.drew.alloc (.cells ((olds++news).toArray++Builtin.zeroCells z2.cells (grownCap w (rows+n) cap e-(rows+n))) e)) /\
     qk K' (.ms U.H.length 0 (rows+n) inf2.size) (.slice (some ⟨w.heap.size,0,none⟩) (rows+n) (grownCap w (rows+n) cap e)) /\
     (Builtin.append_ #[t,u] ty #[.slice (some base) rows cap,x']).run P w=.ok (.slice (some ⟨w.heap.size,0,none⟩) (rows+n) (grownCap w (rows+n) cap e))
       (w.drew.alloc (.cells ((olds++news).toArray++Builtin.zeroCells z2.cells (grownCap w (rows+n) cap e-(rows+n))) e)):=by
    intro rows content olds base o1 o2 o3 o4 hb cap hcap;have hr:=run_append_grow_src (P:=P) w t u ty e inf2 z2 hu hi2 hz2 (some base) rows cap olds (run_firstCells_some w.drew inf2.size rows base rows cap olds o3 (by simpa using o4)) x' n news n3 hcap (by omega) (growslice_fits (by omega) (bound _ hb));have hge:=grownCap_ge w (rows+n) cap e;obtain⟨K',k1,k2,k3⟩:=qaF (e:=e) h.drew (o1.append n1) (by rw[qCx,o2,n2];rfl) hzs hc3 (by rw[qAY,o3,nl,qBW]) hge (by omega);exact⟨K',k1,k2,by simpa using k3,hr⟩
   split at hf
   . rename_i sz rows tok;split at hf
     . -- nil
       split at hf
       case isFalse=>cases hf
       rename_i hb;simp only[qBg,qBh]at hf;obtain⟨rfl,rfl⟩:=hf;simp only[qk]at hs;rcases hs with⟨⟨a0,h1,ha0⟩,rfl,_⟩|⟨B,off,cap,g1,g2,g3,g4⟩
       . rw[ha0.resolve_right (by simp)]at h1;simpa using fromNil (0+n) (by omega) (by simpa using hb) h1
       simp[wn]at g4
     . -- no spare room
       split at hf
       case isFalse=>cases hf
       rename_i hb;obtain⟨hszr,hb⟩:=hb;simp only[qBg,qBh]at hf;obtain⟨rfl,rfl⟩:=hf;simp only[qk]at hs;rcases hs with⟨⟨a0,h1,ha0⟩,rfl,_⟩|⟨B,off,cap,rfl,hcap,hrows,htok⟩
       . rw[ha0.resolve_right (by simp)]at h1;simpa using fromNil (0+n) (by omega) (by simpa using hb) h1
       simp only[wn]at htok;subst htok;obtain⟨olds,o1,o2,o3,o4,o5⟩:=wR h hrows;have o2':olds.length=rows.length*inf2.size:=by
        rcases hszr with rfl|hr0
        . exact o2
        subst hr0;simpa using o2
       obtain⟨K',k1,k2,k3,k4⟩:=qeA rows.length rows.flatten olds ⟨B,off,none⟩ o1 o4 o2' o3 hb rows.length (by omega);exact⟨_,_,K',k4,k1,k2,k3⟩
     cases hf
   . rename_i b off len sz;split at hf
     case h_2=>cases hf
     rename_i c hb;split at hf
     case isFalse=>cases hf
     rename_i hcd;obtain⟨rfl,rfl,hb1,hb2⟩:=hcd;simp only[qBg,qBh]at hf;obtain⟨rfl,rfl⟩:=hf;simp only[qk]at hs;obtain⟨B,cap,hm,rfl,hcap,hpos,hbs⟩:=hs;obtain⟨B',g1,g2,g3,⟨cs,el,g4,g5,g6,g7⟩,g8⟩:=h.blk b _ hb;rw[hm]at g1;cases g1;have hcs:cs.size=K.bs b:=h.bsz b B cs el _ hm g4;obtain⟨olds,l1,l2⟩:=qiC.of_blk h hb hm 0 (len*inf2.size) (by omega);simp only[qBZ,qCC]at l1 l2;have hat:(c.take (len*inf2.size)).all AV.atom=true:=by
      rw[qA3]at g5⊢;exact fun x hx=>g5 x (qBH hx)
     have ol:olds.length=len*inf2.size:=(by rw[l1.length];simp;omega);by_cases hroom:len+n<=cap
     . have hmul:(len+n)*inf2.size<=cap*inf2.size:=qBU _ hroom;rw[qBW]at hmul;have hr:=Jn (P:=P) (w:=w) t u ty e el inf2 hu hi2 B len cap cs g4 x' n news n3 hroom (by rw[nl,hcs];omega);have hbk:ym K (.cells (c.take (len*inf2.size)++src)) (w.setRow B (cs.toList.take (len*inf2.size)++news++cs.toList.drop (len*inf2.size+news.length)).toArray).heap[B]?:=by
        refine⟨_,el,setRow_heap w B cs _ el _ g4,by rw[qCx,hat,n2];rfl,?_,fun i a ea=>?_⟩
        . simp[n4,nl];omega
        rw[qBO]at ea;simp only[qDk];split at ea
        . rename_i hil;simp only[qBG]at hil;rw[qBY]at ea;split at ea
          . obtain⟨v,e1,e2⟩:=g7 i a ea;refine⟨v,?_,e2⟩;rw[qBE,qBa (by simp;omega),qBY,if_pos (by omega)];simpa using e1
          cases ea
        rename_i hil;simp only[qBG]at hil ea;obtain⟨v,e1,e2⟩:=n1.get _ _ ea;refine⟨v,?_,e2⟩;have hvl:=(qAU.1 e1).1;rw[qBE,qA4 (by simp;omega),qBa (by simp;omega)];simp only[qBG,qCs];rw[show min (len*inf2.size) cs.size=min (len*inf2.size) c.length by omega];exact e1
       obtain⟨q1,q2⟩:=h.again (b':=.cells (c.take (len*inf2.size)++src)) hb hm (w':=w.setRow B (cs.toList.take (len*inf2.size)++news++cs.toList.drop (len*inf2.size+news.length)).toArray) rfl rfl rfl (by simp[World.setRow]) (fun k hk=>setRow_other w B k _ hk) hbk
        (fun cs2 el2 fr2 e2=>by
          rw[setRow_heap w B cs _ el _ g4]at e2;cases e2;rw[<- hcs];simp[nl];omega) (fun _ _ _ _=>⟨cs,el,_,g4⟩)
       refine⟨_,_,_,hr,q1,q2,?_⟩;simp only[qk];exact⟨B,cap,by simp[Kn.addM],rfl,hroom,hpos,by simp only[Kn.addM,if_true];omega⟩
     obtain⟨K',k1,k2,k3,k4⟩:=qeA len (c.take (len*inf2.size)) olds ⟨B,0,none⟩ l1 hat ol (fun j v e=>by rw[jx];simpa using l2 j v e) hb1 cap (by omega);have hbl:b<U.H.length:=(qAU.1 hb).1;have hd:=h.drew.setBlk (w':=w.drew) (b':=.dead) hbl hm rfl rfl rfl rfl (fun _ _=>rfl) (by simp[ym]) (by rw[hb];simp) (fun cs2 el2 fr2 e2=>h.drew.bsz b B cs2 el2 fr2 hm e2) (fun cs2 el2 fr2 e2=>⟨cs2,el2,fr2,e2⟩);have hge:=grownCap_ge w (len+n) cap e;obtain⟨K2,j1,j2,j3⟩:=qaF (e:=e) hd (l1.append n1) (by rw[qCx,hat,n2];rfl) hzs hc3 (by rw[qAY,ol,nl,qBW]) hge (by omega);refine⟨_,_,K2,k4,j1,?_,?_⟩
     . simpa[St.push] using j2
     simpa using j3
   cases hf
 cases hf
def qbj(h:WRel G w0 ro0 K U w){t u:Nat}{s x v:AV}{s' x':Value}(hs:qk K s s')(hx:qk K x x')(ty:Nat){U':St}(hf:zx (Dof P) U t u s x=some (v,U')):
 Ran P G w0 ro0 K w (Builtin.append_ #[t,u] ty #[s',x']) v U':=by
 unfold zx at hf;split at hf
 . rename_i p hp;simp only[qBg]at hf;subst hf;exact qbk h hs hx ty hp
 split at hf
 case h_2=>cases hf
 rename_i b off len sz sz' tok;split at hf
 case h_2=>cases hf
 rename_i e eu he heu;split at hf
 case h_2=>cases hf
 rename_i j hj;simp only[qBg,qBh]at hf;obtain⟨rfl,rfl⟩:=hf;obtain⟨d1,hu,hd1⟩:=jD he (by simp);have:=QZ hd1;subst this;obtain⟨d2,hu2,hd2⟩:=jD heu (by simp);have:=QZ hd2;subst this;obtain⟨inf2,d3,z2,hi2,hu3,hz2,rfl⟩:=qH hj;refine qFJ h (v':=s') ?_ hs;have hx0:∃bx cx,x'=.slice bx 0 cx:=by
  simp only[qk]at hx;rcases hx with⟨⟨a0,rfl,_⟩,_⟩|⟨B2,off2,cap2,rfl,_⟩
  . exact⟨_,_,rfl⟩
  exact⟨_,_,rfl⟩
 obtain⟨bx,cx,rfl⟩:=hx0;have hf0:(Builtin.firstCells inf2.size 0 (.slice bx 0 cx)).run P w=.ok #[] w:=by
  cases bx<;>simp[Builtin.firstCells,loadCells,loadCellsFrom]
 simp only[qk]at hs;obtain⟨B,cap,hm,rfl,hcap,hpos,hbs⟩:=hs;simp[Builtin.append_,run_underlying hu,run_underlying hu2,sizeOf,typeInfo,hi2,Builtin.lenOf,hcap,hf0,storeCells]
def qlG(h:WRel G w0 ro0 K U w){t:Nat}{x v:AV}{x':Value}(hx:qk K x x')(ty:Nat)(hf:qtQ (Dof P) t x=some v):∃v',(Builtin.cap_ #[t] ty #[x']).run P w=.ok v' w/\qk K v v':=by
 unfold qtQ at hf;split at hf
 case h_2=>cases hf
 rename_i i hD;obtain⟨inf,d,z,hi,hu,_,rfl⟩:=qH hD;simp only at hf;split at hf
 . rename_i e sz hd;have:=QZ hd;subst this;cases hf;simp only[qk]at hx;rcases hx with⟨⟨a0,rfl,ha0⟩,_⟩|⟨B,off,cap,g1,g2,g3,g4⟩
   . obtain rfl:=ha0.resolve_right (by simp);exact⟨goInt 0,by simp[Builtin.cap_,run_underlying hu],by simp[qk,goInt]⟩
   simp[wn]at g4
 cases hf
def qjU(h:WRel G w0 ro0 K U w){sz m x x'}(hx:qk K x x'){src}(hf:qpE U sz m x=some src)(hm0:m≠0):
 ∃news,ql K src news/\src.all AV.atom=true/\(Builtin.firstCells sz m x').run P w=.ok news.toArray w/\src.length=m*sz:=by
 unfold qpE at hf;split at hf
 . rename_i s rows tok;split at hf
   case isFalse=>cases hf
   rename_i hc;obtain⟨rfl,hml⟩:=hc;simp only[qBg]at hf;subst hf;simp only[qk]at hx;rcases hx with⟨_,h2,_⟩|⟨B,off,cap,rfl,hcap,hrows,_⟩
   . subst h2;simp only[qB8,Nat.le_zero]at hml;exact absurd hml hm0
   have hs:=hrows.sub 0 m;simp only[qCK,qCy,qBZ]at hs;obtain⟨vs,g1,g2,g3,g4,g5⟩:=wR h hs;have hl:(rows.take m).length=m:=(by simp;omega);rw[hl]at g2;exact⟨vs,g1,g4,run_firstCells_some w s m _ _ _ vs g2 g3,by rw[<- g2,g1.length]⟩
 . rename_i b off len s;split at hf
   case isFalse=>cases hf
   rename_i hc;obtain⟨rfl,hml⟩:=hc;split at hf
   . rename_i c hb;unfold cut at hf;split at hf
     . rename_i hl;simp only[qBg]at hf;subst hf;simp only[qk]at hx;obtain⟨B,cap,hm,rfl,hcap,hpos,hbs⟩:=hx;obtain⟨vs,l1,l2⟩:=qiC.of_blk h hb hm off (m*s) hl;obtain⟨B',g1,g2,g3,⟨cs,el,g4,g5,g6,g7⟩,g8⟩:=h.blk b _ hb;have hat:((c.drop off).take (m*s)).all AV.atom=true:=by
        rw[qA3]at g5⊢;exact fun x hx=>g5 x (qCp (qBH hx))
       have hlen:((c.drop off).take (m*s)).length=m*s:=(by simp;omega);exact⟨vs,l1,hat,run_firstCells_some w s m _ _ _ vs (by have:=l1.length;omega) (fun j v e=>by rw[jx];exact l2 j v e),hlen⟩
     cases hf
   cases hf
 cases hf
def qge{x x'}(hx:qk K x x'){n}(hf:qbu x=some n):∃b cap,x'=.slice b n cap:=by
 unfold qbu at hf;split at hf
 . rename_i sz rows tok;cases hf;simp only[qk]at hx;rcases hx with⟨⟨a0,rfl,_⟩,rfl,_⟩|⟨B,off,cap,rfl,_⟩
   . exact⟨_,_,rfl⟩
   exact⟨_,_,rfl⟩
 . cases hf;simp only[qk]at hx;obtain⟨B,cap,hm,rfl,_⟩:=hx;exact⟨_,_,rfl⟩
 cases hf
def qim(h:WRel G w0 ro0 K U w){t u:Nat}{d s v:AV}{d' s':Value}(hd:qk K d d')(hs:qk K s s')(ty:Nat){U':St}(hf:kq (Dof P) U t d s=some (v,U')):
 Ran P G w0 ro0 K w (Builtin.copy_ #[t,u] ty #[d',s']) v U':=by
 unfold kq at hf;split at hf
 case h_2=>cases hf
 rename_i i dl n hD hdl hn;obtain⟨inf,dd,z,hi,hu,_,rfl⟩:=qH hD;simp only at hf;split at hf
 case h_2=>cases hf
 rename_i e hde;have:=QZ hde;subst this;split at hf
 case h_2=>cases hf
 rename_i j hj;obtain⟨inf2,d2,z2,hi2,hu2,hz2,rfl⟩:=qH hj;obtain⟨db,dcap,rfl⟩:=qge hd hdl;obtain⟨sb,scap,rfl⟩:=qge hs hn;split at hf
 . rename_i h0;simp only[qBg,qBh]at hf;obtain⟨rfl,rfl⟩:=hf;refine qFJ h (v':=.int .i64 0) ?_ (by simp[qk]);have h0':Nat.min n dl=0:=h0;have hf0:(Builtin.firstCells inf2.size 0 (.slice sb n scap)).run P w=.ok #[] w:=by
    cases sb<;>simp[Builtin.firstCells,loadCells,loadCellsFrom]
   cases db<;>simp[Builtin.copy_,run_underlying hu,sizeOf,typeInfo,hi2,Builtin.lenOf,h0',hf0,storeCells,goInt]
 rename_i h0;split at hf
 case h_2=>cases hf
 rename_i b off len sz;simp only[qbu,qBg]at hdl;subst hdl;simp only at hf;split at hf
 case isFalse=>cases hf
 rename_i hsz;subst hsz;split at hf
 case h_2=>cases hf
 rename_i src c hsrc hb;split at hf
 case isFalse=>cases hf
 rename_i hroom;simp only[qBg,qBh]at hf;obtain⟨rfl,rfl⟩:=hf;obtain⟨news,n1,n2,n3,n4⟩:=qjU (P:=P) h hs hsrc h0;simp only[qk]at hd;obtain⟨B,cap,hm,hdv,hcap,hpos,hbs⟩:=hd;cases hdv;obtain⟨B',g1,g2,g3,⟨cs,el,g4,g5,g6,g7⟩,g8⟩:=h.blk b _ hb;rw[hm]at g1;cases g1;have hbl:b<U.H.length:=(qAU.1 hb).1;have hcs:cs.size=K.bs b:=h.bsz b B cs el _ hm g4;have hnl:news.length=min n len*inf2.size:=by have:=n1.length;omega
 have hone:∀u∈news,u.oneCell'=true:=n1.oneCells n2;have hst:=run_storeCells_at P B off el news 0 cs w g4 (by simp only[qCy];rw[hnl];omega) hone;simp only[qCy]at hst;have hmin:Nat.min n len=min n len:=rfl;refine⟨.int .i64 (min n len:Nat),w.setRow B (cs.toList.take off++news++cs.toList.drop (off+news.length)).toArray,K,?_,qFG K,
  h.setBlk (B:=B) (b':=.cells (zA c off src)) (w':=w.setRow B (cs.toList.take off++news++cs.toList.drop (off+news.length)).toArray) hbl hm rfl rfl rfl (by simp[World.setRow]) (fun k hk=>setRow_other w B k _ hk) ?_ (by rw[hb];simp)
   (fun cs2 el2 fr2 e2=>by
     rw[setRow_heap w B cs _ el _ g4]at e2;cases e2;rw[<- hcs];simp[hnl];omega) (fun _ _ _ _=>⟨cs,el,_,g4⟩),by simp[qk]⟩
 . simp[Builtin.copy_,run_underlying hu,sizeOf,typeInfo,hi2,Builtin.lenOf,hmin,n3,hst,goInt]
 refine⟨_,el,setRow_heap w B cs _ el _ g4,putAt_all _ _ _ g5 n2,by simp[Qa,hnl];omega,fun i a ea=>?_⟩;rw[wS _ _ _ _ (by rw[n4];omega)]at ea;simp only[qDk];split at ea
 . rename_i hin;obtain⟨v,e1,e2⟩:=n1.get _ _ ea;refine⟨v,?_,e2⟩;rw[qBE,qA4 (by simp;omega),qBa (by rw[hnl];simp;omega)];simp only[qBG,qCs];rw[show min off cs.size=off by omega];exact e1
 rename_i hin;obtain⟨v,e1,e2⟩:=g7 i a ea;refine⟨v,?_,e2⟩;by_cases hlo:i<off
 . rw[qBE,qBa (by simp;omega),qBY,if_pos hlo];simpa using e1
 rw[qBE,qA4 (by simp;omega),qA4 (by rw[hnl];simp;omega),qBM];simp only[qBG,qCs];rw[n4]at hin;rw[hnl,show off+min n len*inf2.size+(i-min off cs.size-min n len*inf2.size)=i by omega];simpa using e1
def qkj(hw:WRel G w0 ro0 K U w){t l c l' c'}(hl:qk K l l')(hc:qk K c c'){mu L}(hf:mkX (Dof P) mu U t l c=some L):
 ∃v U',(v,U')∈L/\Ran P G w0 ro0 K w (Instr.makeSlice t l' c') v U':=by
 unfold mkX at hf;split at hf
 case h_2=>cases hf
 rename_i k1 k2;split at hf
 case h_2=>cases hf
 rename_i sz tok U' hms;cases hf;refine⟨_,_,qBD.2 rfl,?_⟩;obtain⟨v',w',K',r1,r2,r3,r4⟩:=Qg (P:=P) hw hl hc hms;simp only[qk]at hl hc;subst hl hc;have hv:(∃b,v'=.slice b 0 0/\b.isSome=true)/\¬tok.plain:=by
  unfold qG at hms;split at hms
  case h_2=>cases hms
  rename_i i ln cn hD hln hcn;obtain⟨inf,d,z,hi,hu,_,rfl⟩:=qH hD;cases hln;cases hcn;simp only at hms;split at hms
  case h_2=>cases hms
  rename_i e hd;have hd':=QZ hd;subst hd';split at hms
  case h_2=>cases hms
  rename_i j hj;obtain⟨inf2,d2,z2,hi2,hu2,hz2,rfl⟩:=qH hj;simp only[Instr.makeSlice,Sem.run_bind,run_underlying hu,Result.andThen_ok]at r1;have hwz:IntKind.i64.wrap 0=0:=by decide
  simp[asInt,asIntOf,typeInfo,hi2,hwz,askRoom,sizeOf,zeroValue,hz2,newRow,roomBytes]at r1;refine⟨⟨_,r1.1.symm,rfl⟩,?_⟩;split at hms
  . simp at hms;rw[<- hms.1.2];simp[Tok.plain]
  cases hms
 obtain⟨⟨b,rfl,hb⟩,htk⟩:=hv;refine⟨_,_,_,r1,r2,r3,?_⟩;obtain⟨a,rfl⟩:=qDV.1 hb;simp only[qk]at r4⊢;rcases r4 with⟨⟨a0,h1,ha0⟩,h2,h3⟩|⟨B,off,cap,h1,h2,h3,h4⟩
 . exact absurd h3 htk
 simp at h1;exact .inr ⟨B,off,0,by simp[h1],by simp,h3,by simp[wn]⟩
def Vl(hw:WRel G w0 ro0 K U w)(he:ERel K N env a){mu}(o){l}(h:qb8 (Dof P) G mu env U o.op=some l):
 ∃v U',(v,U')∈l/\Did P G w0 ro0 K w (execOp a.eval o) v U':=by
 have ex:=Z4 hw he;obtain⟨dst,op,type,pos,after,guard⟩:=o;simp only at h;cases op<;>simp only[qb8]at h<;>try(cases h;done)
 case makeSlice t x y=>
  obtain⟨v,U',h1,h2⟩:=qkj (P:=P) hw (ex x) (ex y) h;exact⟨v,U',h1,qFK h2⟩
 case binOp o t x y u=>
  cases o<;>simp only at h<;>try(cases h;done)
  . obtain⟨v,U',h1,rfl,h2⟩:=J3 (P:=P) hw (ex x) (ex y) h x y;exact⟨v,U',h1,qFL hw h2⟩
  obtain⟨v,U',h1,rfl,h2⟩:=J3 (P:=P) hw (ex x) (ex y) h x y;exact⟨v,U',h1,qFL hw h2⟩
 case call c=>
  obtain⟨callee,args,ts⟩:=c;cases callee<;>simp only at h<;>try(cases h;done)
  rename_i b;split at h
  . rename_i t u s x hts hargs;cases mu
    . cases h
    simp only at h;obtain⟨p,hp,rfl⟩:=qA2.1 h;obtain⟨v,U'⟩:=p;obtain⟨v',w',K',r1,r2,r3,r4⟩:=qbj hw (ex s) (ex x) type hp;have eargs:args.map a.eval = #[a.eval s,a.eval x]:=(by apply Array.ext';simp[hargs]);have ets:ts = #[t,u]:=(by apply Array.ext';simpa using hts);exact⟨v,U',qBD.2 rfl,v',w',K',.inl (by simp[execOp,resolve,invoke,builtin,eargs,ets,r1]),r2,r3,r4⟩
  . rename_i t x hts hargs;obtain⟨v,hp,rfl⟩:=qA2.1 h;obtain⟨v',r1,r2⟩:=qlG hw (ex x) type hp;have eargs:args.map a.eval = #[a.eval x]:=(by apply Array.ext';simp[hargs]);have ets:ts = #[t]:=(by apply Array.ext';simpa using hts);exact⟨v,U,qBD.2 rfl,v',w,K,.inl (by simp[execOp,resolve,invoke,builtin,eargs,ets,r1]),qFG K,hw,r2⟩
  . rename_i t u d s hts hargs;obtain⟨p,hp,rfl⟩:=qA2.1 h;obtain⟨v,U'⟩:=p;obtain⟨v',w',K',r1,r2,r3,r4⟩:=qim (u:=u) hw (ex d) (ex s) type hp;have eargs:args.map a.eval = #[a.eval d,a.eval s]:=(by apply Array.ext';simp[hargs]);have ets:ts = #[t,u]:=(by apply Array.ext';simpa using hts);exact⟨v,U',qBD.2 rfl,v',w',K',.inl (by simp[execOp,resolve,invoke,builtin,eargs,ets,r1]),r2,r3,r4⟩
  cases h
end
def jy(ops:Array Oper)(env:Env)(o:Oper):Option Bool :=
 match o.guard with
 |none=>some true
 | some (j,b)=>match(ops[j]?).bind (·.dst) with
  | some t=>match env t with
   |.bool c=>some (c==b)
   |.tup []=>some false
   |_=>none
  |none=>some false
def ke(first args cap:List AV):List AV:=first++args++cap
def OpA(P:Program)(G:Nat->AV)(o:Oper)(env:Env)(U:St)(v:AV)(U':St):Prop :=
 sem (Dof P) G env U o.op=some (v,U') \/
 ∃f args ts g first cap,o.op=.call {callee:=.value f,args:=args,argTypes:=ts}/\ev G env f=.fn g first cap/\Q6 P G g (ke first (qbs G env args.toList) cap) U v/\U'=U
def wM(P:Program)(G:Nat->AV)(ops:Array Oper)(o:Oper)(env:Env)(U:St)(v:AV)(U':St):Prop :=
 (jy ops env o=some false/\v=.tup []/\U'=U)\/(jy ops env o=some true/\OpA P G o env U v U')
section
variable {P:Program}{G:Nat->AV}{N:Nat}{env:Env}{U U':St}{w0:World}{ro0:Nat->Nat->Option Value}{K:Kn}{a:Act}{w:World}{ops:Array Oper}{o:Oper}{v:AV}
def yV(he:ERel K N env a){b}(hj:∀j,o.guard=some (j,true)\/o.guard=some (j,false)->∀t,(ops[j]?).bind (·.dst)=some t->t<N)(h:jy ops env o=some b):
 Region.wanted o (yielded ops a.tmps)=b:=by
 unfold jy at h;unfold Region.wanted;split at h
 . rename_i hg;simp at h;subst h;simp[hg]
 rename_i j c hg;simp only[hg];split at h
 . rename_i t ht;have htN:=hj j (by cases c<;>simp[hg]) t ht;have hv:=he.val t;have hsz:t<a.tmps.size:=(by rwa[he.size]);simp only[yielded,ht,Option.bind_some];split at h
   . rename_i x hx;simp at h;subst h;rw[hx]at hv;simp at hv;have:a.tmps[t]?=some (.bool x):=by
      rw[qEE hsz];simp[hsz]at hv;rw[hv]
     simp only[this];cases x<;>cases c<;>rfl
   . rename_i hx;simp at h;subst h;rw[hx]at hv;simp at hv;obtain⟨vs,hv1,hv2⟩:=hv;have:a.tmps[t]?=some (.tuple vs):=by
      rw[qEE hsz];simp[hsz]at hv1;rw[hv1]
     simp only[this];rfl
   cases h
 rename_i ht;simp at h;subst h;simp[yielded,ht]
def Wl(hw:WRel G w0 ro0 K U w)(he:ERel K N env a){f args ts g first cap}(ho:o.op=.call {callee:=.value f,args:=args,argTypes:=ts})
 (hf:ev G env f=.fn g first cap) (hb:bodied P g=true):
 ∃vs:Array Value,(execOp a.eval o).run P w=.ok (.enter g vs) w/\ql K (ke first (qbs G env args.toList) cap) vs.toList:=by
 have hv:=Z4 hw he f;rw[hf]at hv;simp only[qk]at hv;obtain⟨va,vb,e1,h1,h2⟩:=hv;refine⟨va++args.map a.eval++vb,?_,?_⟩
 . cases hg:P.funcs[g]? with
   |none=>simp[bodied,hg]at hb
   | some fn=>
    simp[bodied,hg]at hb;obtain⟨b1,b2⟩:=hb;simp[execOp,ho,resolve,e1,Deferred.ofValue,invoke,callFunc,hg,b2,show ¬fn.body=none by intro e;simp[e]at b1]
 have:=QK hw he args.toList;simp only[ke,Array.toList_append,Array.toList_map];exact(h1.append this).append h2
def Act.put_defers'{a:Act}{d:Option Tmp}{v}:(a.put d v).defers=a.defers:=by
 unfold Act.put;split<;>rfl
def qFh:=@Act.put_defers'
def qrM(hw:WRel G w0 ro0 K U w)(he:ERel K N env a)(hd:∀d,o.dst=some d->d<N)(h:OpA P G o env U v U'){next Q}
 (hn:∀K' a' w',K.le K'->WRel G w0 ro0 K' U' w'->ERel K' N (upd env o.dst v) a'->a'.defers=a.defers->next a' w'):o.wp P a w next Q:=by
 rcases h with h|⟨f,args,ts,g,first,cap,ho,hf,hp,rfl⟩
 . obtain⟨v',w',K',hr,h1,h2,h3⟩:=Kg hw he o h;unfold Oper.wp;rcases hr with hr|⟨hr,rfl⟩
   . rw[hr];exact hn K' _ w' h1 h2 ((he.mono h1).put hd h3) qFh
   rw[hr];exact hn K' _ w' h1 h2 ((he.mono h1).put hd h3) qFh
 obtain⟨vs,hr,hvs⟩:=Wl hw he ho hf hp.bodied;unfold Oper.wp;rw[hr,Oper.upon_enter];refine(quN hw hp hvs).mono ?_;rintro e w' ⟨v',K',rfl,h1,h2,h3⟩;exact hn K' _ w' h1 h2 ((he.mono h1).put hd h3) qFh
def vZ(N:Nat)(ops:Array Oper):Bool:=ops.toList.all fun o=>match o.dst with|some d=>decide (d<N)|none=>true
def ZF{N ops}(h:vZ N ops=true){o}(ho:o∈ops.toList):∀d,o.dst=some d->d<N:=by
 intro d hd;have:=qA3.1 h o ho;simpa[hd] using this
def Ze{N ops}(h:vZ N ops=true)(o:Oper):∀j,o.guard=some (j,true)\/o.guard=some (j,false)->∀t,(ops[j]?).bind (·.dst)=some t->t<N:=by
 intro j _ t ht;obtain⟨o',h1,h2⟩:=qCw.1 ht;exact ZF h (qAV (by simpa using h1)) t h2
def JD(args:List AV):Env:=fun t=>args.getD t (.tup [])
def qfF(D:Nat->Option TI)(rs:List ResultVar)(env:Env)(U:St):Option (List AV) :=
 match rs with
 |[]=>some []
 |.tmp t::r=>(qfF D r env U).map (env t::·)
 | .cell x t::r=>match kD D U t (env x),qfF D r env U with
  |some v,some l=>some (v::l)
  |_,_=>none
def Vf:List AV->AV
 |[v]=>v
 |l=>.tup l
def qcg(a:Act):ResultVar->Sem Value
 |.tmp t=>pure (a.tmps.getD t undef)
 |.cell x t=>do loadVar t (<- asAddr (a.tmps.getD x undef))
def Zg(hw:WRel G w0 ro0 K U w)(he:ERel K N env a):∀(rs:List ResultVar) (l),qfF (Dof P) rs env U=some l ->
 ∃vs:List Value,(rs.mapM (qcg a)).run P w=.ok vs w/\ql K l vs
 |[],l,h=>by simp[qfF]at h;subst h;exact⟨[],by simp,by simp[ql]⟩
 | .tmp t::r,l,h=>by
  simp only[qfF]at h;obtain⟨l',hl',rfl⟩:=qA2.1 h;obtain⟨vs,h1,h2⟩:=Zg hw he r l' hl';refine⟨a.tmps.getD t undef::vs,?_,by simp only[ql];exact⟨_,_,rfl,he.val t,h2⟩⟩;rw[qE4,Sem.run_bind];simp only[qcg,pure,Sem.run,Result.andThen_ok,Sem.run_bind,h1]
 | .cell x t::r,l,h=>by
  simp only[qfF]at h;split at h
  . rename_i v l' hv hl';simp only[qBg]at h;subst h;obtain⟨vs,h1,h2⟩:=Zg hw he r l' hl';obtain⟨v',r1,r2⟩:=qcG hw (he.val x) hv;have hx:=he.val x;have hptr:∃ad,a.tmps.getD x undef=.pointer (some ad):=by
     cases hxx:env x<;>rw[hxx]at hx hv<;>simp only[qk]at hx<;>first
      |(obtain⟨B,_,e⟩:=hx;exact⟨_,e⟩)
      |(obtain⟨B,o,e,_⟩:=hx;exact⟨_,e⟩)
      |(unfold kD at hv;split at hv<;>simp_all)
    obtain⟨ad,had⟩:=hptr;refine⟨v'::vs,?_,by simp only[ql];exact⟨_,_,rfl,r2,h2⟩⟩;rw[had]at r1;simp only[Instr.loadAt,Instr.sureAddr,pure,Sem.run_bind,Sem.run,Result.andThen_ok]at r1;rw[qE4,Sem.run_bind];simp only[qcg,had,asAddr,pure,Sem.run,Result.andThen_ok,Sem.run_bind,r1,h1]
  cases h
def Ki(hw:WRel G w0 ro0 K U w)(he:ERel K N env a){fn l}(h:qfF (Dof P) fn.results.toList env U=some l):
 ∃v,(results fn a.tmps).run P w=.ok v w/\qk K (Vf l) v:=by
 obtain⟨vs,h1,h2⟩:=Zg hw he _ _ h;have hrun:(fn.results.mapM (qcg a)).run P w=.ok vs.toArray w:=by
  rw[Array.mapM_eq_mapM_toList];simp[h1]
 have hres:results fn a.tmps=(fn.results.mapM (qcg a)).bind fun vs=>Sem.pure (if h:vs.size=1 then vs[0] else .tuple vs):=by
  unfold results;congr 2
 have hlen:=h2.length
 cases l with
 | nil=>
  simp only[ql]at h2;subst h2;refine⟨.tuple #[],?_,by simp only[Vf,qk];exact⟨#[],rfl,by simp[ql]⟩⟩;rw[hres,Sem.run_bind',hrun];rfl
 | cons x r=>
  cases r with
  | nil=>
   simp only[ql]at h2;obtain⟨v,vr,rfl,g1,rfl⟩:=h2;refine⟨v,?_,g1⟩;rw[hres,Sem.run_bind',hrun];rfl
  | cons y r=>
   refine⟨.tuple vs.toArray,?_,by simp only[Vf,qk];exact⟨_,rfl,by simpa using h2⟩⟩;rw[hres,Sem.run_bind',hrun];have:¬vs.toArray.size=1:=by simp at hlen⊢;omega
   simp only[Result.andThen_ok,dif_neg this,Sem.run]
def ERel.enter{args vs n}(hvs:ql K args vs.toList)(hn:args.length<=n):
 ERel K n (JD args) {tmps:=vs++Array.replicate (n-vs.size) undef,defers:=[]}:=by
 have hlen:=hvs.length;simp at hlen;refine⟨by simp;omega,fun t=>?_⟩;simp only[JD];by_cases ht:t<vs.size
 . have h1:args[t]?=some args[t]:=qAW (by omega);obtain⟨v,e1,e2⟩:=hvs.get t _ h1;simp only[qA8,h1,qDI]
   rwa[qEu,qDM ht,show vs[t]?=some v by simpa using e1]
 have h1:args[t]?=none:=qBs (by omega);simp only[qA8,h1,Option.getD_none];rw[qEu,Array.getElem?_append_right (by omega)];have:(Array.replicate (n-vs.size) undef)[t-vs.size]?.getD undef=undef:=by
  rw[Array.getElem?_replicate];split<;>rfl
 rw[this];exact⟨#[],rfl,by simp[ql]⟩
def Qi{u:FrameMode}(hu:u≠.run){fn R tmps f0}:∀(Ds:List Nat) (K) (w),WRel G w0 ro0 K U w->Ds.Nodup->(∀D∈Ds,K.fx D=some (.deferred (some []))/\f0 D=none) ->
 (∀B o,f0 B=some o->K.fx B=some o) ->
 (∀(w'),WRel G w0 ro0 (K.withFx f0) U w'->LeavesIn Fence.wide 0 P fn tmps R [] u w')->LeavesInM Fence.wide 0 P fn tmps R (Ds.map qwQ) u w
 |[],K,w,hw,_,_,hf,h=>h w (hw.unfix hf)
 | D::Ds,K,w,hw,hn,hD,hf,h=>by
  obtain⟨d1,d2⟩:=hD D (by simp);obtain⟨b1,_⟩:=hw.fx D _ d1;have hw1:=hw.refix d1 (by intros;intro e;cases e) (.deferred none);refine⟨hu,.inl ⟨D,_,rfl,run_takeDeferred b1,?_⟩⟩;refine Qi hu Ds _ _ hw1 (qDA.1 hn).2 (fun D' hD'=>?_) (fun B o e=>?_) h
  . have hne:¬D'=D:=fun e=>(qDA.1 hn).1 (e▸hD')
    simp only[Kn.withFx,if_neg hne];exact hD D' (by simp[hD'])
  have hne:¬B=D:=fun e'=>by subst e';rw[d2]at e;cases e
  simp only[Kn.withFx,if_neg hne];exact hf B o e
def Yc{G:Glo}{f:FuncId}{fn:Func}{c:Code}{vs:Array Value}{R:Ending->World->Prop}{Q:Exit->Env->St->Prop}(hf:P.funcs[f]?=some fn)(hb:fn.body=some c)
 (h:c.wp P (JU G w0 ro0 K fn.ntmps [] Q) {tmps:=vs++Array.replicate (fn.ntmps-vs.size) undef,defers:=[]} w)
 (hR:∀e K' env U a w',K.le K'->WRel G w0 ro0 K' U w'->ERel K' fn.ntmps env a->Q e env U->(e=.ret\/e=.normal)/\∃v,(results fn a.tmps).run P w'=.ok v w'/\R (.returned v) w')
 (hX:∀c K' U w',K.le K'->WRel G w0 ro0 K' U w'->G.X c U->R (.panicked c) w'):Calls P f vs w R:=by
 refine(callsIn_wide (n:=0)).1 (callsIn_of_wp_marks hf hb trivial (wpIn_mono (wpIn_wide.2 h) ?_));rintro e a w' (⟨K',env,U',h1,h2,h3,⟨Ds,n1,n2,n3⟩,hq⟩|⟨c,K',U',rfl,h1,h2,⟨Ds,n1,n2,n3⟩,hq⟩)
 . have he:=(hR e K' env U' a w' h1 h2 h3 hq).1;have key:LeavesInM Fence.wide 0 P fn a.tmps R a.defers .returning w':=by
    rw[n2,qBC];refine Qi (by simp) (G:=G) (w0:=w0) (ro0:=ro0) (U:=U') (f0:=K.fx) Ds K' w' h2 n1 (fun D hD=>⟨(n3 D hD).2,(n3 D hD).1⟩) h1.fx fun w'' hw''=>?_
    exact(hR e _ env U' a w'' (qFB (K:=K) (f:=K.fx) h1 fun _ _ e=>e) hw'' (h3.refx K.fx) hq).2
   rcases he with rfl|rfl
   . exact key
   exact key
 show LeavesInM Fence.wide 0 P fn a.tmps R a.defers (.panicking c) w';rw[n2,qBC];refine Qi (by simp) (G:=G) (w0:=w0) (ro0:=ro0) (U:=U') (f0:=K.fx) Ds K' w' h2 n1 (fun D hD=>⟨(n3 D hD).2,(n3 D hD).1⟩) h1.fx fun w'' hw''=>?_
 exact hX c _ U' w'' (qFB (K:=K) (f:=K.fx) h1 fun _ _ e=>e) hw'' hq
def Pure.of_body {G} (hX : G.NoX) {f fn c args r} (hf : P.funcs[f]? = some fn) (hb : fn.body = some c) (hnm : fn.name ≠ "runtime.NumGoroutine") (hn : args.length ≤ fn.ntmps)
 (h:AWp P G fn.ntmps c (JD args) ⟨[],[]⟩ (fun e env U=>(e=.ret\/e=.normal)/\∃l,qfF (Dof P) fn.results.toList env U=some l/\((qO (fin U.H (Vf l))=true/\Leq (fin U.H (Vf l)) r)\/(qO (frz U.H 8 (Vf l))=true/\Leq (frz U.H 8 (Vf l)) r)))):Pure P G f args r:=by
 refine⟨by simp[*,bodied],?_⟩;intro w0 ro vs hg hro hvs;have hw:WRel G w0 ro (K0 ro) ⟨[],[]⟩ w0:=⟨Below.refl _ _,hg,hro,fun b o v e _=>e,by simp,fun _ _ _ e=>by simp[K0]at e,fun _ _ e=>by simp[K0]at e,by simp,fun _ _ e=>by simp[K0]at e,
  fun _ _ _ _ e=>by simp[K0]at e,rfl,fun _ _ _ _ _ e=>by simp[K0]at e,fun _ _ e=>by simp[K0]at e,fun _ _ e=>by simp[K0]at e⟩
 have he:=ERel.enter hvs hn;refine Yc hf hb (h w0 ro (K0 ro) _ w0 hw he) ?_ fun c _ U _ _ _ hc=>(hX c U hc).elim
 rintro e K' env U a w h1 h2 h3 ⟨hend,l,hl,hfin⟩;refine⟨hend,?_⟩;obtain⟨v,hr,hv⟩:=Ki h2 h3 hl;have hv3:qk (K0 (v9 w0 w K'.ro)) r v:=by
  rcases hfin with⟨hno,hfin⟩|⟨hno,hfin⟩
  . exact qFv _ _ hfin (qk.toK0 _ hno (qsG h2 hv))
  exact qFv _ _ hfin (qkU h2 8 hv)
 obtain⟨q1,q2⟩:=h2.end_ro;exact⟨v,hr,v,v9 w0 w K'.ro,rfl,h2.below,fun b o v e=>Yz _ _ _ _ _ _ (h1.ro b o v e),q1,q2,hv3⟩
def qj.of_body {G f fn c args Q} (hf : P.funcs[f]? = some fn) (hb : fn.body = some c) (hnm : fn.name ≠ "runtime.NumGoroutine") (hn : args.length ≤ fn.ntmps)
 (h:AWp P G fn.ntmps c (JD args) U (fun e env U'=>(e=.ret\/e=.normal)/\∃l,qfF (Dof P) fn.results.toList env U'=some l/\Q (Vf l) U')):qj P G f args U Q:=by
 refine⟨by simp[*,bodied],?_⟩;intro w0 ro0 K w vs hw hvs;refine Yc hf hb (h w0 ro0 K _ w hw (ERel.enter hvs hn)) ?_ fun c K' U' w' h1 h2 hc=>.inr ⟨c,U',K',rfl,h1,h2,hc⟩
 rintro e K' env U' a w h1 h2 h3 ⟨hend,l,hl,hq⟩;obtain⟨v,hr,hv⟩:=Ki h2 h3 hl;exact⟨hend,v,hr,.inl ⟨v,Vf l,U',K',rfl,h1,h2,hv,hq⟩⟩
end
def qa(P:Program)(G:Glo)(d:Bool)(g:FuncId)(args:List AV)(U:St)(Q:AV->St->Prop):Prop :=
 match d with
 |true=>∃r,Q6 P G g args U r/\Q r U
 |false=>qj P G g args U Q
def qem{α:Type}(d:Bool)(l:Option α):Option α:=match d with
 |true=>none
 |false=>l
def vcX(l:Option (List (AV×St)))(s:Option (AV×St))(Q:AV->St->Prop):Prop :=
 match l with
 |some l=>∀v U',(v,U')∈l->Q v U'
 | none=>match s with
  |some (v,U')=>Q v U'
  |none=>False
def jP(P:Program)(G:Glo)(mu d:Bool)(op:Op)(env:Env)(U:St)(Q:AV->St->Prop):Prop :=
 match op with
 | .call {callee:=.value f,args:=args,argTypes:=_}=>match ev G env f with
  |.fn g first cap=>qa P G d g (ke first (qbs G env args.toList) cap) U Q
  |_=>False
 |op=>vcX (qem d (qb8 (Dof P) G mu env U op)) (sem (Dof P) G env U op) Q
section
variable {P:Program}{G:Glo}{N:Nat}{env:Env}{U U':St}{w0:World}{ro0:Nat->Nat->Option Value}{K:Kn}{a:Act}{w:World}{ops:Array Oper}{o:Oper}{v:AV}{mu:Bool}
def qj3(hw:WRel G w0 ro0 K U w)(he:ERel K N env a)(hd:∀d,o.dst=some d->d<N){R}(h:jP P G mu false o.op env U R){next Q}
 (hn:∀v U' K' a' w',R v U'->K.le K'->WRel G w0 ro0 K' U' w'->ERel K' N (upd env o.dst v) a'->a'.defers=a.defers->next a' w')
 (hp:∀c U' K' w',G.X c U'->K.le K'->WRel G w0 ro0 K' U' w'->Q (.panic c) a w'):o.wp P a w next Q:=by
 have did:∀v U',R v U'->Did P G w0 ro0 K w (execOp a.eval o) v U'->o.wp P a w next Q:=by
  intro v U' hr hdid;obtain⟨v',w',K',hrun,h1,h2,h3⟩:=hdid;unfold Oper.wp;rcases hrun with hrun|⟨hrun,rfl⟩
  . rw[hrun];exact hn v U' K' _ w' hr h1 h2 ((he.mono h1).put hd h3) qFh
  rw[hrun];exact hn v U' K' _ w' hr h1 h2 ((he.mono h1).put hd h3) qFh
 unfold jP at h;split at h
 . rename_i f args ts hop;split at h
   . rename_i g first cap hf
     have hac:=h;obtain⟨vs,hr,hvs⟩:=Wl hw he hop hf hac.1;unfold Oper.wp;rw[hr,Oper.upon_enter];refine(hac.2 w0 ro0 K w vs hw hvs).mono ?_;rintro e w' (⟨v',v,U',K',rfl,h1,h2,h3,h4⟩|⟨c,U',K',rfl,h1,h2,h3⟩)
     . exact hn v U' K' _ w' h4 h1 h2 ((he.mono h1).put hd h3) qFh
     exact hp c U' K' w' h3 h1 h2
   exact h.elim
 simp only[vcX,qem]at h;split at h
 . rename_i l hl;obtain⟨v,U',h1,h2⟩:=Vl hw he o hl;exact did v U' (h v U' h1) h2
 split at h
 . rename_i v U' hs;exact did v U' h (Kg hw he o hs)
 exact h.elim
def qj.imp{f args Q Q'}(h:qj P G f args U Q)(hq:∀v U,Q v U->Q' v U):qj P G f args U Q' :=
 ⟨h.1,fun w0 ro0 K w vs hw hvs=>(h.2 w0 ro0 K w vs hw hvs).mono fun e w' h=>h.imp (fun⟨v',v,U',K',h1,h2,h3,h4,h5⟩=>⟨v',v,U',K',h1,h2,h3,h4,hq _ _ h5⟩) id⟩
def qFD:=@qj.imp
def vcX.imp{l s R R'}(h:vcX l s R)(hr:∀v U,R v U->R' v U):vcX l s R':=by
 unfold vcX at h⊢;split at h
 . exact fun v U' hm=>hr _ _ (h v U' hm)
 split at h
 . exact hr _ _ h
 exact h.elim
def jP.plain{d op}(hop:¬∃f args ts,op=.call {callee:=.value f,args:=args,argTypes:=ts})(R):
 jP P G mu d op env U R=vcX (qem d (qb8 (Dof P) G mu env U op)) (sem (Dof P) G env U op) R:=by
 unfold jP;split
 . exact absurd ⟨_,_,_,rfl⟩ hop
 rfl
def jP.imp{d op R R'}(h:jP P G mu d op env U R)(hr:∀v U,R v U->R' v U):jP P G mu d op env U R':=by
 by_cases hop:∃f args ts,op=.call {callee:=.value f,args:=args,argTypes:=ts}
 . obtain⟨f,args,ts,rfl⟩:=hop;simp only[jP]at h⊢;split at h
   . rename_i g first cap hf
     cases d
     . exact qFD h hr
     obtain⟨r,h1,h2⟩:=h;exact⟨r,h1,hr _ _ h2⟩
   exact h.elim
 rw[jP.plain hop]at h⊢;exact h.imp hr
variable {G:Nat->AV}
def qnV:∀{a b:AV},Leq a b->b.atom=true->a.atom=true:=by
 intro a b h hb;cases b<;>simp only[AV.atom]at hb<;>first|(cases hb;done)|skip
 all_goals(cases a<;>simp only[Leq]at h<;>first|(cases h;done)|rfl|(exact h.elim)|skip)
def qcK:∀{l m:List AV},zm l m->m.all AV.atom=true->l.all AV.atom=true
 |[],[],_,_=>rfl
 | a::r,b::s,h,hm=>by
  simp only[zm,qCm,qA1]at h hm⊢;exact⟨qnV h.1 hm.1,qcK h.2 hm.2⟩
 |[],_::_,h,_=>by simp[zm]at h
 |_::_,[],h,_=>by simp[zm]at h
def zm.of_map{f g}(h:∀a,Leq (f a) (g a)):∀l:List AV,zm (l.map f) (l.map g)
 |[]=>by simp[zm]
 |a::r=>by simp only[qA7,zm];exact⟨h a,zm.of_map h r⟩
def qFE:=@zm.of_map
def WP.of_map{f g}(h:∀a,Leq (f a) (g a)):∀l:List AV,WP (l.map f) (l.map g)
 |[]=>by simp[WP]
 |a::r=>by simp only[qA7,WP];exact⟨h a,WP.of_map h r⟩
def yp.of_map{f g}(h:∀a,Leq (f a) (g a)):∀l:List (List AV),(l.map (·.map g)).all (·.all AV.atom)=true->yp (l.map (·.map f)) (l.map (·.map g))
 |[],_=>by simp[yp]
 | a::r,ha=>by
  simp only[qA7,qCm,qA1,yp]at ha⊢;exact⟨.inr ⟨qFE h a,ha.1⟩,yp.of_map h r ha.2⟩
def Ko{f g}(h:∀a,Leq (f a) (g a)):∀l:List (List AV),(l.map (·.map g)).all (·.all AV.atom)=true->(l.map (·.map f)).all (·.all AV.atom)=true
 |[],_=>rfl
 | a::r,ha=>by
  simp only[qA7,qCm,qA1]at ha⊢;exact⟨qcK (qFE h a) ha.1,Ko h r ha.2⟩
def Leq.any(a):Leq a .any:=by cases a<;>simp[Leq]
def qgs{H H':List Blk}(hH:∀(b:Nat) (x:Blk),H[b]?=some x->H'[b]?=some x):∀(n:Nat) (a:AV),Leq (frz H' n a) (frz H n a)
 |0,a=>by simp only[frz];exact qFw _
 | n+1,a=>by
  have ih:=qgs hH n;by_cases hn:qO a=true
  . simp only[frz,hn,if_true];exact qFw _
  cases a with
  | ptr b off=>
   simp only[frz,hn,qBz,if_false]
   cases hb:H[b]? with
   |none=>exact Leq.any _
   | some x=>
    rw[hH b x hb]
    cases x with
    |cells c=>simp only[Leq];exact WP.of_map ih _
    |_=>exact Leq.any _
  | ms b off len sz=>
   simp only[frz,hn,qBz,if_false]
   cases hb:H[b]? with
   |none=>exact Leq.any _
   | some x=>
    rw[hH b x hb]
    cases x with
    | cells c=>
     simp only;by_cases hc:off+len*sz<=c.length/\((wL sz len (c.drop off)).map (·.map (frz H n))).all (·.all AV.atom)=true
     . rw[if_pos hc,if_pos ⟨hc.1,Ko ih _ hc.2⟩];simp only[Leq];exact .inr ⟨trivial,yp.of_map ih _ hc.2,.inl trivial⟩
     rw[if_neg hc];exact Leq.any _
    |_=>exact Leq.any _
  |rptr c=>simp only[frz,hn,qBz,if_false,Leq];exact WP.of_map ih _
  | sl sz rows tok=>
   simp only[frz,hn,qBz,if_false];by_cases hc:(rows.map (·.map (frz H n))).all (·.all AV.atom)=true
   . rw[if_pos hc,if_pos (Ko ih _ hc)];simp only[Leq];exact .inr ⟨trivial,yp.of_map ih _ hc,.inl trivial⟩
   rw[if_neg hc];exact Leq.any _
  |fn f x y=>simp only[frz,hn,qBz,if_false,Leq];exact⟨trivial,qFE ih _,qFE ih _⟩
  |agg c=>simp only[frz,hn,qBz,if_false,Leq];exact qFE ih _
  |tup c=>simp only[frz,hn,qBz,if_false,Leq];exact qFE ih _
  |_=>simp only[frz,hn,qBz,if_false];exact qFw _
def Pure.less'{f args args' r}(h:Pure P G f args' r)(ha:zm args args'):Pure P G f args r :=
 ⟨h.1,fun w0 ro vs hg hro hvs=>h.2 w0 ro vs hg hro (zm.rel _ _ ha hvs)⟩
def Q6.mono{g args r}{U τ:St}(h:Q6 P G g args U r)(hH:∀(b:Nat) (x:Blk),U.H[b]?=some x->τ.H[b]?=some x):Q6 P G g args τ r:=by
 rcases h with h|⟨h1,h2⟩
 . exact .inl h
 exact .inr ⟨h1,h2.less' (qFE (qgs hH 8) args)⟩
end
