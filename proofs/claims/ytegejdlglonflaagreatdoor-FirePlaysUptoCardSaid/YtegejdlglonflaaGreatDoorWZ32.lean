/-
  Texts of FirePlays, laid together by program.
-/
import Derived.Test.YtegejdlglonflaaGreatDoorWZ26
import Derived.Test.YtegejdlglonflaaGreatDoorWZ31
namespace Go.Proofs.YtegejdlglonflaaGreatDoor
open Go.RowKit Go.Shelf Go.Proofs.Tryz
set_option maxRecDepth 100000
set_option maxHeartbeats 8000000
set_option linter.unusedVariables false
set_option linter.unusedSimpArgs false
section
variable {w W:World}
theorem Gi.lt9(ho:Gi w W){b:Nat}(hb:b<w.heap.size):b<W.heap.size:=by
 have :=ho b hb;rw[Array.getElem?_eq_getElem hb]at this;exact(Array.getElem?_eq_some_iff.1 this).1
theorem Gi.agp(ho:Gi w W){b j:Nat}(hb:b<w.heap.size):W.cell? ⟨b,j,none⟩=w.cell? ⟨b,j,none⟩:=by simp[World.cell?,ho b hb]
theorem aG.aeC{a:Option Addr}{size n:Nat}{cs:List Value}(h:aG w a size n cs)(ho:Gi w W):aG W a size n cs:=by
 refine⟨h.1,fun i hi=>?_⟩;obtain⟨b,o,ha,hb,hc⟩:=h.2 i hi;exact⟨b,o,ha,ho.lt9 hb,fun j hj=>(ho.agp hb).trans (hc j hj)⟩
theorem MT.dK.aeC{a:Option Addr}{l:List MT}(h:MT.dK w a l)(ho:Gi w W):MT.dK W a l:=fun i hi=>by
 obtain⟨b,o,ha,hb,hc⟩:=h i hi;exact⟨b,o,ha,ho.lt9 hb,fun j hj=>(ho.agp hb).trans (hc j hj)⟩
theorem MT.In.aeC{t:MT}(h:t.In w)(ho:Gi w W):t.In W:=h.keep (fun k hk=>ho k (h.lt k hk))
theorem MB.Mem.aeC{b:MB}(h:b.Mem w)(ho:Gi w W):b.Mem W:=
 ⟨h.1.aeC ho,⟨h.2.1.1.aeC ho,fun c hm=>⟨⟨(h.2.1.2 c hm).1.1,(h.2.1.2 c hm).1.2.aeC ho⟩,fun t ZV=>((h.2.1.2 c hm).2 t ZV).aeC ho⟩⟩,h.2.2.aeC ho⟩
end
section
open Go.ChangeShapes Go.WideShapes Go.Deep Go.RowKit
theorem Lu{α:Type}{l:List α}(h:l.length=2):∃x0 x1,l=[x0,x1]:=by
 match l,h with
 |[x0,x1],_=>exact⟨x0,x1,rfl⟩
theorem listN9{α:Type}{l:List α}(h:l.length=9):∃x0 x1 x2 x3 x4 x5 x6 x7 x8,l=[x0,x1,x2,x3,x4,x5,x6,x7,x8]:=by
 match l,h with
 |[x0,x1,x2,x3,x4,x5,x6,x7,x8],_=>exact⟨x0,x1,x2,x3,x4,x5,x6,x7,x8,rfl⟩
theorem NK{α:Type}{l:List α}(h:l.length=17):∃x0 x1 x2 x3 x4 x5 x6 x7 x8 x9 x10 ES I9 Li Gg Gw GN,l=[x0,x1,x2,x3,x4,x5,x6,x7,x8,x9,x10,ES,I9,Li,Gg,Gw,GN]:=by
 match l,h with
 |[x0,x1,x2,x3,x4,x5,x6,x7,x8,x9,x10,ES,I9,Li,Gg,Gw,GN],_=>exact⟨x0,x1,x2,x3,x4,x5,x6,x7,x8,x9,x10,ES,I9,Li,Gg,Gw,GN,rfl⟩
theorem listN5{α:Type}{l:List α}(h:l.length=5):∃x0 x1 x2 x3 x4,l=[x0,x1,x2,x3,x4]:=by
 match l,h with
 |[x0,x1,x2,x3,x4],_=>exact⟨x0,x1,x2,x3,x4,rfl⟩
theorem listN7{α:Type}{l:List α}(h:l.length=7):∃x0 x1 x2 x3 x4 x5 x6,l=[x0,x1,x2,x3,x4,x5,x6]:=by
 match l,h with
 |[x0,x1,x2,x3,x4,x5,x6],_=>exact⟨x0,x1,x2,x3,x4,x5,x6,rfl⟩
theorem Lg{H:Type}(d:DataW H):1<=Rows.uptoBulk d:=by
 cases d with
 |lit l=>cases l<;>simp[Rows.uptoBulk]
 |nil=>simp[Rows.uptoBulk]
 |ptr d=>simp[Rows.uptoBulk]
 |slice a b=>simp[Rows.uptoBulk]
 |agg a=>simp[Rows.uptoBulk]
 |iface t d=>simp[Rows.uptoBulk]
 |map e=>simp[Rows.uptoBulk]
 |held h=>simp[Rows.uptoBulk]
theorem Kv{H:Type}(l:List (DataW H)):l.length<=Rows.uptoBulkAll l:=by
 induction l with
 |nil=>simp
 |cons d r ih=>simp only[Rows.uptoBulkAll,List.length_cons];have :=Lg d;omega
section
variable {H:Type} {enc:TypeId×Value->H} {w:World} {base:Nat} {spare:Nat->Bool} {held:Bool}
theorem uf:prog.cellsOf 182=1:=by kernel_rfl
theorem vw:prog.cellsOf 112=1:=by kernel_rfl
theorem mZ:prog.cellsOf 54=1:=by kernel_rfl
theorem wo:prog.cellsOf 53=1:=by kernel_rfl
theorem qM:prog.cellsOf 306=2:=by kernel_rfl
theorem qb:prog.cellsOf 114=7:=by kernel_rfl
theorem open_row{α:Type}(f:α->List Value)(size:Nat)(hsz:0<size)(hf:∀a,(f a).length=size)(Q:α->Nat->Prop)(hQ:∀a m n,m<=n->Q a m->Q a n){ts te:TypeId}(und:prog.underlying ts=some (.slice te))(hce:prog.cellsOf te=size)(hone:∀(fuel:Nat) (cs:List Value) (d:DataW H) (p:List MemPlace),Rows.uptoBulk d<=1048576->DataW.trod enc prog w base spare held fuel te cs=some (d,p)->∃x:α,cs=f x/\Q x (Rows.uptoBulk d)){fuel:Nat}{c:Value}{d:DataW H}{p:List MemPlace}(hbk:Rows.uptoBulk d<=1048576)(h:DataW.trod enc prog w base spare held fuel ts [c]=some (d,p)):
  ∃(a:Option Addr) (cap:Nat) (l:List α),c= .slice a l.length cap/\aG w a size l.length (l.flatMap f)/\∀x∈l,Q x (Rows.uptoBulk d):=by
 rcases open_slice und h with ⟨hcs,hx2⟩|⟨a,len,cap,m,n',D,Pl,hcs,hb,hlc,hm,hmm,hx2,hi⟩
 .injection hcs with hcs _
  subst hcs;exact⟨none,0,[],rfl,gX _ _ _ _,by simp⟩
 .injection hcs with hcs _
  subst hcs;have hlm:len<=m:=by rw[hmm];split<;>omega
  injection hx2 with hx2 _
  subst hx2;simp only[Rows.uptoBulk]at hbk|-;have hlb:len<=Rows.uptoBulkAll ((List.range len).map D):=by have :=Kv ((List.range len).map D);simpa using this
  have hbi:∀i,i<len->Rows.uptoBulk (D i)<=Rows.uptoBulkAll ((List.range len).map D):=fun i hil=>vB (List.mem_map.2 ⟨i,List.mem_range.2 hil,rfl⟩);obtain⟨l,hll,hp⟩:=kT (p:=fun i (t:α)=>(∀j,j<size->w.cell? ((a.add (i*size)).add j)=(f t)[j]?)/\Q t (Rows.uptoBulk (D i))) len (fun i hil=>by
   obtain⟨cs',hc,ht'⟩:=hi i (by omega);rw[hce]at hc;obtain⟨_,hcl,hat⟩:=World.cells?_some hc;obtain⟨t,rfl,ht1⟩:=hone _ _ _ _ (by have :=hbi i hil;omega) ht';exact⟨t,hat,ht1⟩)
  subst hll;refine⟨some a,cap,l,rfl,⟨by omega,fun i hil=>?_⟩,fun x hx=>?_⟩
  .obtain⟨hat,_⟩:=hp i hil
   obtain⟨b,o,sp⟩:=a;have hs0:∀i (hi:i<l.length),∃u,(f l[i])[0]? =some u:=fun i hi=>⟨(f l[i])[0]'(by rw[hf];exact hsz),List.getElem?_eq_getElem _⟩;have hsp:sp=none:=by
    obtain⟨aaH,_⟩:=hp 0 (by omega);have h00:=aaH 0 hsz;rw[add_add']at h00;obtain⟨u,hu⟩:=hs0 0 (by omega);have h01:w.cell? ((⟨b,o,sp⟩:Addr).add 0)=some u:=by simp only[Nat.zero_mul,Nat.add_zero]at h00;exact h00.trans hu
    simpa[Addr.add]using World.cell?_spot h01
   subst hsp;have hc:∀j,j<size->w.cell? ⟨b,o+i*size+j,none⟩=(f l[i])[j]? :=fun j hj=>by
    have :=hat j hj;rw[add_add',Addr.add_lit,<-Nat.add_assoc]at this;exact this
   obtain⟨u,hu⟩:=hs0 i hil;refine⟨b,o,rfl,World.block_lt_of_cell? w _ (u:=u) ((hc 0 hsz).trans hu),fun j hj=>?_⟩;rw[hc j hj,rT f size hf l i hil j hj]
  .obtain⟨i,hil,rfl⟩:=List.mem_iff_getElem.1 hx
   exact hQ _ _ _ (by have :=hbi i hil;omega) (hp i hil).2
def yI(w:World)(t:MT)(n:Nat):Prop:=t.In w/\t.nodes<=n
def sU(w:World)(c:MC)(n:Nat):Prop:=(c.args.length<=2000000/\MT.dK w c.a c.args)/\∀t∈c.args,yI w t n
def su(w:World)(b:MB)(n:Nat):Prop:=b.Mem w/\b.v.nodes<=n/\∀c∈b.wraps,∀t∈c.args,t.nodes<=n
def uK(w:World)(x:BO)(n:Nat):Prop:=x.Mem w/\x.e.v.nodes<=n/\x.v.nodes<=n/\∀b∈x.bases,b.v.nodes<=n/\∀c∈b.wraps,∀t∈c.args,t.nodes<=n
theorem uK.big{w:World}{x:BO}{n:Nat}(h:uK w x n)(hn:n<=1048576):x.Mem w/\x.Big:=⟨h.1,Nat.le_trans h.2.1 hn,Nat.le_trans h.2.2.1 hn,fun b hb=>⟨Nat.le_trans (h.2.2.2 b hb).1 hn,fun c hc t ht=>Nat.le_trans ((h.2.2.2 b hb).2 c hc t ht) hn⟩⟩
theorem yI.mono(w:World)(t:MT)(m n:Nat)(h:m<=n)(hq:yI w t m):yI w t n:=⟨hq.1,Nat.le_trans hq.2 h⟩
theorem sU.mono(w:World)(c:MC)(m n:Nat)(h:m<=n)(hq:sU w c m):sU w c n:=⟨hq.1,fun t ht=>(hq.2 t ht).mono _ _ _ _ h⟩
theorem su.mono(w:World)(b:MB)(m n:Nat)(h:m<=n)(hq:su w b m):su w b n:=⟨hq.1,Nat.le_trans hq.2.1 h,fun c hc t ht=>Nat.le_trans (hq.2.2 c hc t ht) h⟩
theorem uK.mono(w:World)(x:BO)(m n:Nat)(h:m<=n)(hq:uK w x m):uK w x n:=⟨hq.1,Nat.le_trans hq.2.1 h,Nat.le_trans hq.2.2.1 h,fun b hb=>⟨Nat.le_trans (hq.2.2.2 b hb).1 h,fun c hc t ht=>Nat.le_trans ((hq.2.2.2 b hb).2 c hc t ht) h⟩⟩
theorem sD(fuel:Nat)(cs:List Value)(d:DataW H)(p:List MemPlace)(_hbk:Rows.uptoBulk d<=1048576)(h:DataW.trod enc prog w base spare held fuel 3 cs=some (d,p)):∃x:Int,cs=fq x/\True:=by
 obtain⟨z0,hz0,hx0,g0⟩:=DataW.trod_int underlying3 h;exact⟨z0,hz0,trivial⟩
theorem Bg(fuel:Nat)(cs:List Value)(d:DataW H)(p:List MemPlace)(_hbk:Rows.uptoBulk d<=1048576)(h:DataW.trod enc prog w base spare held fuel 58 cs=some (d,p)):∃x:MT,cs=x.cells/\yI w x (Rows.uptoBulk d):=gP _ d (Nat.le_refl _) _ _ _ h
theorem o7(fuel:Nat)(cs:List Value)(d:DataW H)(p:List MemPlace)(hbk:Rows.uptoBulk d<=1048576)(h:DataW.trod enc prog w base spare held fuel 306 cs=some (d,p)):∃x:MC,cs=x.cells/\sU w x (Rows.uptoBulk d):=by
 obtain⟨xs,n,_,hx,hl,hlen,hf⟩:=DataW.trod_struct underlying306 h;injection hx with hx _
 subst hx;rw[qM]at hl;obtain⟨c0,c1,rfl⟩:=Lu hl;obtain⟨x0,x1,rfl⟩:=Lu hlen;have f0:DataW.trod enc prog w base spare held n 3 (List.take (prog.cellsOf 3) (List.drop 0 [c0,c1]))=some x0:=hf 0 _ rfl;have f1:DataW.trod enc prog w base spare held n 56 (List.take (prog.cellsOf 56) (List.drop 1 [c0,c1]))=some x1:=hf 1 _ rfl;rw[iV]at f0;rw[qi]at f1;simp only[List.drop_zero,List.drop_succ_cons,List.take_succ_cons,List.take_zero]at f0 f1;obtain⟨z0,hz0,hx0,g0⟩:=DataW.trod_int underlying3 f0;injection hz0 with hz0 _
 subst hz0;obtain⟨x1,p1⟩:=x1;simp only[List.map_cons,List.map_nil,Rows.uptoBulk,Rows.uptoBulkAll]at hbk|-;obtain⟨a,cap,l,rfl,hl1,hl2⟩:=open_row (w:=w) MT.cells 3 (by omega) (fun _=>rfl) (yI w) (yI.mono w) underlying56 iO Bg (by omega) f1;refine⟨⟨z0,a,cap,l⟩,rfl,⟨hl1.1,MT.uJ hl1⟩,fun t ht=>(hl2 t ht).mono _ _ _ _ (by omega)⟩
theorem oU(fuel:Nat)(cs:List Value)(d:DataW H)(p:List MemPlace)(hbk:Rows.uptoBulk d<=1048576)(h:DataW.trod enc prog w base spare held fuel 114 cs=some (d,p)):∃x:MB,cs=x.cells/\su w x (Rows.uptoBulk d):=by
 obtain⟨xs,n,_,hx,hl,hlen,hf⟩:=DataW.trod_struct underlying114 h;injection hx with hx _
 subst hx;rw[qb]at hl;obtain⟨c0,c1,c2,c3,c4,c5,c6,rfl⟩:=listN7 hl;obtain⟨x0,x1,x2,x3,x4,rfl⟩:=listN5 hlen;have f0:DataW.trod enc prog w base spare held n 55 (List.take (prog.cellsOf 55) (List.drop 0 [c0,c1,c2,c3,c4,c5,c6]))=some x0:=hf 0 _ rfl;have f1:DataW.trod enc prog w base spare held n 3 (List.take (prog.cellsOf 3) (List.drop 1 [c0,c1,c2,c3,c4,c5,c6]))=some x1:=hf 1 _ rfl;have f2:DataW.trod enc prog w base spare held n 58 (List.take (prog.cellsOf 58) (List.drop 2 [c0,c1,c2,c3,c4,c5,c6]))=some x2:=hf 2 _ rfl;have f3:DataW.trod enc prog w base spare held n 112 (List.take (prog.cellsOf 112) (List.drop 5 [c0,c1,c2,c3,c4,c5,c6]))=some x3:=hf 3 _ rfl;have f4:DataW.trod enc prog w base spare held n 54 (List.take (prog.cellsOf 54) (List.drop 6 [c0,c1,c2,c3,c4,c5,c6]))=some x4:=hf 4 _ rfl;rw[qD]at f0;rw[iV]at f1;rw[iO]at f2;rw[vw]at f3;rw[mZ]at f4;simp only[List.drop_zero,List.drop_succ_cons,List.take_succ_cons,List.take_zero]at f0 f1 f2 f3 f4;obtain⟨z0,hz0,hx0,g0⟩:=DataW.trod_int underlying55 f0;injection hz0 with hz0 _
 subst hz0;obtain⟨z1,hz1,hx1,g1⟩:=DataW.trod_int underlying3 f1;injection hz1 with hz1 _
 subst hz1;obtain⟨x2,p2⟩:=x2;obtain⟨x3,p3⟩:=x3;obtain⟨x4,p4⟩:=x4;simp only[List.map_cons,List.map_nil,Rows.uptoBulk,Rows.uptoBulkAll]at hbk|-;obtain⟨t,ht,hin,hno⟩:=gP _ x2 (Nat.le_refl _) _ _ _ f2;have ht':c2= .int .i64 t.kind/\c3= .int .i64 t.num/\c4=t.sl:=by simpa[MT.cells]using ht
 obtain⟨rfl,rfl,rfl⟩:=ht';obtain⟨wa,wc,wl,rfl,hw1,hw2⟩:=open_row (w:=w) MC.cells 2 (by omega) (fun _=>rfl) (sU w) (sU.mono w) underlying112 qM o7 (by omega) f3;obtain⟨na,nc,nl,rfl,hn1,_⟩:=open_row (w:=w) fq 1 (by omega) (fun _=>rfl) (fun _ _=>True) (fun _ _ _ _ _=>trivial) underlying54 iV sD (by omega) f4;refine⟨⟨z0,z1,t,wa,wc,wl,na,nc,nl⟩,rfl,⟨hin,⟨hw1,fun c hc=>⟨(hw2 c hc).1,fun u hu=>((hw2 c hc).2 u hu).1⟩⟩,hn1⟩,?_,fun c hc u hu=>Nat.le_trans ((hw2 c hc).2 u hu).2 (by omega)⟩;show t.nodes<=_
 omega
end
end
section
open Go.ChangeShapes Go.WideShapes Go.Deep Go.RowKit
theorem agX{α:Type}{l:List α}(h:l.length=3):∃x0 x1 x2,l=[x0,x1,x2]:=by
 match l,h with
 |[x0,x1,x2],_=>exact⟨x0,x1,x2,rfl⟩
theorem agS{α:Type}{l:List α}(h:l.length=4):∃x0 x1 x2 x3,l=[x0,x1,x2,x3]:=by
 match l,h with
 |[x0,x1,x2,x3],_=>exact⟨x0,x1,x2,x3,rfl⟩
section
variable {H:Type} {enc:TypeId×Value->H} {w:World} {base:Nat} {spare:Nat->Bool} {held:Bool}
theorem aeT:prog.cellsOf 111=2:=by kernel_rfl
theorem aeQ:prog.cellsOf 32=3:=by kernel_rfl
theorem afk:prog.cellsOf 25=4:=by kernel_rfl
theorem afz:prog.cellsOf 22=1:=by kernel_rfl
theorem afu:prog.cellsOf 23=1:=by kernel_rfl
def agI(w:World)(y:afc)(n:Nat):Prop:=(aG w y.ba 7 y.bases.length (y.bases.flatMap MB.cells)/\∀b∈y.bases,b.Mem w)/\∀b∈y.bases,b.v.nodes<=n/\∀c∈b.wraps,∀t∈c.args,t.nodes<=n
theorem agI.mono(w:World)(y:afc)(m n:Nat)(h:m<=n)(hq:agI w y m):agI w y n:=⟨hq.1,fun b hb=>⟨Nat.le_trans (hq.2 b hb).1 h,fun c hc t ht=>Nat.le_trans ((hq.2 b hb).2 c hc t ht) h⟩⟩
theorem afb(fuel:Nat)(cs:List Value)(d:DataW H)(p:List MemPlace)(hbk:Rows.uptoBulk d<=1048576)(h:DataW.trod enc prog w base spare held fuel 111 cs=some (d,p)):∃x:afc,cs=x.cells/\agI w x (Rows.uptoBulk d):=by
 obtain⟨xs,n,_,hx,hl,hlen,hf⟩:=DataW.trod_struct underlying111 h;injection hx with hx _
 subst hx;rw[aeT]at hl;obtain⟨c0,c1,rfl⟩:=Lu hl;obtain⟨x0,x1,rfl⟩:=Lu hlen;have f0:DataW.trod enc prog w base spare held n 3 (List.take (prog.cellsOf 3) (List.drop 0 [c0,c1]))=some x0:=hf 0 _ rfl;have f1:DataW.trod enc prog w base spare held n 53 (List.take (prog.cellsOf 53) (List.drop 1 [c0,c1]))=some x1:=hf 1 _ rfl;rw[iV]at f0;rw[wo]at f1;simp only[List.drop_zero,List.drop_succ_cons,List.take_succ_cons,List.take_zero]at f0 f1;obtain⟨z0,hz0,hx0,g0⟩:=DataW.trod_int underlying3 f0;injection hz0 with hz0 _
 subst hz0;obtain⟨x1,p1⟩:=x1;simp only[List.map_cons,List.map_nil,Rows.uptoBulk,Rows.uptoBulkAll]at hbk|-;obtain⟨a,cap,l,rfl,hl1,hl2⟩:=open_row (w:=w) MB.cells 7 (by omega) (fun _=>rfl) (su w) (su.mono w) underlying53 qb oU (by omega) f1;refine⟨⟨z0,a,cap,l⟩,rfl,⟨hl1,fun b hb=>(hl2 b hb).1⟩,fun b hb=>⟨Nat.le_trans (hl2 b hb).2.1 (by omega),fun c hc t ht=>Nat.le_trans ((hl2 b hb).2.2 c hc t ht) (by omega)⟩⟩
theorem aeN(fuel:Nat)(cs:List Value)(d:DataW H)(p:List MemPlace)(_hbk:Rows.uptoBulk d<=1048576)(h:DataW.trod enc prog w base spare held fuel 32 cs=some (d,p)):∃x:afU,cs=x.cells/\True:=by
 obtain⟨xs,n,_,hx,hl,hlen,hf⟩:=DataW.trod_struct underlying32 h;injection hx with hx _
 subst hx;rw[aeQ]at hl;obtain⟨c0,c1,c2,rfl⟩:=agX hl;obtain⟨x0,x1,x2,rfl⟩:=agX hlen;have f0:DataW.trod enc prog w base spare held n 3 (List.take (prog.cellsOf 3) (List.drop 0 [c0,c1,c2]))=some x0:=hf 0 _ rfl;have f1:DataW.trod enc prog w base spare held n 3 (List.take (prog.cellsOf 3) (List.drop 1 [c0,c1,c2]))=some x1:=hf 1 _ rfl;have f2:DataW.trod enc prog w base spare held n 3 (List.take (prog.cellsOf 3) (List.drop 2 [c0,c1,c2]))=some x2:=hf 2 _ rfl;rw[iV]at f0 f1 f2;simp only[List.drop_zero,List.drop_succ_cons,List.take_succ_cons,List.take_zero]at f0 f1 f2;obtain⟨z0,hz0,hx0,g0⟩:=DataW.trod_int underlying3 f0;injection hz0 with hz0 _
 subst hz0;obtain⟨z1,hz1,hx1,g1⟩:=DataW.trod_int underlying3 f1;injection hz1 with hz1 _
 subst hz1;obtain⟨z2,hz2,hx2,g2⟩:=DataW.trod_int underlying3 f2;injection hz2 with hz2 _
 subst hz2;exact⟨⟨z0,z1,z2⟩,rfl,trivial⟩
theorem afw{r:Reach}{b0:Nat}{v:Value}{d:DataW H}{p:List MemPlace}(hv:Value.okWide prog w r b0 25 v)(h:DataW.Trod enc prog w base spare held 25 v d p)(hbk:Rows.uptoBulk d<=1048576):∃x:aee,v= .agg #[x.ch,x.co,.slice x.sa x.kE.length x.sc,.slice x.aa x.acts.length x.ac]/\x.Mem w/\∀y∈x.kE,∀b∈y.bases,b.Big:=by
 simp only[Value.okWide,underlying25]at hv;obtain⟨cs,rfl,hsz,_⟩:=hv;obtain⟨fuel,hf0⟩:=h;obtain⟨xs,n,_,hx,hl,hlen,hf⟩:=DataW.trod_struct underlying25 hf0;injection hx with hx _
 subst hx;rw[afk]at hl;obtain⟨c0,c1,c2,c3,hcs⟩:=agS hl;have hcs':cs=#[c0,c1,c2,c3]:=Array.ext' hcs;subst hcs';obtain⟨x0,x1,x2,x3,rfl⟩:=agS hlen;have f0:DataW.trod enc prog w base spare held n 3 (List.take (prog.cellsOf 3) (List.drop 0 [c0,c1,c2,c3]))=some x0:=hf 0 _ rfl;have f1:DataW.trod enc prog w base spare held n 3 (List.take (prog.cellsOf 3) (List.drop 1 [c0,c1,c2,c3]))=some x1:=hf 1 _ rfl;have f2:DataW.trod enc prog w base spare held n 22 (List.take (prog.cellsOf 22) (List.drop 2 [c0,c1,c2,c3]))=some x2:=hf 2 _ rfl;have f3:DataW.trod enc prog w base spare held n 23 (List.take (prog.cellsOf 23) (List.drop 3 [c0,c1,c2,c3]))=some x3:=hf 3 _ rfl;rw[iV]at f0 f1;rw[afz]at f2;rw[afu]at f3;simp only[List.drop_zero,List.drop_succ_cons,List.take_succ_cons,List.take_zero]at f0 f1 f2 f3;obtain⟨z0,hz0,hx0,g0⟩:=DataW.trod_int underlying3 f0;injection hz0 with hz0 _
 subst hz0;obtain⟨z1,hz1,hx1,g1⟩:=DataW.trod_int underlying3 f1;injection hz1 with hz1 _
 subst hz1;obtain⟨x2,p2⟩:=x2;obtain⟨x3,p3⟩:=x3;simp only[List.map_cons,List.map_nil,Rows.uptoBulk,Rows.uptoBulkAll]at hbk;obtain⟨sa,sc,sl,rfl,hs1,hs2⟩:=open_row (w:=w) afc.cells 2 (by omega) (fun _=>rfl) (agI w) (agI.mono w) underlying22 aeT afb (by omega) f2;obtain⟨aa,ac,al,rfl,ha1,_⟩:=open_row (w:=w) afU.cells 3 (by omega) (fun _=>rfl) (fun _ _=>True) (fun _ _ _ _ _=>trivial) underlying23 aeQ aeN (by omega) f3;exact⟨⟨z0,z1,sa,sc,sl,aa,ac,al⟩,rfl,⟨hs1,fun y hy=>(hs2 y hy).1,ha1⟩,fun y hy b hb=>⟨Nat.le_trans ((hs2 y hy).2 b hb).1 (by omega),fun c hc t ht=>Nat.le_trans (((hs2 y hy).2 b hb).2 c hc t ht) (by omega)⟩⟩
end
end
end Go.Proofs.YtegejdlglonflaaGreatDoor
