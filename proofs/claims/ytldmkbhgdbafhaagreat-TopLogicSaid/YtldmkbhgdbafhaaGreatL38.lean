import Derived.Test.YtldmkbhgdbafhaaGreatL37
namespace Go.Proofs.YtldmkbhgdbafhaaGreat
open Go.RowKit
set_option linter.unusedSimpArgs false
set_option linter.unusedVariables false
set_option maxRecDepth 100000
set_option maxHeartbeats 64000000
theorem pd {r:List Vl} {l:List Vb} (h:bD r l):∀v∈r,rgV v:=fun v c=>by
 obtain⟨i,a,rfl⟩:=List.getElem_of_mem c;have b:i<l.length:=by rw[<-h.len];exact a
 have:=(h.at_ i _ _ (CT a) (CT b)).2.2;exact⟨by omega,by omega⟩
theorem rH {r:List Vl} {l:List Vb} {x y:E} (t:bD r l) (h:cC l x y=true) (u:(evE r x).k≠0):(evE r x).s.size<=16/\(evE r y).s.size<=16/\dvE r x/\dvE r y:=by
 unfold cC at h;simp only[Bool.and_eq_true,Bool.or_eq_true,decide_eq_true_eq] at h;obtain⟨⟨⟨⟨⟨⟨f,A⟩,B⟩,g⟩,p⟩,q⟩,H⟩:=h;have n:=dt t B;obtain⟨j,C⟩:=jz (l:=l) f g p q;have F:=dt t j;have w:evE r y=y.lit:=by
  cases y with
  | z o i v=>simp only[E.op] at g;subst g;rfl
  | a _ _ _ _=>cases f
  | b _ _ _ _ _=>cases f
  | many _ _ _=>cases f
 have d:=(iO q p).2;unfold iQ at d;simp only[Bool.and_eq_true,decide_eq_true_eq] at d;have e:x.null=false:=by
  cases D:x.null
  ·rfl
  exact absurd (n.nul D) u
 have m:x.text l=true:=A.resolve_right (by rw[e];simp);have c:=(fT n e m u).2.1;unfold iQ at c;simp only[Bool.and_eq_true,decide_eq_true_eq] at c;exact⟨c.2,by rw[w];exact d.2,n.dv,F.dv⟩
theorem vK {r:List Vl} {l:List Vb} {x y:E} (a:bD r l) (h:cC l x y=true):dvE r x/\dvE r y:=by
 unfold cC at h;simp only[Bool.and_eq_true,Bool.or_eq_true,decide_eq_true_eq] at h;obtain⟨⟨⟨⟨⟨⟨b,g⟩,c⟩,d⟩,e⟩,f⟩,i⟩:=h;exact⟨(dt a c).dv,(dt a (jz (l:=l) b d e f).1).dv⟩
theorem eS (C:Nat->Prop) (R:Option Addr) (p:Nat) (r:List Vl) (l:List Vb) (j:Nat) (J:j=r.length) (M:bD r l):∀(d:Nat) (e:E) (w:World) (P O:ByteArray) (A:Option Addr) (n c:Nat),ci l d e=true->e.rg->aY w C e A n->n<=c->c<=maxLen->gI w R r->
 Calls Tryz.prog 9 #[exV e P O A n c,.slice R j p] w (RoP w (I (cdE r e)))
 | 0,e,w,P,O,A,n,c,h,_,_,_,_,_=>by cases e<;>cases h
 | d+1,.z _ _ _,w,P,O,A,n,c,h,_,_,_,_,_=>by cases h
 | d+1,.many _ _ _,w,P,O,A,n,c,h,_,_,_,_,_=>by cases h
 | d+1,.a o i v x,w,P,O,A,n,c,h,hrg,hA,hnc,hcm,hR=>by
   obtain⟨rfl,g,q,F,D,B,m,t,rfl,hC,hg,u⟩:=hA.get1;have X:Z (∀W,ad [] w W->XCl W g q x.op x.ix x.lit.k x.lit.n F D x.lit.s B m t):=bZ (fun W f=>(u.keep0 f).cells);unfold ci at h;rw[Bool.and_eq_true] at h;replace h:=h.2;unfold exV;simp only[opa,ixa,lta];have N:=bX hrg (show x∈(E.a o i v x).args by simp[E.args]);by_cases a0:o=20
   ·subst a0;rw[if_pos rfl] at h;have H:Z (∀W,ad [] w W->Calls Tryz.prog 9 #[exV x F D B m t,.slice R j p] W (RoP W (I (cdE r x)))):=bZ (fun W f=>eS C R p r l j J M d x W F D B m t h N ((u.keep0 f).ar) u.mc u.cm (hR.keep0 f));rw[cdE,if_neg (by decide)];exact zv w i v.k v.n x.op x.ix x.lit.k x.lit.n P O v.s F D x.lit.s R B g q c j p m t (cdE r x) (by have:=gF (r:=r) x;omega) hg ⟨hnc,hcm⟩ X H
   rw[if_neg a0] at h;simp only[Bool.and_eq_true,decide_eq_true_eq] at h;obtain⟨rfl,a3⟩:=h;have H:Z (∀W,ad [] w W->Calls Tryz.prog 32 #[exV x F D B m t,.slice R j p] W (RoP W (vV (evE r x)))):=bZ (fun W f=>lU C R p r j J (pd M) x W F D B m t N (dt M a3).dv ((u.keep0 f).ar) u.mc u.cm (hR.keep0 f));rw[cdE,if_pos rfl];exact zw w i v.k v.n x.op x.ix x.lit.k x.lit.n P O v.s F D x.lit.s R B g q c j p m t (evE r x) hg ⟨hnc,hcm⟩ X H
 | d+1,.b o i v x y,w,P,O,A,n,c,h,hrg,hA,hnc,hcm,hR=>by
   obtain⟨rfl,g,q,F,D,B,m,t,ty,ny,Q,m',c2,rfl,hC,hg,u,T⟩:=hA.get2;have X:Z (∀W,ad [] w W->XCl W g q x.op x.ix x.lit.k x.lit.n F D x.lit.s B m t):=bZ (fun W f=>(u.keep0 f).cells);have Y:Z (∀W,ad [] w W->XCl W g (q+8) y.op y.ix y.lit.k y.lit.n ty ny y.lit.s Q m' c2):=bZ (fun W f=>(T.keep0 f).cells);unfold ci at h;rw[Bool.and_eq_true] at h;replace h:=h.2;unfold exV;simp only[opb,ixb,ltb];have N:=bX hrg (show x∈(E.b o i v x y).args by simp[E.args]);have a2:=bX hrg (show y∈(E.b o i v x y).args by simp[E.args]);by_cases L:o=18\/o=19
   ·rw[if_pos L,Bool.and_eq_true] at h;have H:Z (∀W,ad [] w W->Calls Tryz.prog 9 #[exV x F D B m t,.slice R j p] W (RoP W (I (cdE r x)))):=bZ (fun W f=>eS C R p r l j J M d x W F D B m t h.1 N ((u.keep0 f).ar) u.mc u.cm (hR.keep0 f));have K:Z (∀W,ad [] w W->Calls Tryz.prog 9 #[exV y ty ny Q m' c2,.slice R j p] W (RoP W (I (cdE r y)))):=bZ (fun W f=>eS C R p r l j J M d y W ty ny Q m' c2 h.2 a2 ((T.keep0 f).ar) T.mc T.cm (hR.keep0 f));exact yz w o i v.k v.n x.op x.ix x.lit.k x.lit.n y.op y.ix y.lit.k y.lit.n P O v.s F D x.lit.s ty ny y.lit.s R B Q g q c j p m t m' c2 (cdE r x) (cdE r y) L (by have:=gF (r:=r) x;omega) (by have:=gF (r:=r) y;omega) hg ⟨hnc,hcm⟩ X Y H K _ (by rw[cdE,if_pos L])
   rw[if_neg L] at h;have a1:(10<=o/\o<=16)/\dvE r x/\dvE r y/\(o=16->(evE r x).k≠0->(evE r y).k≠0->(evE r x).s.size<=100000/\(evE r y).s.size<=100000):=by
    by_cases S:o=16
    ·rw[if_pos S] at h;have:=vK M h;exact⟨by omega,this.1,this.2,fun _ h0 _=>by have:=rH M h h0;omega⟩
    rw[if_neg S] at h;simp only[Bool.and_eq_true,decide_eq_true_eq] at h;exact⟨by omega,(dt M h.1.1.2).dv,(dt M h.1.2).dv,fun h=>absurd h S⟩
   obtain⟨ho,dx,dy,hs⟩:=a1;have H:Z (∀W,ad [] w W->Calls Tryz.prog 32 #[exV x F D B m t,.slice R j p] W (RoP W (vV (evE r x)))):=bZ (fun W f=>lU C R p r j J (pd M) x W F D B m t N dx ((u.keep0 f).ar) u.mc u.cm (hR.keep0 f));have K:Z (∀W,ad [] w W->Calls Tryz.prog 32 #[exV y ty ny Q m' c2,.slice R j p] W (RoP W (vV (evE r y)))):=bZ (fun W f=>lU C R p r j J (pd M) y W ty ny Q m' c2 a2 dy ((T.keep0 f).ar) T.mc T.cm (hR.keep0 f));exact yy w o i v.k v.n x.op x.ix x.lit.k x.lit.n y.op y.ix y.lit.k y.lit.n (evE r x).k (evE r x).n (evE r y).k (evE r y).n P O v.s F D x.lit.s ty ny y.lit.s (evE r x).s (evE r y).s R B Q g q c j p m t m' c2 ho hg ⟨hnc,hcm⟩ hs X Y H K _ (by rw[cdE,if_neg L])
theorem lB (w:World) (l:List Vb) (e:E) (P N:ByteArray) (A L:Option Addr) (n c h t v:Nat) (D:h=l.length) (Q:bR w L l) (R:w.cell? (U v 0)=G L h t) (hc:h<=t/\t<=maxLen):
 Calls Tryz.prog 136 #[.pointer (V v),exV e P N A n c] w (RoP w (.bool (gg l e))):=by
  obtain⟨W0,b⟩:∃W,W=w.alloc (.cells (exC e P N A n c) 26):=⟨_,rfl⟩;obtain⟨u,f⟩:∃g,g=w.heap.size:=⟨_,rfl⟩;have q:Z (ad [] w W0):=bZ (by rw[b];exact(ad.refl [] w).alloc _);have J:Z (Blk W0 u 26 (exC e P N A n c)):=bZ (by rw[b,f];exact Blk.new w 26 _);have O:=bZ (q.o.cellEq R (by simp));have tl:v<W0.heap.size:=block_lt_of_cell O.o;have r:=bZ (Q.keep0 q.o);have p:=bZ D;unfold gg;unfold exC at b J;unfold exV;generalize e.op=o at*;generalize e.ix=i at*;generalize e.lit.k=lk at*;generalize e.lit.n=ln at*;generalize e.lit.s=ls at*;clear Q R D;have y:=J.o.cell;have yl:=J.o.lt;by_cases F:o=2
  ·subst F;rw[if_pos rfl];by_cases z:0<=i
   ·obtain⟨j,rfl⟩:=Int.eq_ofNat_of_zero_le z;by_cases B:j<h
    ·obtain⟨x,M⟩:∃x,l[j]? =some x:=⟨l[j]'(by rw[<-p.o];exact B),CT _⟩;obtain⟨g,m,rfl,c0,_⟩:=r.o j x M;rw[iP M];have C:((0:Int)<=(j:Int))=True:=eq_true z;have K:(j:Int)<(h:Int):=by omega
     clear M r z;go_enter Tryz.func136,Tryz.ntmps136;go_wp2_with fail;rw[<-b,<-f];clear b f;refine ae (S:=(fun d=>d.cell? (U u 3)=some (I (j:Int))/\d.cell? (U v 0)=G (some (U g m)) h t/\d.cell? (U g (m+j*5))=some (I x.ty))) (n:=26) (by kernel_rfl) ?_;have a:(fun d:World=>d.cell? (U u 3)=some (I (j:Int))/\d.cell? (U v 0)=G (some (U g m)) h t/\d.cell? (U g (m+j*5))=some (I x.ty)) W0.drew:=⟨y 3,O.o,c0⟩
     try dsimp only at a
     refine ord [0,1,2,3,4,5,6,7,8,9,10,11,12,13,14,15,16,17,18,19,20,21,22,23,24,25] ?_
     iterate 4 (refine tq a ?_;try simp only[PT,Y1,Y2,Y3])
     iterate 8 (first | (refine tu a ?_;try simp only[PT,Y1,Y2,Y3]) | (refine tq a ?_;try simp only[PT,Y1,Y2,Y3]))
     iterate 2 (refine tq a ?_;try simp only[PT,Y1,Y2,Y3])
     iterate 10 (first | (refine tu a ?_;try simp only[PT,Y1,Y2,Y3]) | (refine tq a ?_;try simp only[PT,Y1,Y2,Y3]))
     iterate 2 (refine tq a ?_;try simp only[PT,Y1,Y2,Y3])
     refine aB ?_;refine JD ?_;clear a;go_wp2_with fail;go_ret;exact⟨rfl,bZ q.o.drew⟩
    rw[dT (by rw[<-p.o];omega)];have C:((0:Int)<=(j:Int))=True:=eq_true z;have K:((j:Int)<(h:Int))=False:=eq_false (by omega);clear r z;go_enter Tryz.func136,Tryz.ntmps136;go_wp2_with fail;rw[<-b,<-f];clear b f;refine ae (S:=(fun d=>d.cell? (U u 3)=some (I (j:Int))/\d.cell? (U v 0)=G L h t)) (n:=26) (by kernel_rfl) ?_;have a:(fun d:World=>d.cell? (U u 3)=some (I (j:Int))/\d.cell? (U v 0)=G L h t) W0.drew:=⟨y 3,O.o⟩
    try dsimp only at a
    refine ord [0,1,2,3,4,5,6,7,8,9,10,11,12,13,14,15,16,17,18,19,20,21,22,23,24,25] ?_
    iterate 4 (refine tq a ?_;try simp only[PT,Y1,Y2,Y3])
    iterate 8 (first | (refine tu a ?_;try simp only[PT,Y1,Y2,Y3]) | (refine tq a ?_;try simp only[PT,Y1,Y2,Y3]))
    iterate 2 (refine tq a ?_;try simp only[PT,Y1,Y2,Y3])
    iterate 10 (first | (refine tu a ?_;try simp only[PT,Y1,Y2,Y3]) | (refine tq a ?_;try simp only[PT,Y1,Y2,Y3]))
    iterate 2 (refine tq a ?_;try simp only[PT,Y1,Y2,Y3])
    refine aB ?_;refine JD ?_;clear a;go_wp2_with fail;go_ret;exact⟨rfl,bZ q.o.drew⟩
   rw[dT (by omega)];have C:((0:Int)<=i)=False:=eq_false z;clear r z;go_enter Tryz.func136,Tryz.ntmps136;go_wp2_with fail;rw[<-b,<-f];clear b f;refine ae (S:=(fun d=>d.cell? (U u 3)=some (I i))) (n:=26) (by kernel_rfl) ?_;have a:(fun d:World=>d.cell? (U u 3)=some (I i)) W0.drew:=y 3
   try dsimp only at a
   refine ord [0,1,2,3,4,5,6,7,8,9,10,11,12,13,14,15,16,17,18,19,20,21,22,23,24,25] ?_
   iterate 4 (refine tq a ?_;try simp only[PT,Y1,Y2,Y3])
   iterate 8 (first | (refine tu a ?_;try simp only[PT,Y1,Y2,Y3]) | (refine tq a ?_;try simp only[PT,Y1,Y2,Y3]))
   iterate 2 (refine tq a ?_;try simp only[PT,Y1,Y2,Y3])
   iterate 10 (first | (refine tu a ?_;try simp only[PT,Y1,Y2,Y3]) | (refine tq a ?_;try simp only[PT,Y1,Y2,Y3]))
   iterate 2 (refine tq a ?_;try simp only[PT,Y1,Y2,Y3])
   refine aB ?_;refine JD ?_;clear a;go_wp2_with fail;go_ret;exact⟨rfl,bZ q.o.drew⟩
  rw[if_neg F];have X:(o==2)=false:=beq_false_of_ne F;by_cases B:o=1
  ·subst B;by_cases H:lk=2
   ·subst H;clear r;go_enter Tryz.func136,Tryz.ntmps136;go_wp2_with fail;rw[<-b];go_ret;exact⟨rfl,q⟩
   have Y:(lk==2)=false:=beq_false_of_ne H;rw[decide_eq_false H,Bool.and_false];clear r H;go_enter Tryz.func136,Tryz.ntmps136;go_wp2_with fail;rw[<-b];go_ret;exact⟨rfl,q⟩
  have T:(o==1)=false:=beq_false_of_ne B;rw[decide_eq_false B,Bool.false_and];clear r B F;go_enter Tryz.func136,Tryz.ntmps136;go_wp2_with fail;rw[<-b];go_ret;exact⟨rfl,q⟩
def aj (w:World) (g:Nat):Nat->List Value->World
 | _,[]=>w
 | i,v::l=>aj (w.setCell (U g i) v) g (i+1) l
theorem gX {g:Nat} {t:TypeId}:∀ {l:List Value} {i:Nat} {w:World} {cs:Array Value},Blk w g t cs->i+l.length=cs.size->Blk (aj w g i l) g t (cs.toList.take i++l).toArray
 | [],i,w,cs,h,hl=>by
   rw[DA,C6 (by simp at hl;simp;omega)];exact h
 | v::l,i,w,cs,h,hl=>by
   have:=gX (l:=l) (i:=i+1) (h.set_ i v) (by simp at hl ⊢;omega);simp only[Dj] at hl;have e:(cs.setIfInBounds i v).toList.take (i+1)++l=cs.toList.take i++v::l:=by
    have a:i<cs.toList.length:=by simp;omega
    rw[Array.toList_setIfInBounds,Dq,List.take_set_of_le (C9 _),List.getElem?_set_self (by simpa using a)];simp
   rw[e] at this;exact this
theorem et {X:List Nat} {w0:World} {g:Nat} (a:g∈X\/w0.heap.size<=g):∀ {l:List Value} {i:Nat} {w:World},ad X w0 w->ad X w0 (aj w g i l)
 | [],i,w,h=>h
 | v::l,i,w,h=>et a (l:=l) (h.setCell (p:=(U g i)) a v)
theorem de {h g:Nat} {t:TypeId} {cs:Array Value} (a:h≠g):∀ {l:List Value} {i:Nat} {w:World},Blk w h t cs->Blk (aj w g i l) h t cs
 | [],i,w,b=>b
 | v::l,i,w,b=>de a (l:=l) (b.far (p:=(U g i)) a v)
theorem aL {w w0:World} {g:Nat} {t:TypeId} {cs:Array Value} {l:List Value} {X:List Nat} (h:Blk w g t cs) (c:l.length=cs.size) (a:g∈X\/w0.heap.size<=g) (b:ad X w0 w):Blk (aj w g 0 l) g t l.toArray/\ad X w0 (aj w g 0 l):=by
 have:=gX (l:=l) (i:=0) h (by omega);rw[EY,Dm] at this;exact⟨this,et a b⟩
def Pa.known:Pa->Bool
 | .kn _=>true
 | .am _=>false
def Pa.val:Pa->Bool
 | .kn b=>b
 | .am _=>false
def Pa.atm:Pa->Am
 | .kn _=>am0
 | .am a=>a
def paL (b vl:Bool) (a:Am) (c:Option Addr) (d:Nat):List Value:=[.bool b,.bool vl,I a.kd,I a.v,I a.o,I a.t.con,.slice c a.t.pts.length d,I a.te.v,I a.te.kd,.bool a.te.ng,.string a.te.s]
def PoP (w:World) (C:Nat->Prop) (p:Pa) (e:Ending) (c:World):Prop:=
 ∃a b,e=.returned (.agg (paL p.known p.val p.atm a b).toArray)/\Z (cP c C p.atm a b)/\Z (ad [] w c)
def PaP (w:World) (C:Nat->Prop) (r:Pa×Int) (e:Ending) (f:World):Prop:=
 ∃b vl a c d,e=.returned (.tuple #[.agg (paL b vl a c d).toArray,I r.2])/\Z (r.2=0->b=r.1.known/\vl=r.1.val/\a=r.1.atm)/\Z (cP f C a c d)/\Z (ad [] w f)
theorem np {w a:World} {C:Nat->Prop} {b:Bool} (c:ad [] w a):PoP w C (.kn b) (.returned (.agg #[.bool true,.bool b,I 0,I 0,I 0,I 0,.slice none 0 0,I 0,I 0,.bool false,.string ⟨#[]⟩])) a:=
 ⟨none,0,rfl,bZ iI,bZ c⟩
theorem ns {w b:World} {C:Nat->Prop} {k v o:Int} {a:Ts} (d:ad [] w b):PoP w C (.am ⟨k,v,o,.c 0,a⟩) (.returned (.agg #[.bool false,.bool false,I k,I v,I o,I 0,.slice none 0 0,I a.v,I a.kd,.bool a.ng,.string a.s])) b:=
 ⟨none,0,rfl,bZ rm,bZ d⟩
theorem vN (w:World) (C:Nat->Prop) (x y:E) (tx Y ty ny:ByteArray) (A B:Option Addr) (n c m d:Nat) (ps:Bool) (H:x.op=1->x.lit.s.size<=100000/\y.lit.s.size<=100000):
 Calls Tryz.prog 134 #[exV x tx Y A n c,exV y ty ny B m d,.bool ps] w (PoP w C (ii x y ps)):=by
  obtain⟨W0,a,P,Q,K,J,F⟩:=pt w 26 26 189 (exC x tx Y A n c) (exC y ty ny B m d) #[.bool false,.bool false,I 0,I 0,I 0,I 0,.slice none 0 0,I 0,I 0,.bool false,.string ⟨#[]⟩];obtain⟨M,q⟩:∃g,g=w.heap.size+2:=⟨_,rfl⟩;rw[<-q] at K;have R:=bZ P;have S:=bZ Q;have T:=bZ K;replace J:=bZ J;have D:Z (w.heap.size<=M):=bZ (by omega);have f:M=w.heap.size+1+1:=by omega
  unfold exC at a R S;unfold exV ii;by_cases j:x.op=1
  ·rw[if_pos j];have u:Z (∀W,Calls Tryz.prog 178 #[.string x.lit.s,.string y.lit.s] W (RoP W (.bool (lkB x.lit.s y.lit.s)))):=bZ (fun W=>vM W _ _ (H j).1 (H j).2);have t:Z (∀W b,Calls Tryz.prog 177 #[.bool b] W (RoP W (.agg #[.bool true,.bool b,I 0,I 0,I 0,I 0,.slice none 0 0,I 0,I 0,.bool false,.string ⟨#[]⟩]))):=bZ (fun W b=>gE W b);have hb:(x.op==1)=true:=by simp[j]
   generalize lkB x.lit.s y.lit.s=b at*;generalize x.op=xo at*;generalize x.ix=xi at*;generalize x.lit.k=xk at*;generalize x.lit.n=xn at*;generalize x.lit.s=xs at*;generalize y.op=yo at*;generalize y.ix=yi at*;generalize y.lit.k=yk at*;generalize y.lit.n=yn at*;generalize y.lit.s=ys at*;clear H j P Q K F;have a0:=bZ a;have N:=bZ f;clear q f;go_enter Tryz.func134,Tryz.ntmps134;go_wp2_with (first | (go_at_call 178;rw[<-a,<-N.o];clear a;refine(u.o _).mono ?_;rintro e w5 ⟨rfl,k5⟩) | (go_at_call 177;refine(t.o _ _).mono ?_;rintro e w6 ⟨rfl,k6⟩;have X:=bZ (k5.o.trans k6.o);have c3:=bZ (T.o.keep X.o (by simp));have z:=c3.o.cell;have zf:=c3.o.frozen;have zl:=c3.o.lt));obtain⟨wz,h⟩:∃wz,wz=aj w6 M 0 [.bool true,.bool (b==ps),I 0,I 0,I 0,I 0,.slice none 0 0,I 0,I 0,.bool false,.string ⟨#[]⟩]:=⟨_,rfl⟩;have O:=aL (l:=[.bool true,.bool (b==ps),I 0,I 0,I 0,I 0,.slice none 0 0,I 0,I 0,.bool false,.string ⟨#[]⟩]) c3.o rfl (.inr D.o) (J.o.trans X.o);rw[<-h] at O;simp only[aj,Nat.reduceAdd] at h;rw[<-h];clear h;have L:=O.1.cell;refine bodyPost_ret (v:=.agg #[.bool true,.bool (b==ps),I 0,I 0,I 0,I 0,.slice none 0 0,I 0,I 0,.bool false,.string ⟨#[]⟩]) (by simp[results,Tryz.results134,go_sem,L]) rfl ?_;exact np O.2
  rw[if_neg j];have hb:(x.op==1)=false:=beq_false_of_ne j;generalize x.op=xo at*;generalize x.ix=xi at*;generalize x.lit.k=xk at*;generalize x.lit.n=xn at*;generalize x.lit.s=xs at*;generalize y.op=yo at*;generalize y.ix=yi at*;generalize y.lit.k=yk at*;generalize y.lit.n=yn at*;generalize y.lit.s=ys at*;clear H j P Q K F J R S T a;have kf:Z (∀o p r,ad [] w (((w.alloc o).alloc p).alloc r)):=bZ (fun o p r=>(((ad.refl [] w).alloc o).alloc p).alloc r);have L:∀o p cs i,(((w.alloc o).alloc p).alloc (.cells cs 189)).cell? (U (w.heap.size+1+1) i)=cs[i]?:=fun o p cs i=>by
   have:=(Blk.new ((w.alloc o).alloc p) 189 cs).cell i;rwa [show ((w.alloc o).alloc p).heap.size=w.heap.size+1+1 by simp] at this
  clear q D f;go_enter Tryz.func134,Tryz.ntmps134;go_wp2_with fail;refine bodyPost_ret (v:=.agg #[.bool false,.bool false,I 5,I xi,I 0,I 0,.slice none 0 0,I 0,I 1,.bool (!ps),.string ys]) (by simp[results,Tryz.results134,go_sem,L]) rfl ?_;exact ns (kf.o _ _ _)
theorem aH {w c wz:World} {a:Nat} {l:List Value} {cs:Array Value} (b:w.heap.size<=a) (h:Blk c a 189 cs) (e:l.length=cs.size) (d:ad [] w c) (f:wz=aj c a 0 l):Blk wz a 189 l.toArray/\ad [] w wz:=by
 rw[f];exact aL h e (.inr b) d
theorem wL {o s:Int} (a:10<=o/\o<=15) (h:s<0):be o s=be o (-1):=iC (by omega) (by omega)
theorem wM {o s:Int} (a:10<=o/\o<=15) (h:0<s):be o s=be o 1:=iC (by omega) (by omega)
theorem sy (w:World) (C:Nat->Prop) (o:Int) (x y:E) (tx nx ty ny:ByteArray) (A B:Option Addr) (n c m d:Nat) (ho:10<=o/\o<=15):
 Calls Tryz.prog 137 #[I o,exV x tx nx A n c,exV y ty ny B m d] w (PoP w C (ej o x y)):=by
  obtain⟨W0,u,t1,t2,t3,k0,Y⟩:=pt w 26 26 189 (exC x tx nx A n c) (exC y ty ny B m d) #[.bool false,.bool false,I 0,I 0,I 0,I 0,.slice none 0 0,I 0,I 0,.bool false,.string ⟨#[]⟩];obtain⟨j,F⟩:∃g,g=w.heap.size:=⟨_,rfl⟩;obtain⟨p,H⟩:∃g,g=w.heap.size+1:=⟨_,rfl⟩;obtain⟨gr,D⟩:∃g,g=w.heap.size+1+1:=⟨_,rfl⟩;rw[<-D] at t3;rw[<-H] at t2;rw[<-F] at t1;have R:=bZ t1;have T:=bZ t2;have b3:=bZ t3;replace k0:=bZ k0;have a4:Z (w.heap.size<=gr):=bZ (by omega);have ap:Z (w.heap.size<=j):=bZ (by omega);have aq:Z (w.heap.size<=p):=bZ (by omega);have b5:j≠p:=by omega
  have b6:p≠j:=by omega
  have b7:j≠gr:=by omega
  have b0:gr≠j:=by omega
  have b8:p≠gr:=by omega
  have b4:gr≠p:=by omega
  have a2:Z (∀W b,Calls Tryz.prog 177 #[.bool b] W (RoP W (.agg #[.bool true,.bool b,I 0,I 0,I 0,I 0,.slice none 0 0,I 0,I 0,.bool false,.string ⟨#[]⟩]))):=bZ (fun W b=>gE W b);have a5:Z (∀W z,Calls Tryz.prog 179 #[I o,I z] W (RoP W (.bool (be o z)))):=bZ (fun W z=>jo W o z ho);have am:Z (∀W,Calls Tryz.prog 180 #[I o] W (RoP W (I (gw o)))):=bZ (fun W=>ni W o ho);have an:Z (∀W s,Calls Tryz.prog 181 #[I o,.string s] W (RoP W (tsV (db o s)))):=bZ (fun W s=>qg W o s ho);have au:10<=gw o/\gw o<=15:=by unfold gw;split<;>(try split)<;>(try split)<;>(try split)<;>omega
  have a9:Z (∀W s,Calls Tryz.prog 181 #[I (gw o),.string s] W (RoP W (tsV (db (gw o) s)))):=bZ (fun W s=>qg W _ s au);unfold exC at u R T;unfold exV ej;generalize x.op=xo at*;generalize x.ix=xi at*;generalize x.lit.k=xk at*;generalize x.lit.n=xn at*;generalize x.lit.s=xs at*;generalize y.op=yo at*;generalize y.ix=yi at*;generalize y.lit.k=yk at*;generalize y.lit.n=yn at*;generalize y.lit.s=ys at*;clear t1 t2 t3 Y;replace ho:=bZ ho;by_cases M:xo=1
  ·have ax:(xo==1)=true:=by simp[M]
   by_cases J:yo=1
   ·have ab:(yo==1)=true:=by simp[J]
    rw[if_pos ⟨M,J⟩];have hL:Op.bytesLess xs.toList ys.toList=decide (cJ xs ys<0):=by rw[ja,Lib.toList_data,Lib.toList_data];rfl
    have hE:(xs.toList==ys.toList)=decide (cJ xs ys=0):=by
     rw[Lib.toList_data,Lib.toList_data];unfold cJ;by_cases h:xs.data.toList=ys.data.toList
     ·rw[decide_eq_true (dU.2 h),h];exact beq_self_eq_true _
     rw[decide_eq_false (fun hh=>h (dU.1 hh))];exact beq_false_of_ne h
    clear M J;by_cases hs:cJ xs ys<0
    ·rw[wL ho.o hs];rw[decide_eq_true hs] at hL;clear hs hE;go_enter Tryz.func137,Tryz.ntmps137;go_wp2_with (first | (go_at_call 179;rw[<-u,<-D,<-H,<-F];clear u D H F;refine(a5.o _ _).mono ?_;rintro e w5 ⟨rfl,O⟩) | (go_at_call 177;refine(a2.o _ _).mono ?_;rintro e w6 ⟨rfl,k6⟩;have k7:=bZ (O.o.trans k6.o);have c3:=bZ (b3.o.keep k7.o (by simp));have z:=c3.o.cell;have zf:=c3.o.frozen;have zl:=c3.o.lt));obtain⟨wz,a⟩:∃wz,wz=aj w6 gr 0 [.bool true,.bool (be o (-1)),I 0,I 0,I 0,I 0,.slice none 0 0,I 0,I 0,.bool false,.string ⟨#[]⟩]:=⟨_,rfl⟩;have P:=aH (l:=[.bool true,.bool (be o (-1)),I 0,I 0,I 0,I 0,.slice none 0 0,I 0,I 0,.bool false,.string ⟨#[]⟩]) a4.o c3.o rfl (k0.o.trans k7.o) a;simp only[aj,Nat.reduceAdd] at a;rw[<-a];clear a;have X:=P.1.cell;refine bodyPost_ret (v:=.agg #[.bool true,.bool (be o (-1)),I 0,I 0,I 0,I 0,.slice none 0 0,I 0,I 0,.bool false,.string ⟨#[]⟩]) (by simp[results,Tryz.results137,go_sem,X]) rfl ?_;exact np P.2
    rw[decide_eq_false hs] at hL;by_cases Y:cJ xs ys=0
    ·rw[Y];rw[decide_eq_true Y] at hE;clear hs Y;go_enter Tryz.func137,Tryz.ntmps137;go_wp2_with (first | (go_at_call 179;rw[<-u,<-D,<-H,<-F];clear u D H F;refine(a5.o _ _).mono ?_;rintro e w5 ⟨rfl,O⟩) | (go_at_call 177;refine(a2.o _ _).mono ?_;rintro e w6 ⟨rfl,k6⟩;have k7:=bZ (O.o.trans k6.o);have c3:=bZ (b3.o.keep k7.o (by simp));have z:=c3.o.cell;have zf:=c3.o.frozen;have zl:=c3.o.lt));obtain⟨wz,a⟩:∃wz,wz=aj w6 gr 0 [.bool true,.bool (be o 0),I 0,I 0,I 0,I 0,.slice none 0 0,I 0,I 0,.bool false,.string ⟨#[]⟩]:=⟨_,rfl⟩;have P:=aH (l:=[.bool true,.bool (be o 0),I 0,I 0,I 0,I 0,.slice none 0 0,I 0,I 0,.bool false,.string ⟨#[]⟩]) a4.o c3.o rfl (k0.o.trans k7.o) a;simp only[aj,Nat.reduceAdd] at a;rw[<-a];clear a;have X:=P.1.cell;refine bodyPost_ret (v:=.agg #[.bool true,.bool (be o 0),I 0,I 0,I 0,I 0,.slice none 0 0,I 0,I 0,.bool false,.string ⟨#[]⟩]) (by simp[results,Tryz.results137,go_sem,X]) rfl ?_;exact np P.2
    rw[wM ho.o (by omega)];rw[decide_eq_false Y] at hE;clear hs Y;go_enter Tryz.func137,Tryz.ntmps137;go_wp2_with (first | (go_at_call 179;rw[<-u,<-D,<-H,<-F];clear u D H F;refine(a5.o _ _).mono ?_;rintro e w5 ⟨rfl,O⟩) | (go_at_call 177;refine(a2.o _ _).mono ?_;rintro e w6 ⟨rfl,k6⟩;have k7:=bZ (O.o.trans k6.o);have c3:=bZ (b3.o.keep k7.o (by simp));have z:=c3.o.cell;have zf:=c3.o.frozen;have zl:=c3.o.lt));obtain⟨wz,a⟩:∃wz,wz=aj w6 gr 0 [.bool true,.bool (be o 1),I 0,I 0,I 0,I 0,.slice none 0 0,I 0,I 0,.bool false,.string ⟨#[]⟩]:=⟨_,rfl⟩;have P:=aH (l:=[.bool true,.bool (be o 1),I 0,I 0,I 0,I 0,.slice none 0 0,I 0,I 0,.bool false,.string ⟨#[]⟩]) a4.o c3.o rfl (k0.o.trans k7.o) a;simp only[aj,Nat.reduceAdd] at a;rw[<-a];clear a;have X:=P.1.cell;refine bodyPost_ret (v:=.agg #[.bool true,.bool (be o 1),I 0,I 0,I 0,I 0,.slice none 0 0,I 0,I 0,.bool false,.string ⟨#[]⟩]) (by simp[results,Tryz.results137,go_sem,X]) rfl ?_;exact np P.2
   rw[if_neg (fun h=>J h.2),if_pos M];have ab:(yo==1)=false:=beq_false_of_ne J;clear M J;obtain⟨L,a6⟩:∃t,t=db (gw o) xs:=⟨_,rfl⟩;have HT:=bZ (fun W=>a9.o W xs);unfold tsV at HT;rw[<-a6] at HT ⊢;clear a6;go_enter Tryz.func137,Tryz.ntmps137;go_upto_region 8 with fail;rw[<-u,<-D,<-H,<-F];clear u D H F;have y1:=R.o.cell;have y2:=T.o.cell;have l1:=R.o.lt;have l2:=T.o.lt;refine ae (S:=(fun f:World=>(f.cell? (U j 0)=some (I xo)/\f.cell? (U j 1)=some (.string tx)/\f.cell? (U j 2)=some (.string nx)/\f.cell? (U j 3)=some (I xi)/\f.cell? (U j 4)=some (I xk)/\f.cell? (U j 5)=some (I xn)/\f.cell? (U j 6)=some (.string xs)/\f.cell? (U j 7)=G A n c)/\(f.cell? (U p 0)=some (I yo)/\f.cell? (U p 1)=some (.string ty)/\f.cell? (U p 2)=some (.string ny)/\f.cell? (U p 3)=some (I yi)/\f.cell? (U p 4)=some (I yk)/\f.cell? (U p 5)=some (I yn)/\f.cell? (U p 6)=some (.string ys)/\f.cell? (U p 7)=G B m d))) (n:=4) (by kernel_rfl) ?_;have aa:Z (∀W,ad [] W0 W->(fun f:World=>(f.cell? (U j 0)=some (I xo)/\f.cell? (U j 1)=some (.string tx)/\f.cell? (U j 2)=some (.string nx)/\f.cell? (U j 3)=some (I xi)/\f.cell? (U j 4)=some (I xk)/\f.cell? (U j 5)=some (I xn)/\f.cell? (U j 6)=some (.string xs)/\f.cell? (U j 7)=G A n c)/\(f.cell? (U p 0)=some (I yo)/\f.cell? (U p 1)=some (.string ty)/\f.cell? (U p 2)=some (.string ny)/\f.cell? (U p 3)=some (I yi)/\f.cell? (U p 4)=some (I yk)/\f.cell? (U p 5)=some (I yn)/\f.cell? (U p 6)=some (.string ys)/\f.cell? (U p 7)=G B m d)) W):=bZ (fun W h=>⟨⟨(R.o.keep h (by simp)).cell 0,(R.o.keep h (by simp)).cell 1,(R.o.keep h (by simp)).cell 2,(R.o.keep h (by simp)).cell 3,(R.o.keep h (by simp)).cell 4,(R.o.keep h (by simp)).cell 5,(R.o.keep h (by simp)).cell 6,(R.o.keep h (by simp)).cell 7⟩,(T.o.keep h (by simp)).cell 0,(T.o.keep h (by simp)).cell 1,(T.o.keep h (by simp)).cell 2,(T.o.keep h (by simp)).cell 3,(T.o.keep h (by simp)).cell 4,(T.o.keep h (by simp)).cell 5,(T.o.keep h (by simp)).cell 6,(T.o.keep h (by simp)).cell 7⟩);have N:=aa.o W0.drew (ad.refl [] W0).drew
   try dsimp only at N
   clear y1 y2 l1 l2;refine ord [0,1,2] ?_
   iterate 3 (refine tq N ?_;try simp only[PT,Y1,Y2,Y3])
   refine aB ?_;refine J1 3 fun K hK=>?_;dsimp only[Y1,Y2,Y3];go_simp;refine(am.o _).mono ?_;rintro e w4 ⟨rfl,k4⟩;replace k4:=bZ ((ad.refl [] W0).drew.trans k4.o);have r:=aa.o w4 k4.o
   try dsimp only at r
   have c1:=bZ (R.o.keep k4.o (by simp));have c2:=bZ (T.o.keep k4.o (by simp));have c3:=bZ (b3.o.keep k4.o (by simp));have kk:=bZ (k0.o.trans k4.o);refine hK _ _ (.inr r) ?_;clear hK K N aa;have N:=r;clear r
   try simp only[PT,Y1,Y2,Y3]
   refine J1 4 fun K hK=>?_;dsimp only[Y1,Y2,Y3];have y1:=c1.o.cell;have yf:=c1.o.frozen;have yl:=c1.o.lt;go_simp;obtain⟨w7,a⟩:∃wz,wz=aj w4 j 0 [I yo,.string ty,.string ny,I yi,I yk,I yn,.string ys,.slice B m d]:=⟨_,rfl⟩;have q:=bZ (gX (l:=[I yo,.string ty,.string ny,I yi,I yk,I yn,.string ys,.slice B m d]) (i:=0) c1.o rfl);have ak:=bZ (de (l:=[I yo,.string ty,.string ny,I yi,I yk,I yn,.string ys,.slice B m d]) (i:=0) b6 c2.o);have a1:=bZ (de (l:=[I yo,.string ty,.string ny,I yi,I yk,I yn,.string ys,.slice B m d]) (i:=0) b0 c3.o);have qk:=bZ (et (g:=j) (l:=[I yo,.string ty,.string ny,I yi,I yk,I yn,.string ys,.slice B m d]) (i:=0) (.inr ap.o) kk.o);rw[<-a] at q qk ak a1;simp only[aj,Nat.reduceAdd] at a;rw[<-a];clear a y1 yf yl kk c1 c2 c3;have c1:Z (Blk w7 j 26 #[I yo,.string ty,.string ny,I yi,I yk,I yn,.string ys,.slice B m d]):=q;have c2:=ak;have c3:=a1;have kk:=qk;clear q qk ak a1;refine hK _ _ (.inl (by omega)) ?_;clear hK K
   try simp only[PT,Y1,Y2,Y3]
   refine J1 5 fun K hK=>?_;dsimp only[Y1,Y2,Y3];have y1:=c2.o.cell;have yf:=c2.o.frozen;have yl:=c2.o.lt;go_simp;obtain⟨w8,a⟩:∃wz,wz=aj w7 p 0 [I xo,.string tx,.string nx,I xi,I xk,I xn,.string xs,.slice A n c]:=⟨_,rfl⟩;have q:=bZ (gX (l:=[I xo,.string tx,.string nx,I xi,I xk,I xn,.string xs,.slice A n c]) (i:=0) c2.o rfl);have ac:=bZ (de (l:=[I xo,.string tx,.string nx,I xi,I xk,I xn,.string xs,.slice A n c]) (i:=0) b5 c1.o);have a1:=bZ (de (l:=[I xo,.string tx,.string nx,I xi,I xk,I xn,.string xs,.slice A n c]) (i:=0) b4 c3.o);have qk:=bZ (et (g:=p) (l:=[I xo,.string tx,.string nx,I xi,I xk,I xn,.string xs,.slice A n c]) (i:=0) (.inr aq.o) kk.o);rw[<-a] at q qk ac a1;simp only[aj,Nat.reduceAdd] at a;rw[<-a];clear a y1 yf yl kk c2 c1 c3;have c2:Z (Blk w8 p 26 #[I xo,.string tx,.string nx,I xi,I xk,I xn,.string xs,.slice A n c]):=q;have c1:=ac;have c3:=a1;have kk:=qk;clear q qk ac a1;refine hK _ _ (.inl (by omega)) ?_;clear hK K
   try simp only[PT,Y1,Y2,Y3]
   refine JQ 6 ?_
   try simp only[PT,Y1,Y2,Y3]
   refine JD ?_;clear N;obtain⟨wo,av⟩:∃x,x=w8:=⟨_,rfl⟩;subst av;have y1:=c1.o.cell;have y2:=c2.o.cell;have l1:=c1.o.lt;have l2:=c2.o.lt;go_upto_region 10 with fail;refine ae (S:=(fun f:World=>f.cell? (U j 3)=some (I yi)/\f.cell? (U p 6)=some (.string xs))) (n:=9) (by kernel_rfl) ?_;have N:(fun f:World=>f.cell? (U j 3)=some (I yi)/\f.cell? (U p 6)=some (.string xs)) wo.drew:=⟨y1 3,y2 6⟩
   try dsimp only at N
   refine ord [0,1,2,3,4,5] ?_
   iterate 6 (refine tq N ?_;try simp only[PT,Y1,Y2,Y3])
   refine aB ?_;refine J1 6 fun K hK=>?_;dsimp only[Y1,Y2,Y3];go_simp;refine(HT.o _).mono ?_;rintro e w5 ⟨rfl,O⟩;replace O:=bZ ((ad.refl [] wo).drew.trans O.o);have r:(fun f:World=>f.cell? (U j 3)=some (I yi)/\f.cell? (U p 6)=some (.string xs)) w5:=⟨(c1.o.keep O.o (by simp)).cell 3,(c2.o.keep O.o (by simp)).cell 6⟩
   try dsimp only at r
   have c3:=bZ (c3.o.keep O.o (by simp));have z:=c3.o.cell;have zf:=c3.o.frozen;have zl:=c3.o.lt;refine hK _ _ (.inr r) ?_;clear hK K N;have N:=r;clear r
   try simp only[PT,Y1,Y2,Y3]
   refine ord [7,8] ?_
   iterate 2 (refine tq N ?_;try simp only[PT,Y1,Y2,Y3])
   refine aB ?_;refine JQ 9 ?_
   try simp only[PT,Y1,Y2,Y3]
   refine JD ?_;clear N;go_wp2_with fail;obtain⟨wz,a⟩:∃wz,wz=aj w5 gr 0 [.bool false,.bool false,I 5,I yi,I 0,I 0,.slice none 0 0,I L.v,I L.kd,.bool L.ng,.string L.s]:=⟨_,rfl⟩;have P:=aH (l:=[.bool false,.bool false,I 5,I yi,I 0,I 0,.slice none 0 0,I L.v,I L.kd,.bool L.ng,.string L.s]) a4.o c3.o rfl (kk.o.trans O.o) a;simp only[aj,Nat.reduceAdd] at a;rw[<-a];clear a;have X:=P.1.cell;refine bodyPost_ret (v:=.agg #[.bool false,.bool false,I 5,I yi,I 0,I 0,.slice none 0 0,I L.v,I L.kd,.bool L.ng,.string L.s]) (by simp[results,Tryz.results137,go_sem,X]) rfl ?_;exact ns P.2
  have ax:(xo==1)=false:=beq_false_of_ne M;rw[if_neg (fun h=>M h.1),if_neg M];by_cases J:yo=1
  ·have ab:(yo==1)=true:=by simp[J]
   rw[if_pos J];clear M J;obtain⟨L,a6⟩:∃t,t=db o ys:=⟨_,rfl⟩;have HT:=bZ (fun W=>an.o W ys);unfold tsV at HT;rw[<-a6] at HT ⊢;clear a6;go_enter Tryz.func137,Tryz.ntmps137;go_upto_region 9 with fail;rw[<-u,<-D,<-H,<-F];clear u D H F;have kk:=k0;have y1:=R.o.cell;have y2:=T.o.cell;have l1:=R.o.lt;have l2:=T.o.lt;go_upto_region 10 with fail;refine ae (S:=(fun f:World=>f.cell? (U j 3)=some (I xi)/\f.cell? (U p 6)=some (.string ys))) (n:=9) (by kernel_rfl) ?_;have N:(fun f:World=>f.cell? (U j 3)=some (I xi)/\f.cell? (U p 6)=some (.string ys)) W0.drew:=⟨y1 3,y2 6⟩
   try dsimp only at N
   refine ord [0,1,2,3,4,5] ?_
   iterate 6 (refine tq N ?_;try simp only[PT,Y1,Y2,Y3])
   refine aB ?_;refine J1 6 fun K hK=>?_;dsimp only[Y1,Y2,Y3];go_simp;refine(HT.o _).mono ?_;rintro e w5 ⟨rfl,O⟩;replace O:=bZ ((ad.refl [] W0).drew.trans O.o);have r:(fun f:World=>f.cell? (U j 3)=some (I xi)/\f.cell? (U p 6)=some (.string ys)) w5:=⟨(R.o.keep O.o (by simp)).cell 3,(T.o.keep O.o (by simp)).cell 6⟩
   try dsimp only at r
   have c3:=bZ (b3.o.keep O.o (by simp));have z:=c3.o.cell;have zf:=c3.o.frozen;have zl:=c3.o.lt;refine hK _ _ (.inr r) ?_;clear hK K N;have N:=r;clear r
   try simp only[PT,Y1,Y2,Y3]
   refine ord [7,8] ?_
   iterate 2 (refine tq N ?_;try simp only[PT,Y1,Y2,Y3])
   refine aB ?_;refine JQ 9 ?_
   try simp only[PT,Y1,Y2,Y3]
   refine JD ?_;clear N;go_wp2_with fail;obtain⟨wz,a⟩:∃wz,wz=aj w5 gr 0 [.bool false,.bool false,I 5,I xi,I 0,I 0,.slice none 0 0,I L.v,I L.kd,.bool L.ng,.string L.s]:=⟨_,rfl⟩;have P:=aH (l:=[.bool false,.bool false,I 5,I xi,I 0,I 0,.slice none 0 0,I L.v,I L.kd,.bool L.ng,.string L.s]) a4.o c3.o rfl (kk.o.trans O.o) a;simp only[aj,Nat.reduceAdd] at a;rw[<-a];clear a;have X:=P.1.cell;refine bodyPost_ret (v:=.agg #[.bool false,.bool false,I 5,I xi,I 0,I 0,.slice none 0 0,I L.v,I L.kd,.bool L.ng,.string L.s]) (by simp[results,Tryz.results137,go_sem,X]) rfl ?_;exact ns P.2
  have ab:(yo==1)=false:=beq_false_of_ne J;rw[if_neg J];clear M J;by_cases hi:xi=yi
  ·rw[if_pos hi];have ar:(xi==yi)=true:=by simp[hi]
   clear hi;go_enter Tryz.func137,Tryz.ntmps137;go_wp2_with ((go_at_call 177;rw[<-u,<-D,<-H,<-F];clear u D H F;refine(a2.o _ _).mono ?_;rintro e w6 ⟨rfl,k6⟩;have k7:=bZ (((ad.refl [] W0)).trans k6.o);have c3:=bZ (b3.o.keep k7.o (by simp));have z:=c3.o.cell;have zf:=c3.o.frozen;have zl:=c3.o.lt));obtain⟨wz,a⟩:∃wz,wz=aj w6 gr 0 [.bool true,.bool (o==10),I 0,I 0,I 0,I 0,.slice none 0 0,I 0,I 0,.bool false,.string ⟨#[]⟩]:=⟨_,rfl⟩;have P:=aH (l:=[.bool true,.bool (o==10),I 0,I 0,I 0,I 0,.slice none 0 0,I 0,I 0,.bool false,.string ⟨#[]⟩]) a4.o c3.o rfl (k0.o.trans k7.o) a;simp only[aj,Nat.reduceAdd] at a;rw[<-a];clear a;have X:=P.1.cell;refine bodyPost_ret (v:=.agg #[.bool true,.bool (o==10),I 0,I 0,I 0,I 0,.slice none 0 0,I 0,I 0,.bool false,.string ⟨#[]⟩]) (by simp[results,Tryz.results137,go_sem,X]) rfl ?_;exact np P.2
  rw[if_neg hi];have ar:(xi==yi)=false:=beq_false_of_ne hi;clear hi;have kf:=k0;by_cases a3:o=11
  ·rw[if_pos a3];have ao:(o==11)=true:=by simp[a3]
   clear a3;go_enter Tryz.func137,Tryz.ntmps137;go_wp2_with fail;have X:∀o Q cs i,(((w.alloc o).alloc Q).alloc (.cells cs 189)).cell? (U (w.heap.size+1+1) i)=cs[i]?:=fun o Q cs i=>by
    have:=(Blk.new ((w.alloc o).alloc Q) 189 cs).cell i;rwa [show ((w.alloc o).alloc Q).heap.size=w.heap.size+1+1 by simp] at this
   have kz:∀o Q a0,ad [] w (((w.alloc o).alloc Q).alloc a0):=fun o Q a0=>(((ad.refl [] w).alloc o).alloc Q).alloc a0;skip;refine bodyPost_ret (v:=.agg #[.bool false,.bool false,I 7,I (min xi yi),I (max xi yi),I 0,.slice none 0 0,I 0,I 0,.bool false,.string ⟨#[]⟩]) (by simp[results,Tryz.results137,go_sem,X]) rfl ?_;exact ns (kz _ _ _)
  rw[if_neg a3];have ao:(o==11)=false:=by exact beq_false_of_ne a3
  clear a3;go_enter Tryz.func137,Tryz.ntmps137;go_wp2_with fail;have X:∀o Q cs i,(((w.alloc o).alloc Q).alloc (.cells cs 189)).cell? (U (w.heap.size+1+1) i)=cs[i]?:=fun o Q cs i=>by
   have:=(Blk.new ((w.alloc o).alloc Q) 189 cs).cell i;rwa [show ((w.alloc o).alloc Q).heap.size=w.heap.size+1+1 by simp] at this
  have kz:∀o Q a0,ad [] w (((w.alloc o).alloc Q).alloc a0):=fun o Q a0=>(((ad.refl [] w).alloc o).alloc Q).alloc a0;skip;refine bodyPost_ret (v:=.agg #[.bool false,.bool false,I 6,I (min xi yi),I (max xi yi),I 0,.slice none 0 0,I 0,I 0,.bool false,.string ⟨#[]⟩]) (by simp[results,Tryz.results137,go_sem,X]) rfl ?_;exact ns (kz _ _ _)
end Go.Proofs.YtldmkbhgdbafhaaGreat
